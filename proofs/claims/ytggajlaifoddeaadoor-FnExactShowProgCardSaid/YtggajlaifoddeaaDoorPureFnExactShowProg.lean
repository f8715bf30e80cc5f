/- ShowProg of the program and of the reference return the same for every list of instructions, and the list stays as it was; no condition. -/
import Derived.Test.YtggajlaifoddeaaDoorOpen
import Derived.Test.YtggajlaifoddeaaDoorPLib
import Derived.Test.YtggajlaifoddeaaDoorPFnExactShowProgx6
namespace Go.Proofs.YtggajlaifoddeaaDoor.Pure
open Go.Proofs.YtggajlaifoddeaaDoorStrs Go.RowKit Go.Proofs.YtggajlaifoddeaaDoorOpen Go.Proofs.YtggajlaifoddeaaDoorPLib Go.Proofs.YtggajlaifoddeaaDoor.PFnExactShowProg Go.Proofs.YtggajlaifoddeaaDoorW.PrintWords Go.Proofs.YtggajlaifoddeaaDoorW.PrintLast
set_option linter.unusedVariables false
set_option linter.unusedSimpArgs false

theorem l1In_eq (a b c : Int) : spec_l1In.f a b c = some (btw a b c) := by
  unfold spec_l1In.f btw
  by_cases h : b ≤ a
  · rw [if_pos h]; simp [h]
  · rw [if_neg h]; simp [h]
theorem within_eq (a b c : Int) : impl_within.f a b c = some (btw a b c) := by
  unfold impl_within.f btw
  by_cases h : b ≤ a
  · rw [if_pos h]; simp [h]
  · rw [if_neg h]; simp [h]
/-- What the document asks of an instruction. -/
def insB (op a b : Int) : Bool :=
  if op = 0 then btw a 0 90 && b == 0
  else if op = 1 ∨ op = 2 ∨ op = 9 then btw a (-1) 59 && b == 0
  else if op = 3 then btw a (-1) 59 && btw b 0 1000
  else if op = 4 then btw a (-1) 59 && btw b 0 999
  else if op = 5 then btw a 0 12 && b == 0
  else if op = 6 ∨ op = 7 then btw a 0 7 && btw b 0 7
  else if op = 8 then btw a 0 7 && b == 0
  else if op = 10 then btw a (-1) 59 && btw b 1 9
  else false
theorem spec_ins (k : Nat) (op a b : Int) : spec_InsOk.f (k + 3) op a b = some (insB op a b) := by
  by_cases h0 : op = 0
  · subst h0
    cases hA : btw a 0 90 <;> simp [spec_InsOk.f, l1In_eq, insB, hA] <;> simp_all
  by_cases h1 : op = 1
  · subst h1
    cases hA : btw a (-1) 59 <;> simp_all [spec_InsOk.f, spec_InsOk.j0, spec_l9Leash.f, l1In_eq, insB]
  by_cases h2 : op = 2
  · subst h2
    cases hA : btw a (-1) 59 <;> simp_all [spec_InsOk.f, spec_InsOk.j0, spec_l9Leash.f, l1In_eq, insB]
  by_cases h9 : op = 9
  · subst h9
    cases hA : btw a (-1) 59 <;> simp_all [spec_InsOk.f, spec_InsOk.j0, spec_l9Leash.f, l1In_eq, insB]
  by_cases h3 : op = 3
  · subst h3
    cases hA : btw a (-1) 59 <;> simp_all [spec_InsOk.f, spec_InsOk.j0, spec_l9Leash.f, l1In_eq, insB]
  by_cases h4 : op = 4
  · subst h4
    cases hA : btw a (-1) 59 <;> simp_all [spec_InsOk.f, spec_InsOk.j0, spec_l9Leash.f, l1In_eq, insB]
  by_cases h5 : op = 5
  · subst h5
    cases hA : btw a 0 12 <;> simp_all [spec_InsOk.f, spec_InsOk.j0, l1In_eq, insB]
  by_cases h6 : op = 6
  · subst h6
    cases hA : btw a 0 7 <;> simp_all [spec_InsOk.f, spec_InsOk.j0, spec_InsOk.j1, l1In_eq, insB]
  by_cases h7 : op = 7
  · subst h7
    cases hA : btw a 0 7 <;> simp_all [spec_InsOk.f, spec_InsOk.j0, spec_InsOk.j1, l1In_eq, insB]
  by_cases h8 : op = 8
  · subst h8
    cases hA : btw a 0 7 <;> simp_all [spec_InsOk.f, spec_InsOk.j0, spec_InsOk.j1, l1In_eq, insB]
  by_cases h10 : op = 10
  · subst h10
    cases hA : btw a (-1) 59 <;> simp_all [spec_InsOk.f, spec_InsOk.j0, spec_InsOk.j1, spec_l9Leash.f, l1In_eq, insB]
  simp [spec_InsOk.f, spec_InsOk.j0, spec_InsOk.j1, insB, *]
theorem impl_ins (k : Nat) (op a b : Int) : impl_InsOk.f (k + 3) op a b = some (insB op a b) := by
  by_cases h0 : op = 0
  · subst h0
    have hn : impl_hasNode.f 0 = some false := by decide
    cases hA : btw a 0 90 <;> by_cases hb : b = 0 <;> simp_all [impl_InsOk.f, impl_InsOk.j0, impl_hasB.f, within_eq, insB]
  by_cases h1 : op = 1
  · subst h1
    have hn : impl_hasNode.f 1 = some true := by decide
    cases hA : btw a (-1) 59 <;> by_cases hb : b = 0 <;> simp_all [impl_InsOk.f, impl_InsOk.j0, impl_InsOk.j1, impl_hasB.f, within_eq, insB]
  by_cases h2 : op = 2
  · subst h2
    have hn : impl_hasNode.f 2 = some true := by decide
    cases hA : btw a (-1) 59 <;> by_cases hb : b = 0 <;> simp_all [impl_InsOk.f, impl_InsOk.j0, impl_InsOk.j1, impl_hasB.f, within_eq, insB]
  by_cases h9 : op = 9
  · subst h9
    have hn : impl_hasNode.f 9 = some true := by decide
    cases hA : btw a (-1) 59 <;> by_cases hb : b = 0 <;> simp_all [impl_InsOk.f, impl_InsOk.j0, impl_InsOk.j1, impl_hasB.f, within_eq, insB]
  by_cases h3 : op = 3
  · subst h3
    have hn : impl_hasNode.f 3 = some true := by decide
    cases hA : btw a (-1) 59 <;> simp_all [impl_InsOk.f, impl_InsOk.j0, impl_InsOk.j1, impl_hasB.f, within_eq, insB]
  by_cases h4 : op = 4
  · subst h4
    have hn : impl_hasNode.f 4 = some true := by decide
    cases hA : btw a (-1) 59 <;> simp_all [impl_InsOk.f, impl_InsOk.j0, impl_InsOk.j1, impl_hasB.f, within_eq, insB]
  by_cases h5 : op = 5
  · subst h5
    have hn : impl_hasNode.f 5 = some false := by decide
    by_cases hb : b = 0 <;> simp_all [impl_InsOk.f, impl_InsOk.j0, impl_InsOk.j1, impl_hasB.f, within_eq, insB]
  by_cases h6 : op = 6
  · subst h6
    have hn : impl_hasNode.f 6 = some false := by decide
    cases hA : btw a 0 7 <;> simp_all [impl_InsOk.f, impl_InsOk.j0, impl_InsOk.j1, impl_InsOk.j2, impl_hasB.f, within_eq, insB]
  by_cases h7 : op = 7
  · subst h7
    have hn : impl_hasNode.f 7 = some false := by decide
    cases hA : btw a 0 7 <;> simp_all [impl_InsOk.f, impl_InsOk.j0, impl_InsOk.j1, impl_InsOk.j2, impl_hasB.f, within_eq, insB]
  by_cases h8 : op = 8
  · subst h8
    have hn : impl_hasNode.f 8 = some false := by decide
    by_cases hb : b = 0 <;> simp_all [impl_InsOk.f, impl_InsOk.j0, impl_InsOk.j1, impl_InsOk.j2, impl_hasB.f, within_eq, insB]
  by_cases h10 : op = 10
  · subst h10
    have hn : impl_hasNode.f 10 = some true := by decide
    cases hA : btw a (-1) 59 <;> simp_all [impl_InsOk.f, impl_InsOk.j0, impl_InsOk.j1, impl_InsOk.j2, impl_hasB.f, within_eq, insB]
  have hn : impl_hasNode.f op = some false := by
    unfold impl_hasNode.f
    rw [within_eq]
    have : btw op 1 4 = false := by
      rw [Bool.eq_false_iff]
      intro h
      have := btw_iff.1 h
      omega
    simp [h9, h10, this]
  have hb : impl_hasB.f op = some false := by simp [impl_hasB.f, *]
  by_cases hb0 : b = 0 <;> simp [impl_InsOk.f, hn, hb, impl_InsOk.j0, impl_InsOk.j1, impl_InsOk.j2, insB, *]
theorem sz_InsS (l : List S45) (left : Int) (hl : 0 ≤ left) (hl2 : left ≤ 1048576) (hn : l.length ≤ 9223372036854775807) : laws_szInsS.f l left = some (if (l.length : Int) ≤ left then left - (l.length : Int) else -1) := by
  unfold laws_szInsS.f
  rw [wrap_id (by omega) (by omega)]
  by_cases h : (l.length : Int) ≤ left
  · rw [if_neg (by omega), if_pos h]
  · rw [if_pos (by omega), if_neg h]
/-- An element of the statements as one of the program. -/
def ofInsS (x : S45) : S34 := ⟨x.f0, x.f1, x.f2⟩
theorem to_InsS (l : List S45) (hn : l.length ≤ 1048576) : ∃ K, ∀ k, K ≤ k → laws_toInsS.f k l = some (l.map ofInsS) := by
  obtain ⟨K, e⟩ := ev_copy (fun k a b i => laws_toInsS.l0 k a b i) ofInsS z45 (fun k x0 x3 i => by
    show laws_toInsS.l0 (k + 1) x0 x3 i = _
    simp only [laws_toInsS.l0, laws_toIns.f, Option.bind_some]
    rfl) l z34 (by omega)
  refine ⟨K, fun k hk => ?_⟩
  unfold laws_toInsS.f
  rw [if_pos (by omega), if_pos (by omega), Int.toNat_natCast]
  exact e k hk
theorem eq_InsS (l : List S34) (hn : l.length ≤ 4611686018427387904) : ∃ K, ∀ k, K ≤ k → laws_eqInsS.f k l l = some true := by
  obtain ⟨K, e⟩ := ev_same (fun k a b i => laws_eqInsS.l0 k a b i) l (fun k i h0 h1 => by
    show laws_eqInsS.l0 (k + 1) l l i = laws_eqInsS.l0 k l l (wrap64 (i + 1))
    generalize hw : laws_eqInsS.l0 k l l (wrap64 (i + 1)) = R
    rw [laws_eqInsS.l0, hw]
    simp [laws_eqIns.f, h0, h1]) (fun k i h => by
    show laws_eqInsS.l0 (k + 1) l l i = _
    rw [laws_eqInsS.l0, if_neg h]) hn
  refine ⟨K, fun k hk => ?_⟩
  unfold laws_eqInsS.f
  rw [if_pos rfl]
  exact e k hk
/-- What the document asks of a program. -/
def insAt (l : List S34) (i : Int) : Bool := insB (rd_T34 l i).f0 (rd_T34 l i).f1 (rd_T34 l i).f2
def progB (l : List S34) : Bool := decide ((l.length : Int) ≤ 12) && allFrom (insAt l) l.length 0
theorem spec_ins3 (k : Nat) (h : 3 ≤ k) (op a b : Int) : spec_InsOk.f k op a b = some (insB op a b) := by
  obtain ⟨m, rfl⟩ : ∃ m, k = m + 3 := ⟨k - 3, by omega⟩
  exact spec_ins m op a b
theorem impl_ins3 (k : Nat) (h : 3 ≤ k) (op a b : Int) : impl_InsOk.f k op a b = some (insB op a b) := by
  obtain ⟨m, rfl⟩ : ∃ m, k = m + 3 := ⟨k - 3, by omega⟩
  exact impl_ins m op a b
theorem spec_prog_loop (l : List S34) (hl : l.length ≤ 1048576) : ∀ (m j k : Nat), j + m = l.length → m + 3 < k → spec_ProgOk.l0 k l (j : Int) = some (allFrom (insAt l) m j && decide ((l.length : Int) ≤ 12)) := by
  intro m
  induction m with
  | zero =>
    intro j k hj hk
    obtain ⟨q, rfl⟩ : ∃ q, k = q + 1 := ⟨k - 1, by omega⟩
    rw [spec_ProgOk.l0, if_neg (by omega)]
    simp [allFrom]
  | succ m ih =>
    intro j k hj hk
    obtain ⟨q, rfl⟩ : ∃ q, k = q + 1 := ⟨k - 1, by omega⟩
    rw [spec_ProgOk.l0, if_pos (by omega), if_pos (by omega), spec_ins3 q (by omega)]
    have e := ih (j + 1) q (by omega) (by omega)
    rw [wrap_id (by omega) (by omega)]
    unfold allFrom
    simp only [Option.bind_some]
    show (if insAt l j = true then _ else _) = _
    cases h : insAt l j
    · simp
    · simp only [if_true, Bool.true_and]
      simpa using e
theorem spec_prog (l : List S34) (hl : l.length ≤ 1048576) : ∃ K, ∀ k, K ≤ k → spec_ProgOk.f k l = some (progB l) := by
  refine ⟨l.length + 4, fun k hk => ?_⟩
  have e := spec_prog_loop l hl l.length 0 k (by omega) (by omega)
  unfold spec_ProgOk.f progB
  rw [Bool.and_comm]
  simpa using e
theorem impl_badins (l : List S34) (hl : l.length ≤ 1048576) : ∃ K, ∀ k, K ≤ k → impl_Ins_33.f k l = some (!allFrom (insAt l) l.length 0) := by
  obtain ⟨K, e⟩ := ev_all (fun k i => (impl_Ins_47.l0 k l (l.length : Int) i).bind fun t => some (!decide (t ≥ 0))) (insAt l) l.length 3 (fun k i hk h0 h1 => by
    show (impl_Ins_47.l0 (k + 1) l (l.length : Int) i).bind (fun t => some (!decide (t ≥ 0))) = if insAt l i = true then (impl_Ins_47.l0 k l (l.length : Int) (wrap64 (i + 1))).bind (fun t => some (!decide (t ≥ 0))) else some false
    rw [impl_Ins_47.l0, if_pos h1, if_pos h0, if_pos h1]
    unfold impl_ProgOk_1.f
    rw [impl_ins3 k hk]
    show ((some (!insAt l i)).bind _).bind _ = _
    cases h : insAt l i
    · simp [h0]
    · simp) (fun k i h => by
    show (impl_Ins_47.l0 (k + 1) l (l.length : Int) i).bind (fun t => some (!decide (t ≥ 0))) = _
    rw [impl_Ins_47.l0, if_neg h]
    rfl) (by omega)
  refine ⟨K, fun k hk => ?_⟩
  have q := e k hk
  simp only at q
  unfold impl_Ins_33.f impl_Ins_47.f
  cases h : impl_Ins_47.l0 k l (l.length : Int) 0 with
  | none => rw [h] at q; simp at q
  | some t =>
    rw [h] at q
    simp only [Option.bind_some, Option.some.injEq] at q ⊢
    rw [← q, Bool.not_not]
theorem impl_prog (l : List S34) (hl : l.length ≤ 1048576) : ∃ K, ∀ k, K ≤ k → impl_ProgOk.f k l = some (progB l) := by
  obtain ⟨K, e⟩ := impl_badins l hl
  refine ⟨K, fun k hk => ?_⟩
  unfold impl_ProgOk.f progB
  rw [e k hk]
  by_cases h : (l.length : Int) ≤ 12
  · rw [if_pos h]
    simp [h]
  · rw [if_neg h]
    simp [h]
/-- The bytes as a text. -/
def Bs (l : List UInt8) : ByteArray := ⟨l.toArray⟩
theorem Bs_app (a b : List UInt8) : Bs a ++ Bs b = Bs (a ++ b) := by
  apply ByteArray.ext
  rw [ByteArray.data_append]
  show a.toArray ++ b.toArray = (a ++ b).toArray
  simp
theorem Bs_size (l : List UInt8) : (Bs l).size = l.length := by
  show l.toArray.size = l.length
  simp
theorem Bs_data (l : List UInt8) : (Bs l).data.toList = l := by
  show l.toArray.toList = l
  simp
theorem Bs_list (l : List UInt8) : (Bs l).toList = l := by rw [Lib.toList_data, Bs_data]
theorem Bs_eta (s : ByteArray) : Bs s.data.toList = s := Lib.mk_data s
theorem dec_len : ∀ (u : Nat), (Lib.decDigits u).length ≤ u + 1 := by
  intro u
  induction u using Nat.strongRecOn with
  | _ u ih =>
    by_cases h : u < 10
    · rw [Lib.decDigits, dif_pos h]; simp
    · rw [Lib.decDigits, dif_neg h]
      have := ih (u / 10) (by omega)
      rw [List.length_append]
      simp
      omega
theorem dec_ne (u : Nat) : Lib.decDigits u ≠ [] := by
  by_cases h : u < 10
  · rw [Lib.decDigits, dif_pos h]; simp
  · rw [Lib.decDigits, dif_neg h]; simp
theorem digit_str (n : Int) : strOfNums [n] = Bs [UInt8.ofNat n.toNat] := rfl
theorem int_loop : ∀ (u : Nat), u ≤ 100000 → ∀ (s : List UInt8) (k : Nat), s.length + u ≤ 200000 → (s = [] ∨ 0 < u) → 2 * u + 6 ≤ k → spec_l1Int.l0 k (u : Int) (Bs s) false = some (Bs (Lib.decDigits u ++ s)) := by
  intro u
  induction u using Nat.strongRecOn with
  | _ u ih =>
    intro hu s k hs h0 hk
    obtain ⟨k, rfl⟩ : ∃ q, k = q + 4 := ⟨k - 4, by omega⟩
    have hd : Int.tmod (u : Int) 10 = ((u % 10 : Nat) : Int) := by rw [Int.tmod_eq_emod_of_nonneg (by omega)]; omega
    have hq : Int.tdiv (u : Int) 10 = ((u / 10 : Nat) : Int) := by rw [Int.tdiv_eq_ediv_of_nonneg (by omega)]; omega
    have w1 : wrap64 (48 + ((u % 10 : Nat) : Int)) % 256 = ((48 + u % 10 : Nat) : Int) := by rw [wrap_id (by omega) (by omega)]; omega
    have w2 : wrap64 ((u / 10 : Nat) : Int) = ((u / 10 : Nat) : Int) := wrap_id (by omega) (by omega)
    have step : spec_l1Int.j1 (k + 3) (u : Int) (Bs s) false true = spec_l1Int.l0 (k + 2) ((u / 10 : Nat) : Int) (Bs (UInt8.ofNat (48 + u % 10) :: s)) false := by
      rw [spec_l1Int.j1, if_pos rfl, hd, if_neg (by omega), Option.bind_some, w1, digit_str, Int.toNat_natCast, Bs_size, Bs_size, if_pos (by simp; omega), hq, w2, Bs_app]
      rfl
    have first : spec_l1Int.l0 (k + 4) (u : Int) (Bs s) false = spec_l1Int.j1 (k + 3) (u : Int) (Bs s) false true := by
      rw [spec_l1Int.l0, Bs_list]
      by_cases he : s = []
      · rw [if_pos he]
      · rw [if_neg he]
        have : ((u : Int) != 0) = true := by rw [bne_iff_ne]; rcases h0 with h0 | h0; exact absurd h0 he; omega
        rw [this]
    rw [first, step]
    by_cases h10 : u < 10
    · have hz : u / 10 = 0 := by omega
      have hm : u % 10 = u := by omega
      rw [hz, hm, spec_l1Int.l0, Bs_list, if_neg (by simp), show (((0 : Nat) : Int) != 0) = false from rfl, spec_l1Int.j1, if_neg (by simp), if_neg (by simp), Lib.decDigits, dif_pos h10]
      rfl
    · rw [ih (u / 10) (by omega) (by omega) _ (k + 2) (by simp; omega) (Or.inr (by omega)) (by omega)]
      conv => rhs; rw [Lib.decDigits, dif_neg h10]
      rw [List.append_assoc]
      rfl
theorem spec_int (u : Nat) (hu : u ≤ 100000) (k : Nat) (hk : 2 * u + 6 ≤ k) : spec_l1Int.f k (u : Int) = some (Bs (Lib.decDigits u)) := by
  unfold spec_l1Int.f
  have : decide ((u : Int) < 0) = false := decide_eq_false (by omega)
  rw [this]
  have e := int_loop u hu [] k (by simp; omega) (Or.inl rfl) hk
  rw [List.append_nil] at e
  exact e
/-- The word of an instruction. -/
def nameL (op : Int) : List UInt8 := [[101, 110, 100], [101, 114, 114], [119, 97, 105, 116], [115, 108, 101, 101, 112], [99, 97, 110, 99, 101, 108], [105, 102], [103, 111], [116, 114, 121], [106, 111, 105, 110], [99, 104, 105, 108, 100], [107, 101, 121]].getD op.toNat []
def twoB (op : Int) : Bool := op == 3 || (op == 4 || (op == 6 || (op == 7 || op == 10)))
def nodeB (op : Int) : Bool := btw op 1 4 || (op == 9 || op == 10)
theorem name_len (op : Int) : (nameL op).length ≤ 6 := by
  unfold nameL
  rcases Nat.lt_or_ge op.toNat 11 with h | h
  · generalize op.toNat = n at h
    rcases (by omega : n = 0 ∨ n = 1 ∨ n = 2 ∨ n = 3 ∨ n = 4 ∨ n = 5 ∨ n = 6 ∨ n = 7 ∨ n = 8 ∨ n = 9 ∨ n = 10) with rfl | rfl | rfl | rfl | rfl | rfl | rfl | rfl | rfl | rfl | rfl <;> simp
  · rw [List.getD_eq_getElem?_getD, List.getElem?_eq_none (by simpa using h)]
    simp
theorem ops_cases {op : Int} (h0 : 0 ≤ op) (h1 : op ≤ 10) : op = 0 ∨ op = 1 ∨ op = 2 ∨ op = 3 ∨ op = 4 ∨ op = 5 ∨ op = 6 ∨ op = 7 ∨ op = 8 ∨ op = 9 ∨ op = 10 := by omega
theorem spec_name {op : Int} (h0 : 0 ≤ op) (h1 : op ≤ 10) : spec_l9Name.f op = some (Bs (nameL op)) := by
  rcases ops_cases h0 h1 with rfl | rfl | rfl | rfl | rfl | rfl | rfl | rfl | rfl | rfl | rfl <;> rfl
theorem impl_word {op : Int} (h0 : 0 ≤ op) (h1 : op ≤ 10) : ∃ W, impl_opWords.f = some W ∧ op < (W.length : Int) ∧ rdOf ByteArray.empty W op = Bs (nameL op) := by
  refine ⟨_, rfl, ?_, ?_⟩
  · simp; omega
  · rcases ops_cases h0 h1 with rfl | rfl | rfl | rfl | rfl | rfl | rfl | rfl | rfl | rfl | rfl <;> rfl
theorem spec_two (op : Int) : spec_l9Two.f op = some (twoB op) := by
  unfold spec_l9Two.f twoB
  by_cases h3 : op = 3
  · rw [if_pos h3, h3]; rfl
  rw [if_neg h3, beq_eq_false_iff_ne.mpr h3, Bool.false_or]
  by_cases h4 : op = 4
  · rw [if_pos h4, h4]; rfl
  rw [if_neg h4, beq_eq_false_iff_ne.mpr h4, Bool.false_or]
  by_cases h6 : op = 6
  · rw [if_pos h6, h6]; rfl
  rw [if_neg h6, beq_eq_false_iff_ne.mpr h6, Bool.false_or]
  by_cases h7 : op = 7
  · rw [if_pos h7, h7]; rfl
  rw [if_neg h7, beq_eq_false_iff_ne.mpr h7, Bool.false_or]
theorem impl_two (op : Int) : impl_hasB.f op = some (twoB op) := by
  unfold impl_hasB.f twoB
  by_cases h3 : op = 3
  · rw [if_pos h3, h3]; rfl
  rw [if_neg h3, beq_eq_false_iff_ne.mpr h3, Bool.false_or]
  by_cases h4 : op = 4
  · rw [if_pos h4, h4]; rfl
  rw [if_neg h4, beq_eq_false_iff_ne.mpr h4, Bool.false_or]
  by_cases h6 : op = 6
  · rw [if_pos h6, h6]; rfl
  rw [if_neg h6, beq_eq_false_iff_ne.mpr h6, Bool.false_or]
  by_cases h7 : op = 7
  · rw [if_pos h7, h7]; rfl
  rw [if_neg h7, beq_eq_false_iff_ne.mpr h7, Bool.false_or]
theorem impl_node (op : Int) : impl_hasNode.f op = some (nodeB op) := by
  unfold impl_hasNode.f nodeB
  rw [within_eq, Option.bind_some]
  cases btw op 1 4
  · by_cases h9 : op = 9 <;> simp [h9]
  · simp
/-- The numbers of an instruction are small. -/
theorem insB_span {op a b : Int} (h : insB op a b = true) : 0 ≤ op ∧ op ≤ 10 ∧ -1 ≤ a ∧ a ≤ 90 ∧ 0 ≤ b ∧ b ≤ 1000 ∧ (a < 0 → nodeB op = true) := by
  unfold insB at h
  have eb : ∀ {p q : Bool}, (p && q) = true → p = true ∧ q = true := fun h => by simpa using h
  by_cases h0 : op = 0
  · rw [if_pos h0] at h
    obtain ⟨h1, h2⟩ := eb h
    have h1 := btw_iff.1 h1
    have h2 : b = 0 := by simpa using h2
    exact ⟨by omega, by omega, by omega, by omega, by omega, by omega, fun hh => by omega⟩
  rw [if_neg h0] at h
  by_cases h1 : op = 1 ∨ op = 2 ∨ op = 9
  · rw [if_pos h1] at h
    obtain ⟨h3, h2⟩ := eb h
    have h3 := btw_iff.1 h3
    have h2 : b = 0 := by simpa using h2
    refine ⟨by omega, by omega, by omega, by omega, by omega, by omega, fun _ => ?_⟩
    rcases h1 with rfl | rfl | rfl <;> rfl
  rw [if_neg h1] at h
  by_cases h3 : op = 3
  · rw [if_pos h3] at h
    obtain ⟨h4, h2⟩ := eb h
    have h4 := btw_iff.1 h4
    have h2 := btw_iff.1 h2
    exact ⟨by omega, by omega, by omega, by omega, by omega, by omega, fun _ => by rw [h3]; rfl⟩
  rw [if_neg h3] at h
  by_cases h4 : op = 4
  · rw [if_pos h4] at h
    obtain ⟨h5, h2⟩ := eb h
    have h5 := btw_iff.1 h5
    have h2 := btw_iff.1 h2
    exact ⟨by omega, by omega, by omega, by omega, by omega, by omega, fun _ => by rw [h4]; rfl⟩
  rw [if_neg h4] at h
  by_cases h5 : op = 5
  · rw [if_pos h5] at h
    obtain ⟨h6, h2⟩ := eb h
    have h6 := btw_iff.1 h6
    have h2 : b = 0 := by simpa using h2
    exact ⟨by omega, by omega, by omega, by omega, by omega, by omega, fun hh => by omega⟩
  rw [if_neg h5] at h
  by_cases h6 : op = 6 ∨ op = 7
  · rw [if_pos h6] at h
    obtain ⟨h7, h2⟩ := eb h
    have h7 := btw_iff.1 h7
    have h2 := btw_iff.1 h2
    exact ⟨by omega, by omega, by omega, by omega, by omega, by omega, fun hh => by omega⟩
  rw [if_neg h6] at h
  by_cases h8 : op = 8
  · rw [if_pos h8] at h
    obtain ⟨h7, h2⟩ := eb h
    have h7 := btw_iff.1 h7
    have h2 : b = 0 := by simpa using h2
    exact ⟨by omega, by omega, by omega, by omega, by omega, by omega, fun hh => by omega⟩
  rw [if_neg h8] at h
  by_cases h10 : op = 10
  · rw [if_pos h10] at h
    obtain ⟨h7, h2⟩ := eb h
    have h7 := btw_iff.1 h7
    have h2 := btw_iff.1 h2
    exact ⟨by omega, by omega, by omega, by omega, by omega, by omega, fun _ => by rw [h10]; rfl⟩
  rw [if_neg h10] at h
  cases h
/-- The text of an instruction. -/
def insT (op a b : Int) : List UInt8 := (nameL op ++ [32]) ++ (if a < 0 then [105, 116] else Lib.decDigits a.toNat) ++ (if twoB op = true then [32] ++ Lib.decDigits b.toNat else [])
theorem insT_len {op a b : Int} (h : insB op a b = true) : (insT op a b).length ≤ 1200 := by
  obtain ⟨_, _, _, ha, _, hb, _⟩ := insB_span h
  have := name_len op
  have h1 := dec_len a.toNat
  have h2 := dec_len b.toNat
  unfold insT
  rw [List.length_append, List.length_append, List.length_append]
  split <;> split <;> simp <;> omega
theorem spec_show {op a b : Int} (h : insB op a b = true) (k : Nat) (hk : 3000 ≤ k) : spec_l9Show.f k op a b = some (Bs (insT op a b)) := by
  obtain ⟨h0, h1, ha0, ha, hb0, hb, _⟩ := insB_span h
  have hn := name_len op
  have d1 := dec_len a.toNat
  have d2 := dec_len b.toNat
  have e32 : (⟨#[32]⟩ : ByteArray) = Bs [32] := rfl
  have eit : (⟨#[105, 116]⟩ : ByteArray) = Bs [105, 116] := rfl
  have tail : ∀ s : List UInt8, s.length ≤ 200 → ∀ k, 2900 ≤ k → spec_l9Show.j0 k (Bs s) op a b = some (Bs (s ++ (if twoB op = true then [32] ++ Lib.decDigits b.toNat else []))) := by
    intro s hs k hk
    obtain ⟨k, rfl⟩ : ∃ q, k = q + 1 := ⟨k - 1, by omega⟩
    rw [spec_l9Show.j0, spec_two, Option.bind_some]
    cases twoB op
    · rw [if_neg (by simp), if_neg (by simp), List.append_nil]
    · have hbn : b = ((b.toNat : Nat) : Int) := by omega
      have ei : spec_l1Int.f k b = some (Bs (Lib.decDigits b.toNat)) := by
        have := spec_int b.toNat (by omega) k (by omega)
        rw [← hbn] at this
        exact this
      rw [if_pos rfl, if_pos rfl, Bs_size, if_pos (by omega), ei, Option.bind_some, e32, Bs_app, Bs_size, Bs_size, if_pos (by rw [List.length_append]; simp; omega), Bs_app, List.append_assoc]
  unfold spec_l9Show.f insT
  rw [spec_name h0 h1, Option.bind_some, Bs_size, if_pos (by omega)]
  by_cases hneg : a < 0
  · rw [if_pos hneg, if_pos hneg, e32, eit, Bs_app, Bs_size, if_pos (by rw [List.length_append]; simp; omega), Bs_app]
    exact tail _ (by rw [List.length_append, List.length_append]; simp; omega) k (by omega)
  · have han : a = ((a.toNat : Nat) : Int) := by omega
    have ei : spec_l1Int.f k a = some (Bs (Lib.decDigits a.toNat)) := by
      have := spec_int a.toNat (by omega) k (by omega)
      rw [← han] at this
      exact this
    rw [if_neg hneg, if_neg hneg, ei, Option.bind_some, e32, Bs_app, Bs_size, Bs_size, if_pos (by rw [List.length_append]; simp; omega), Bs_app]
    exact tail _ (by rw [List.length_append, List.length_append]; simp; omega) k (by omega)
theorem impl_textOf {a : Int} (h0 : -1 ≤ a) (h1 : a ≤ 100000) : impl_text.f a = some (Bs (Lib.itoa a)) := by
  unfold impl_text.f textF
  rw [if_pos ⟨by omega, by omega⟩]
  rfl
theorem itoa_len {a : Int} (h0 : -1 ≤ a) : (Lib.itoa a).length ≤ a.toNat + 3 := by
  unfold Lib.itoa
  have h1 := dec_len a.toNat
  have h2 := dec_len a.natAbs
  split
  · simp; omega
  · omega
theorem itoa_nat {a : Int} (h0 : ¬ a < 0) : Lib.itoa a = Lib.decDigits a.toNat := by
  unfold Lib.itoa
  rw [if_neg h0]
theorem impl_show {op a b : Int} (h : insB op a b = true) (k : Nat) (hk : 3 ≤ k) : impl_insText.f k op a b = some (Bs (insT op a b)) := by
  obtain ⟨h0, h1, ha0, ha, hb0, hb, hnode⟩ := insB_span h
  have hn := name_len op
  have l1 := itoa_len ha0
  have l2 := itoa_len (show -1 ≤ b by omega)
  have d1 := dec_len a.toNat
  have e32 : (⟨#[32]⟩ : ByteArray) = Bs [32] := rfl
  have eit : (⟨#[32, 105, 116]⟩ : ByteArray) = Bs [32, 105, 116] := rfl
  obtain ⟨W, hW, hlt, hrd⟩ := impl_word h0 h1
  have tail : ∀ s : List UInt8, s.length ≤ 200 → ∀ k, 1 ≤ k → impl_insText.j1 k (Bs s) op a b = some (Bs (s ++ (if twoB op = true then [32] ++ Lib.decDigits b.toNat else []))) := by
    intro s hs k hk
    obtain ⟨k, rfl⟩ : ∃ q, k = q + 1 := ⟨k - 1, by omega⟩
    rw [impl_insText.j1, impl_two, Option.bind_some]
    cases twoB op
    · rw [if_neg (by simp), if_neg (by simp), List.append_nil]
    · rw [if_pos rfl, if_pos rfl, impl_textOf (by omega) (by omega), Option.bind_some, Bs_size, if_pos (by omega), e32, Bs_app, Bs_size, Bs_size, if_pos (by rw [List.length_append]; simp; omega), Bs_app, itoa_nat (by omega)]
  obtain ⟨k, rfl⟩ : ∃ q, k = q + 1 := ⟨k - 1, by omega⟩
  have mid : ∀ y : Bool, impl_insText.j0 (k + 1) (Bs ((nameL op ++ [32]) ++ Lib.itoa a)) y op a b = impl_insText.j1 k (Bs (if y = true then (nameL op ++ [32]) ++ [105, 116] else (nameL op ++ [32]) ++ Lib.itoa a)) op a b := by
    intro y
    rw [impl_insText.j0]
    cases y
    · rw [if_neg (by simp), if_neg (by simp)]
    · rw [if_pos rfl, if_pos rfl, hW, Option.bind_some, if_pos h0, if_pos hlt, hrd, Bs_size, if_pos (by omega), eit, Bs_app, List.append_assoc]
      rfl
  unfold impl_insText.f insT
  rw [hW, Option.bind_some, if_pos h0, if_pos hlt, hrd, Bs_size, if_pos (by omega), impl_textOf ha0 (by omega), Option.bind_some, e32, Bs_app, Bs_size, Bs_size, if_pos (by rw [List.length_append]; simp; omega), impl_node, Option.bind_some, Bs_app]
  by_cases hneg : a < 0
  · have ha1 : a = -1 := by omega
    have hb1 : (a == -1) = true := by rw [ha1]; rfl
    rw [hnode hneg, if_pos rfl, hb1, mid true, if_pos rfl, if_pos hneg]
    exact tail _ (by rw [List.length_append, List.length_append]; simp; omega) k (by omega)
  · have hb1 : (a == -1) = false := by rw [beq_eq_false_iff_ne]; omega
    have fin : impl_insText.j0 (k + 1) (Bs ((nameL op ++ [32]) ++ Lib.itoa a)) false op a b = some (Bs ((nameL op ++ [32]) ++ (if a < 0 then [105, 116] else Lib.decDigits a.toNat) ++ (if twoB op = true then [32] ++ Lib.decDigits b.toNat else []))) := by
      rw [mid false, if_neg (by simp), if_neg hneg, itoa_nat hneg]
      exact tail _ (by rw [List.length_append, List.length_append]; simp; omega) k (by omega)
    cases nodeB op
    · rw [if_neg (by simp)]; exact fin
    · rw [if_pos rfl, hb1]; exact fin
/-- The texts of instructions. -/
def insTs (l : List S34) : List (List UInt8) := l.map fun x => insT x.f0 x.f1 x.f2
def sepL : List UInt8 := [59, 32]
theorem join_len (M : Nat) (sep : List UInt8) : ∀ xs : List (List UInt8), (∀ x ∈ xs, x.length ≤ M) → (Lib.joinTail sep xs).length ≤ xs.length * (M + sep.length) := by
  intro xs
  induction xs with
  | nil => intro _; simp [Lib.joinTail]
  | cons x r ih =>
    intro h
    have h1 := ih (fun y hy => h y (List.mem_cons_of_mem _ hy))
    have h2 := h x (List.mem_cons_self ..)
    unfold Lib.joinTail at h1 ⊢
    rw [List.map_cons, List.flatten_cons, List.length_append, List.length_append, List.length_cons, Nat.add_mul]
    omega
theorem joined_len (M : Nat) (xs : List (List UInt8)) (sep : List UInt8) (h : ∀ x ∈ xs, x.length ≤ M) : (Lib.join xs sep).length ≤ xs.length * (M + sep.length) := by
  cases xs with
  | nil => simp [Lib.join_nil]
  | cons x r =>
    have h1 := join_len M sep r (fun y hy => h y (List.mem_cons_of_mem _ hy))
    have h2 := h x (List.mem_cons_self ..)
    rw [Lib.join_cons, List.length_append, List.length_cons, Nat.add_mul]
    omega
theorem rdOf_at (l : List ByteArray) (j : Nat) (h : j < l.length) : rdOf ByteArray.empty l (j : Int) = l[j] := by
  unfold rdOf
  rw [Int.toNat_natCast, getD_lt _ h]
theorem words_loop (xs : List (List UInt8)) (sep : List UInt8) (hx : xs.length ≤ 1000) : ∀ (m j k : Nat) (s : List UInt8), j + m = xs.length → 0 < j → m < k → s.length + (Lib.joinTail sep (xs.drop j)).length ≤ 4611686018427387904 → spec_l1Words.l0 k (xs.map Bs) (Bs sep) (Bs s) (j : Int) = some (Bs (s ++ Lib.joinTail sep (xs.drop j))) := by
  intro m
  induction m with
  | zero =>
    intro j k s hj h0 hk hs
    obtain ⟨k, rfl⟩ : ∃ q, k = q + 1 := ⟨k - 1, by omega⟩
    rw [spec_l1Words.l0, if_neg (by rw [List.length_map]; omega), List.drop_of_length_le (by omega)]
    simp [Lib.joinTail]
  | succ m ih =>
    intro j k s hj h0 hk hs
    obtain ⟨k, rfl⟩ : ∃ q, k = q + 1 := ⟨k - 1, by omega⟩
    have hlt : j < xs.length := by omega
    have hd : xs.drop j = xs[j] :: xs.drop (j + 1) := List.drop_eq_getElem_cons hlt
    have hjt : Lib.joinTail sep (xs.drop j) = (sep ++ xs[j]) ++ Lib.joinTail sep (xs.drop (j + 1)) := by
      rw [hd]; unfold Lib.joinTail; rw [List.map_cons, List.flatten_cons]
    rw [hjt, List.length_append, List.length_append] at hs
    have hr : rdOf ByteArray.empty (xs.map Bs) (j : Int) = Bs xs[j] := by rw [rdOf_at _ _ (by rw [List.length_map]; omega), List.getElem_map]
    rw [spec_l1Words.l0, if_pos (by rw [List.length_map]; omega), if_pos (by omega), hr, Bs_size, Bs_size, if_pos (by omega), if_pos (by omega), Bs_app, Bs_size, Bs_size, if_pos (by rw [List.length_append]; omega), Bs_app, wrap_id (by omega) (by omega), show ((j : Int) + 1) = ((j + 1 : Nat) : Int) by omega, ih (j + 1) k _ (by omega) (by omega) (by omega) (by rw [List.length_append, List.length_append]; omega), hjt]
    simp only [List.append_assoc]
theorem spec_words (xs : List (List UInt8)) (sep : List UInt8) (hx : xs.length ≤ 1000) (hs : (Lib.join xs sep).length ≤ 4611686018427387904) (k : Nat) (hk : xs.length + 1 < k) : spec_l1Words.f k (xs.map Bs) (Bs sep) = some (Bs (Lib.join xs sep)) := by
  unfold spec_l1Words.f
  obtain ⟨k, rfl⟩ : ∃ q, k = q + 1 := ⟨k - 1, by omega⟩
  cases xs with
  | nil =>
    rw [spec_l1Words.l0, if_neg (by simp), Lib.join_nil]
    rfl
  | cons x r =>
    rw [Lib.join_cons] at hs ⊢
    rw [List.length_append] at hs
    have hr : rdOf ByteArray.empty ((x :: r).map Bs) 0 = Bs x := rfl
    rw [spec_l1Words.l0, if_pos (by rw [List.length_map, List.length_cons]; omega), if_neg (by omega), if_pos (by omega), hr, show (⟨#[]⟩ : ByteArray) = Bs [] from rfl, Bs_size, Bs_size, if_pos (by simp; omega), Bs_app, List.nil_append, wrap_id (by omega) (by omega)]
    have := words_loop (x :: r) sep hx r.length 1 k x (by simp; omega) (by omega) (by simp at hk; omega) (by simpa using hs)
    simpa using this
theorem join_impl (xs : List (List UInt8)) (sep : List UInt8) (hx : xs.length ≤ 1000) (hs : (Lib.join xs sep).length ≤ 100000000) : strings_Join.f (xs.map Bs) (Bs sep) = some (Bs (Lib.join xs sep)) := by
  unfold strings_Join.f joinF
  have hm : (xs.map Bs).map (fun y => y.data.toList) = xs := by
    rw [List.map_map]
    have : ((fun y : ByteArray => y.data.toList) ∘ Bs) = id := by
      funext l
      exact Bs_data l
    rw [this, List.map_id]
  rw [hm, Bs_data, List.length_map, if_pos ⟨by omega, by omega⟩]
  rfl
/-- The text of a program. -/
def progT (l : List S34) : List UInt8 := Lib.join (insTs l) sepL
theorem insTs_len (l : List S34) : (insTs l).length = l.length := by unfold insTs; rw [List.length_map]
theorem progB_at {l : List S34} (h : progB l = true) : l.length ≤ 12 ∧ ∀ j : Nat, (hj : j < l.length) → insB l[j].f0 l[j].f1 l[j].f2 = true := by
  unfold progB at h
  rw [Bool.and_eq_true, allFrom_iff] at h
  refine ⟨by have := of_decide_eq_true h.1; omega, fun j hj => ?_⟩
  have := h.2 (j : Int) (by omega) (by omega)
  unfold insAt at this
  have e : rd_T34 l (j : Int) = l[j] := by unfold rd_T34; rw [Int.toNat_natCast, getD_lt _ hj]
  rw [e] at this
  exact this
theorem progT_len {l : List S34} (h : progB l = true) : (progT l).length ≤ 12 * 1202 := by
  obtain ⟨h1, h2⟩ := progB_at h
  have := joined_len 1200 (insTs l) sepL (fun x hx => by
    unfold insTs at hx
    obtain ⟨y, hy, rfl⟩ := List.mem_map.1 hx
    obtain ⟨j, hj, rfl⟩ := List.mem_iff_getElem.1 hy
    exact insT_len (h2 j hj))
  rw [insTs_len] at this
  have e : sepL.length = 2 := rfl
  rw [e] at this
  unfold progT
  exact Nat.le_trans this (Nat.mul_le_mul_right _ h1)
theorem impl_ptext_loop {l : List S34} (h : progB l = true) : ∀ (m j k : Nat), j + m = l.length → m + 3 < k → impl_progText.l0 k ((insTs (l.take j)).map Bs) l (l.length : Int) (j : Int) = some (Bs (progT l)) := by
  obtain ⟨h1, h2⟩ := progB_at h
  have hlen := progT_len h
  intro m
  induction m with
  | zero =>
    intro j k hj hk
    obtain ⟨k, rfl⟩ : ∃ q, k = q + 1 := ⟨k - 1, by omega⟩
    rw [impl_progText.l0, if_neg (by omega), List.take_of_length_le (by omega), show (⟨#[59, 32]⟩ : ByteArray) = Bs sepL from rfl, join_impl _ _ (by rw [insTs_len]; omega) (by show (progT l).length ≤ _; omega)]
    rfl
  | succ m ih =>
    intro j k hj hk
    obtain ⟨k, rfl⟩ : ∃ q, k = q + 1 := ⟨k - 1, by omega⟩
    have hlt : j < l.length := by omega
    have e : rd_T34 l (j : Int) = l[j] := by unfold rd_T34; rw [Int.toNat_natCast, getD_lt _ hlt]
    have et : (insTs (l.take j)).map Bs ++ [Bs (insT l[j].f0 l[j].f1 l[j].f2)] = (insTs (l.take (j + 1))).map Bs := by
      rw [List.take_succ_eq_append_getElem hlt, insTs, insTs, List.map_append, List.map_append]
      rfl
    rw [impl_progText.l0, if_pos (by omega), if_pos (by omega), if_pos (by omega), e, impl_show (h2 j hlt) k (by omega), Option.bind_some, if_pos (by rw [List.length_map, insTs_len, List.length_take]; omega), et, wrap_id (by omega) (by omega), show ((j : Int) + 1) = ((j + 1 : Nat) : Int) by omega]
    exact ih (j + 1) k (by omega) (by omega)
theorem impl_ptext {l : List S34} (h : progB l = true) (k : Nat) (hk : l.length + 3 < k) : impl_progText.f k l = some (Bs (progT l)) := by
  have := impl_ptext_loop h l.length 0 k (by omega) hk
  unfold impl_progText.f
  simpa [insTs] using this
theorem spec_ptext_loop {l : List S34} (h : progB l = true) : ∀ (m j k : Nat), j + m = l.length → m + 3100 < k → spec_ShowProg.l0 k l ((insTs (l.take j)).map Bs) (j : Int) = some (Bs (progT l)) := by
  obtain ⟨h1, h2⟩ := progB_at h
  have hlen := progT_len h
  intro m
  induction m with
  | zero =>
    intro j k hj hk
    obtain ⟨k, rfl⟩ : ∃ q, k = q + 1 := ⟨k - 1, by omega⟩
    rw [spec_ShowProg.l0, if_neg (by omega), List.take_of_length_le (by omega), show (⟨#[59, 32]⟩ : ByteArray) = Bs sepL from rfl, spec_words _ _ (by rw [insTs_len]; omega) (by show (progT l).length ≤ _; omega) k (by rw [insTs_len]; omega)]
    rfl
  | succ m ih =>
    intro j k hj hk
    obtain ⟨k, rfl⟩ : ∃ q, k = q + 1 := ⟨k - 1, by omega⟩
    have hlt : j < l.length := by omega
    have e : rd_T34 l (j : Int) = l[j] := by unfold rd_T34; rw [Int.toNat_natCast, getD_lt _ hlt]
    have et : (insTs (l.take j)).map Bs ++ [Bs (insT l[j].f0 l[j].f1 l[j].f2)] = (insTs (l.take (j + 1))).map Bs := by
      rw [List.take_succ_eq_append_getElem hlt, insTs, insTs, List.map_append, List.map_append]
      rfl
    rw [spec_ShowProg.l0, if_pos (by omega), if_pos (by omega), e, spec_show (h2 j hlt) k (by omega), Option.bind_some, if_pos (by rw [List.length_map, insTs_len, List.length_take]; omega), et, wrap_id (by omega) (by omega), show ((j : Int) + 1) = ((j + 1 : Nat) : Int) by omega]
    exact ih (j + 1) k (by omega) (by omega)
/-- What is shown of a list of instructions. -/
def showB (l : List S34) : ByteArray := if progB l = true then Bs (progT l) else Bs []
theorem spec_showprog (l : List S34) (hl : l.length ≤ 1048576) : ∃ K, ∀ k, K ≤ k → spec_ShowProg.f k l = some (showB l) := by
  obtain ⟨K, e⟩ := spec_prog l hl
  refine ⟨K + l.length + 3200, fun k hk => ?_⟩
  unfold spec_ShowProg.f showB
  rw [e k (by omega), Option.bind_some]
  cases h : progB l with
  | false => rfl
  | true =>
    rw [if_pos rfl, if_pos rfl]
    have := spec_ptext_loop h l.length 0 k (by omega) (by omega)
    simpa [insTs] using this
theorem impl_showprog (l : List S34) (hl : l.length ≤ 1048576) : ∃ K, ∀ k, K ≤ k → impl_ShowProg.f k l = some (showB l) := by
  obtain ⟨K, e⟩ := impl_prog l hl
  refine ⟨K + l.length + 10, fun k hk => ?_⟩
  unfold impl_ShowProg.f showB
  rw [e k (by omega), Option.bind_some]
  cases h : progB l with
  | false => rfl
  | true =>
    rw [if_pos rfl, if_pos rfl, impl_ptext h k (by omega)]
    rfl
theorem FnExactShowProg : ∀ (l0 : List (S45)), l0.length ≤ 9223372036854775807 → (∀ x_ ∈ l0, (wf64 x_.f0 ∧ wf64 x_.f1 ∧ wf64 x_.f2)) → ∃ k, laws_FnExactShowProg.f k l0 = some true := by
  intro l hl _
  by_cases h : (l.length : Int) ≤ 1048576
  · obtain ⟨K, q⟩ := both (to_InsS l (by omega)) (both (spec_showprog (l.map ofInsS) (by rw [List.length_map]; omega)) (both (impl_showprog (l.map ofInsS) (by rw [List.length_map]; omega)) (eq_InsS (l.map ofInsS) (by rw [List.length_map]; omega))))
    obtain ⟨q1, q2, q3, q4⟩ := q K (Nat.le_refl _)
    refine ⟨K, ?_⟩
    unfold laws_FnExactShowProg.f
    rw [sz_InsS l _ (by omega) (by omega) hl, if_pos h, Option.bind_some, if_neg (by omega), q1, Option.bind_some, q2, Option.bind_some, Option.bind_some, q3, Option.bind_some, if_pos rfl, Option.bind_some, q4, Option.bind_some, if_pos rfl]
  · refine ⟨0, ?_⟩
    unfold laws_FnExactShowProg.f
    rw [sz_InsS l _ (by omega) (by omega) hl, if_neg h]
    simp

end Go.Proofs.YtggajlaifoddeaaDoor.Pure
