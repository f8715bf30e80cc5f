/- Texts of the claim of the law FnProgBack, made smaller by a program of this session: what the claim does not use is left out. No condition. -/
import Derived.Lib.AtoiTie
import Derived.Lib.AtoiAllCases
import Derived.Lib.ParseIntBTie
import Derived.Test.YtggajlaifoddeaaGreatDoorZBPLib
import Derived.Test.YtggajlaifoddeaaGreatDoorZBPFnProgBackx11
namespace Go.Proofs.YtggajlaifoddeaaGreatDoor.Pure
open Go.Proofs.YtggajlaifoddeaaGreatDoorStrs Go.RowKit Go.Proofs.YtggajlaifoddeaaGreatDoorPLib Go.Proofs.YtggajlaifoddeaaGreatDoor.PFnProgBack Go.Proofs.YtggajlaifoddeaaGreatDoorW.PrintWords Go.Proofs.YtggajlaifoddeaaGreatDoorW.PrintLast
set_option linter.unusedVariables false
set_option linter.unusedSimpArgs false
theorem l1In_eq (a b c : Int) : spec_l1In.f a b c = some (btw a b c) := by
 unfold spec_l1In.f btw
 by_cases h : b ≤ a
 ·rw [if_pos h]; simp [h]
 ·rw [if_neg h]; simp [h]
theorem within_eq (a b c : Int) : impl_within.f a b c = some (btw a b c) := by
 unfold impl_within.f btw
 by_cases h : b ≤ a
 ·rw [if_pos h]; simp [h]
 ·rw [if_neg h]; simp [h]
/-- What the document asks of an instruction. -/
def insB (op a b : Int) : Bool :=
 if op = 0 then btw a 0 90 && b == 0
 else if op = 1 ∨ op = 2 ∨ op = 9 then btw a (-1) 59 && b == 0
 else if op = 3 then btw a (-1) 59 && btw b 0 1000
 else if op = 4 then btw a (-1) 59 && btw b 0 999
 else if op = 5 then btw a 0 12 && b == 0
 else if op = 6 ∨ op = 7 then btw a 0 7 && btw b 0 7
 else if op = 8 then btw a 0 7 && b == 0
 else if op = 10 then btw a (-1) 59 && btw b 1 9
 else false
theorem spec_ins (k : Nat) (op a b : Int) : spec_InsOk.f (k + 3) op a b = some (insB op a b) := by
 by_cases h0 : op = 0
 ·subst h0
  cases hA : btw a 0 90 <;> simp [spec_InsOk.f, l1In_eq, insB, hA] <;> simp_all
 by_cases h1 : op = 1
 ·subst h1
  cases hA : btw a (-1) 59 <;> simp_all [spec_InsOk.f, spec_InsOk.j0, spec_l9Leash.f, l1In_eq, insB]
 by_cases h2 : op = 2
 ·subst h2
  cases hA : btw a (-1) 59 <;> simp_all [spec_InsOk.f, spec_InsOk.j0, spec_l9Leash.f, l1In_eq, insB]
 by_cases h9 : op = 9
 ·subst h9
  cases hA : btw a (-1) 59 <;> simp_all [spec_InsOk.f, spec_InsOk.j0, spec_l9Leash.f, l1In_eq, insB]
 by_cases h3 : op = 3
 ·subst h3
  cases hA : btw a (-1) 59 <;> simp_all [spec_InsOk.f, spec_InsOk.j0, spec_l9Leash.f, l1In_eq, insB]
 by_cases h4 : op = 4
 ·subst h4
  cases hA : btw a (-1) 59 <;> simp_all [spec_InsOk.f, spec_InsOk.j0, spec_l9Leash.f, l1In_eq, insB]
 by_cases h5 : op = 5
 ·subst h5
  cases hA : btw a 0 12 <;> simp_all [spec_InsOk.f, spec_InsOk.j0, l1In_eq, insB]
 by_cases h6 : op = 6
 ·subst h6
  cases hA : btw a 0 7 <;> simp_all [spec_InsOk.f, spec_InsOk.j0, spec_InsOk.j1, l1In_eq, insB]
 by_cases h7 : op = 7
 ·subst h7
  cases hA : btw a 0 7 <;> simp_all [spec_InsOk.f, spec_InsOk.j0, spec_InsOk.j1, l1In_eq, insB]
 by_cases h8 : op = 8
 ·subst h8
  cases hA : btw a 0 7 <;> simp_all [spec_InsOk.f, spec_InsOk.j0, spec_InsOk.j1, l1In_eq, insB]
 by_cases h10 : op = 10
 ·subst h10
  cases hA : btw a (-1) 59 <;> simp_all [spec_InsOk.f, spec_InsOk.j0, spec_InsOk.j1, spec_l9Leash.f, l1In_eq, insB]
 simp [spec_InsOk.f, spec_InsOk.j0, spec_InsOk.j1, insB, *]
theorem impl_ins (k : Nat) (op a b : Int) : impl_InsOk.f (k + 3) op a b = some (insB op a b) := by
 by_cases h0 : op = 0
 ·subst h0
  have hn : impl_hasNode.f 0 = some false := by decide
  cases hA : btw a 0 90 <;> by_cases hb : b = 0 <;> simp_all [impl_InsOk.f, impl_InsOk.j0, impl_hasB.f, within_eq, insB]
 by_cases h1 : op = 1
 ·subst h1
  have hn : impl_hasNode.f 1 = some true := by decide
  cases hA : btw a (-1) 59 <;> by_cases hb : b = 0 <;> simp_all [impl_InsOk.f, impl_InsOk.j0, impl_InsOk.j1, impl_hasB.f, within_eq, insB]
 by_cases h2 : op = 2
 ·subst h2
  have hn : impl_hasNode.f 2 = some true := by decide
  cases hA : btw a (-1) 59 <;> by_cases hb : b = 0 <;> simp_all [impl_InsOk.f, impl_InsOk.j0, impl_InsOk.j1, impl_hasB.f, within_eq, insB]
 by_cases h9 : op = 9
 ·subst h9
  have hn : impl_hasNode.f 9 = some true := by decide
  cases hA : btw a (-1) 59 <;> by_cases hb : b = 0 <;> simp_all [impl_InsOk.f, impl_InsOk.j0, impl_InsOk.j1, impl_hasB.f, within_eq, insB]
 by_cases h3 : op = 3
 ·subst h3
  have hn : impl_hasNode.f 3 = some true := by decide
  cases hA : btw a (-1) 59 <;> simp_all [impl_InsOk.f, impl_InsOk.j0, impl_InsOk.j1, impl_hasB.f, within_eq, insB]
 by_cases h4 : op = 4
 ·subst h4
  have hn : impl_hasNode.f 4 = some true := by decide
  cases hA : btw a (-1) 59 <;> simp_all [impl_InsOk.f, impl_InsOk.j0, impl_InsOk.j1, impl_hasB.f, within_eq, insB]
 by_cases h5 : op = 5
 ·subst h5
  have hn : impl_hasNode.f 5 = some false := by decide
  by_cases hb : b = 0 <;> simp_all [impl_InsOk.f, impl_InsOk.j0, impl_InsOk.j1, impl_hasB.f, within_eq, insB]
 by_cases h6 : op = 6
 ·subst h6
  have hn : impl_hasNode.f 6 = some false := by decide
  cases hA : btw a 0 7 <;> simp_all [impl_InsOk.f, impl_InsOk.j0, impl_InsOk.j1, impl_InsOk.j2, impl_hasB.f, within_eq, insB]
 by_cases h7 : op = 7
 ·subst h7
  have hn : impl_hasNode.f 7 = some false := by decide
  cases hA : btw a 0 7 <;> simp_all [impl_InsOk.f, impl_InsOk.j0, impl_InsOk.j1, impl_InsOk.j2, impl_hasB.f, within_eq, insB]
 by_cases h8 : op = 8
 ·subst h8
  have hn : impl_hasNode.f 8 = some false := by decide
  by_cases hb : b = 0 <;> simp_all [impl_InsOk.f, impl_InsOk.j0, impl_InsOk.j1, impl_InsOk.j2, impl_hasB.f, within_eq, insB]
 by_cases h10 : op = 10
 ·subst h10
  have hn : impl_hasNode.f 10 = some true := by decide
  cases hA : btw a (-1) 59 <;> simp_all [impl_InsOk.f, impl_InsOk.j0, impl_InsOk.j1, impl_InsOk.j2, impl_hasB.f, within_eq, insB]
 have hn : impl_hasNode.f op = some false := by
  unfold impl_hasNode.f
  rw [within_eq]
  have : btw op 1 4 = false := by
   rw [Bool.eq_false_iff]
   intro h
   have := btw_iff.1 h
   omega
  simp [h9, h10, this]
 have hb : impl_hasB.f op = some false := by simp [impl_hasB.f, *]
 by_cases hb0 : b = 0 <;> simp [impl_InsOk.f, hn, hb, impl_InsOk.j0, impl_InsOk.j1, impl_InsOk.j2, insB, *]
/-- What the document asks of a program. -/
def insAt (l : List S37) (i : Int) : Bool := insB (rd_T37 l i).f0 (rd_T37 l i).f1 (rd_T37 l i).f2
def progB (l : List S37) : Bool := decide ((l.length : Int) ≤ 12) && allFrom (insAt l) l.length 0
theorem spec_ins3 (k : Nat) (h : 3 ≤ k) (op a b : Int) : spec_InsOk.f k op a b = some (insB op a b) := by
 obtain ⟨m, rfl⟩ : ∃ m, k = m + 3 := ⟨k - 3, by omega⟩
 exact spec_ins m op a b
theorem impl_ins3 (k : Nat) (h : 3 ≤ k) (op a b : Int) : impl_InsOk.f k op a b = some (insB op a b) := by
 obtain ⟨m, rfl⟩ : ∃ m, k = m + 3 := ⟨k - 3, by omega⟩
 exact impl_ins m op a b
theorem spec_prog_loop (l : List S37) (hl : l.length ≤ 1048576) : ∀ (m j k : Nat), j + m = l.length → m + 3 < k → spec_ProgOk.l0 k l (j : Int) = some (allFrom (insAt l) m j && decide ((l.length : Int) ≤ 12)) := by
 intro m
 induction m with
 | zero =>
  intro j k hj hk
  obtain ⟨q, rfl⟩ : ∃ q, k = q + 1 := ⟨k - 1, by omega⟩
  rw [spec_ProgOk.l0, if_neg (by omega)]
  simp [allFrom]
 | succ m ih =>
  intro j k hj hk
  obtain ⟨q, rfl⟩ : ∃ q, k = q + 1 := ⟨k - 1, by omega⟩
  rw [spec_ProgOk.l0, if_pos (by omega), if_pos (by omega), spec_ins3 q (by omega)]
  have e := ih (j + 1) q (by omega) (by omega)
  rw [wrap_id (by omega) (by omega)]
  unfold allFrom
  simp only [Option.bind_some]
  show (if insAt l j = true then _ else _) = _
  cases h : insAt l j
  ·simp
  ·simp only [if_true, Bool.true_and]
   simpa using e
theorem spec_prog (l : List S37) (hl : l.length ≤ 1048576) : ∃ K, ∀ k, K ≤ k → spec_ProgOk.f k l = some (progB l) := by
 refine ⟨l.length + 4, fun k hk => ?_⟩
 have e := spec_prog_loop l hl l.length 0 k (by omega) (by omega)
 unfold spec_ProgOk.f progB
 rw [Bool.and_comm]
 simpa using e
theorem impl_badins (l : List S37) (hl : l.length ≤ 1048576) : ∃ K, ∀ k, K ≤ k → impl_Ins_16.f k l = some (!allFrom (insAt l) l.length 0) := by
 obtain ⟨K, e⟩ := ev_all (fun k i => (impl_Ins_33.l0 k l (l.length : Int) i).bind fun t => some (!decide (t ≥ 0))) (insAt l) l.length 3 (fun k i hk h0 h1 => by
  show (impl_Ins_33.l0 (k + 1) l (l.length : Int) i).bind (fun t => some (!decide (t ≥ 0))) = if insAt l i = true then (impl_Ins_33.l0 k l (l.length : Int) (wrap64 (i + 1))).bind (fun t => some (!decide (t ≥ 0))) else some false
  rw [impl_Ins_33.l0, if_pos h1, if_pos h0, if_pos h1]
  unfold impl_ProgOk_1.f
  rw [impl_ins3 k hk]
  show ((some (!insAt l i)).bind _).bind _ = _
  cases h : insAt l i
  ·simp [h0]
  ·simp) (fun k i h => by
  show (impl_Ins_33.l0 (k + 1) l (l.length : Int) i).bind (fun t => some (!decide (t ≥ 0))) = _
  rw [impl_Ins_33.l0, if_neg h]
  rfl) (by omega)
 refine ⟨K, fun k hk => ?_⟩
 have q := e k hk
 simp only at q
 unfold impl_Ins_16.f impl_Ins_33.f
 cases h : impl_Ins_33.l0 k l (l.length : Int) 0 with
 | none => rw [h] at q; simp at q
 | some t =>
  rw [h] at q
  simp only [Option.bind_some, Option.some.injEq] at q ⊢
  rw [← q, Bool.not_not]
theorem impl_prog (l : List S37) (hl : l.length ≤ 1048576) : ∃ K, ∀ k, K ≤ k → impl_ProgOk.f k l = some (progB l) := by
 obtain ⟨K, e⟩ := impl_badins l hl
 refine ⟨K, fun k hk => ?_⟩
 unfold impl_ProgOk.f progB
 rw [e k hk]
 by_cases h : (l.length : Int) ≤ 12
 ·rw [if_pos h]
  simp [h]
 ·rw [if_neg h]
  simp [h]
/-- The bytes as a text. -/
def Bs (l : List UInt8) : ByteArray := ⟨l.toArray⟩
theorem Bs_app (a b : List UInt8) : Bs a ++ Bs b = Bs (a ++ b) := by
 apply ByteArray.ext
 rw [ByteArray.data_append]
 show a.toArray ++ b.toArray = (a ++ b).toArray
 simp
theorem Bs_size (l : List UInt8) : (Bs l).size = l.length := by
 show l.toArray.size = l.length
 simp
theorem Bs_data (l : List UInt8) : (Bs l).data.toList = l := by
 show l.toArray.toList = l
 simp
theorem Bs_list (l : List UInt8) : (Bs l).toList = l := by rw [Lib.toList_data, Bs_data]
theorem Bs_eta (s : ByteArray) : Bs s.data.toList = s := Lib.mk_data s
theorem dec_len : ∀ (u : Nat), (Lib.decDigits u).length ≤ u + 1 := by
 intro u
 induction u using Nat.strongRecOn with
 | _ u ih =>
  by_cases h : u < 10
  ·rw [Lib.decDigits, dif_pos h]; simp
  ·rw [Lib.decDigits, dif_neg h]
   have := ih (u / 10) (by omega)
   rw [List.length_append]
   simp
   omega
theorem dec_ne (u : Nat) : Lib.decDigits u ≠ [] := by
 by_cases h : u < 10
 ·rw [Lib.decDigits, dif_pos h]; simp
 ·rw [Lib.decDigits, dif_neg h]; simp
theorem digit_str (n : Int) : strOfNums [n] = Bs [UInt8.ofNat n.toNat] := rfl
theorem int_loop : ∀ (u : Nat), u ≤ 100000 → ∀ (s : List UInt8) (k : Nat), s.length + u ≤ 200000 → (s = [] ∨ 0 < u) → 2 * u + 6 ≤ k → spec_l1Int.l0 k (u : Int) (Bs s) false = some (Bs (Lib.decDigits u ++ s)) := by
 intro u
 induction u using Nat.strongRecOn with
 | _ u ih =>
  intro hu s k hs h0 hk
  obtain ⟨k, rfl⟩ : ∃ q, k = q + 4 := ⟨k - 4, by omega⟩
  have hd : Int.tmod (u : Int) 10 = ((u % 10 : Nat) : Int) := by rw [Int.tmod_eq_emod_of_nonneg (by omega)]; omega
  have hq : Int.tdiv (u : Int) 10 = ((u / 10 : Nat) : Int) := by rw [Int.tdiv_eq_ediv_of_nonneg (by omega)]; omega
  have w1 : wrap64 (48 + ((u % 10 : Nat) : Int)) % 256 = ((48 + u % 10 : Nat) : Int) := by rw [wrap_id (by omega) (by omega)]; omega
  have w2 : wrap64 ((u / 10 : Nat) : Int) = ((u / 10 : Nat) : Int) := wrap_id (by omega) (by omega)
  have step : spec_l1Int.j1 (k + 3) (u : Int) (Bs s) false true = spec_l1Int.l0 (k + 2) ((u / 10 : Nat) : Int) (Bs (UInt8.ofNat (48 + u % 10) :: s)) false := by
   rw [spec_l1Int.j1, if_pos rfl, hd, if_neg (by omega), Option.bind_some, w1, digit_str, Int.toNat_natCast, Bs_size, Bs_size, if_pos (by simp; omega), hq, w2, Bs_app]
   rfl
  have first : spec_l1Int.l0 (k + 4) (u : Int) (Bs s) false = spec_l1Int.j1 (k + 3) (u : Int) (Bs s) false true := by
   rw [spec_l1Int.l0, Bs_list]
   by_cases he : s = []
   ·rw [if_pos he]
   ·rw [if_neg he]
    have : ((u : Int) != 0) = true := by rw [bne_iff_ne]; rcases h0 with h0 | h0; exact absurd h0 he; omega
    rw [this]
  rw [first, step]
  by_cases h10 : u < 10
  ·have hz : u / 10 = 0 := by omega
   have hm : u % 10 = u := by omega
   rw [hz, hm, spec_l1Int.l0, Bs_list, if_neg (by simp), show (((0 : Nat) : Int) != 0) = false from rfl, spec_l1Int.j1, if_neg (by simp), if_neg (by simp), Lib.decDigits, dif_pos h10]
   rfl
  ·rw [ih (u / 10) (by omega) (by omega) _ (k + 2) (by simp; omega) (Or.inr (by omega)) (by omega)]
   conv => rhs; rw [Lib.decDigits, dif_neg h10]
   rw [List.append_assoc]
   rfl
theorem spec_int (u : Nat) (hu : u ≤ 100000) (k : Nat) (hk : 2 * u + 6 ≤ k) : spec_l1Int.f k (u : Int) = some (Bs (Lib.decDigits u)) := by
 unfold spec_l1Int.f
 have : decide ((u : Int) < 0) = false := decide_eq_false (by omega)
 rw [this]
 have e := int_loop u hu [] k (by simp; omega) (Or.inl rfl) hk
 rw [List.append_nil] at e
 exact e
/-- The word of an instruction. -/
def nameL (op : Int) : List UInt8 := [[101, 110, 100], [101, 114, 114], [119, 97, 105, 116], [115, 108, 101, 101, 112], [99, 97, 110, 99, 101, 108], [105, 102], [103, 111], [116, 114, 121], [106, 111, 105, 110], [99, 104, 105, 108, 100], [107, 101, 121]].getD op.toNat []
def twoB (op : Int) : Bool := op == 3 || (op == 4 || (op == 6 || (op == 7 || op == 10)))
def nodeB (op : Int) : Bool := btw op 1 4 || (op == 9 || op == 10)
theorem name_len (op : Int) : (nameL op).length ≤ 6 := by
 unfold nameL
 rcases Nat.lt_or_ge op.toNat 11 with h | h
 ·generalize op.toNat = n at h
  rcases (by omega : n = 0 ∨ n = 1 ∨ n = 2 ∨ n = 3 ∨ n = 4 ∨ n = 5 ∨ n = 6 ∨ n = 7 ∨ n = 8 ∨ n = 9 ∨ n = 10) with rfl | rfl | rfl | rfl | rfl | rfl | rfl | rfl | rfl | rfl | rfl <;> simp
 ·rw [List.getD_eq_getElem?_getD, List.getElem?_eq_none (by simpa using h)]
  simp
theorem ops_cases {op : Int} (h0 : 0 ≤ op) (h1 : op ≤ 10) : op = 0 ∨ op = 1 ∨ op = 2 ∨ op = 3 ∨ op = 4 ∨ op = 5 ∨ op = 6 ∨ op = 7 ∨ op = 8 ∨ op = 9 ∨ op = 10 := by omega
theorem spec_name {op : Int} (h0 : 0 ≤ op) (h1 : op ≤ 10) : spec_l9Name.f op = some (Bs (nameL op)) := by
 rcases ops_cases h0 h1 with rfl | rfl | rfl | rfl | rfl | rfl | rfl | rfl | rfl | rfl | rfl <;> rfl
theorem impl_word {op : Int} (h0 : 0 ≤ op) (h1 : op ≤ 10) : ∃ W, impl_opWords.f = some W ∧ op < (W.length : Int) ∧ rdOf ByteArray.empty W op = Bs (nameL op) := by
 refine ⟨_, rfl, ?_, ?_⟩
 ·simp; omega
 ·rcases ops_cases h0 h1 with rfl | rfl | rfl | rfl | rfl | rfl | rfl | rfl | rfl | rfl | rfl <;> rfl
theorem spec_two (op : Int) : spec_l9Two.f op = some (twoB op) := by
 unfold spec_l9Two.f twoB
 by_cases h3 : op = 3
 ·rw [if_pos h3, h3]; rfl
 rw [if_neg h3, beq_eq_false_iff_ne.mpr h3, Bool.false_or]
 by_cases h4 : op = 4
 ·rw [if_pos h4, h4]; rfl
 rw [if_neg h4, beq_eq_false_iff_ne.mpr h4, Bool.false_or]
 by_cases h6 : op = 6
 ·rw [if_pos h6, h6]; rfl
 rw [if_neg h6, beq_eq_false_iff_ne.mpr h6, Bool.false_or]
 by_cases h7 : op = 7
 ·rw [if_pos h7, h7]; rfl
 rw [if_neg h7, beq_eq_false_iff_ne.mpr h7, Bool.false_or]
theorem impl_two (op : Int) : impl_hasB.f op = some (twoB op) := by
 unfold impl_hasB.f twoB
 by_cases h3 : op = 3
 ·rw [if_pos h3, h3]; rfl
 rw [if_neg h3, beq_eq_false_iff_ne.mpr h3, Bool.false_or]
 by_cases h4 : op = 4
 ·rw [if_pos h4, h4]; rfl
 rw [if_neg h4, beq_eq_false_iff_ne.mpr h4, Bool.false_or]
 by_cases h6 : op = 6
 ·rw [if_pos h6, h6]; rfl
 rw [if_neg h6, beq_eq_false_iff_ne.mpr h6, Bool.false_or]
 by_cases h7 : op = 7
 ·rw [if_pos h7, h7]; rfl
 rw [if_neg h7, beq_eq_false_iff_ne.mpr h7, Bool.false_or]
theorem impl_node (op : Int) : impl_hasNode.f op = some (nodeB op) := by
 unfold impl_hasNode.f nodeB
 rw [within_eq, Option.bind_some]
 cases btw op 1 4
 ·by_cases h9 : op = 9 <;> simp [h9]
 ·simp
/-- The numbers of an instruction are small. -/
theorem insB_span {op a b : Int} (h : insB op a b = true) : 0 ≤ op ∧ op ≤ 10 ∧ -1 ≤ a ∧ a ≤ 90 ∧ 0 ≤ b ∧ b ≤ 1000 ∧ (a < 0 → nodeB op = true) := by
 unfold insB at h
 have eb : ∀ {p q : Bool}, (p && q) = true → p = true ∧ q = true := fun h => by simpa using h
 by_cases h0 : op = 0
 ·rw [if_pos h0] at h
  obtain ⟨h1, h2⟩ := eb h
  have h1 := btw_iff.1 h1
  have h2 : b = 0 := by simpa using h2
  exact ⟨by omega, by omega, by omega, by omega, by omega, by omega, fun hh => by omega⟩
 rw [if_neg h0] at h
 by_cases h1 : op = 1 ∨ op = 2 ∨ op = 9
 ·rw [if_pos h1] at h
  obtain ⟨h3, h2⟩ := eb h
  have h3 := btw_iff.1 h3
  have h2 : b = 0 := by simpa using h2
  refine ⟨by omega, by omega, by omega, by omega, by omega, by omega, fun _ => ?_⟩
  rcases h1 with rfl | rfl | rfl <;> rfl
 rw [if_neg h1] at h
 by_cases h3 : op = 3
 ·rw [if_pos h3] at h
  obtain ⟨h4, h2⟩ := eb h
  have h4 := btw_iff.1 h4
  have h2 := btw_iff.1 h2
  exact ⟨by omega, by omega, by omega, by omega, by omega, by omega, fun _ => by rw [h3]; rfl⟩
 rw [if_neg h3] at h
 by_cases h4 : op = 4
 ·rw [if_pos h4] at h
  obtain ⟨h5, h2⟩ := eb h
  have h5 := btw_iff.1 h5
  have h2 := btw_iff.1 h2
  exact ⟨by omega, by omega, by omega, by omega, by omega, by omega, fun _ => by rw [h4]; rfl⟩
 rw [if_neg h4] at h
 by_cases h5 : op = 5
 ·rw [if_pos h5] at h
  obtain ⟨h6, h2⟩ := eb h
  have h6 := btw_iff.1 h6
  have h2 : b = 0 := by simpa using h2
  exact ⟨by omega, by omega, by omega, by omega, by omega, by omega, fun hh => by omega⟩
 rw [if_neg h5] at h
 by_cases h6 : op = 6 ∨ op = 7
 ·rw [if_pos h6] at h
  obtain ⟨h7, h2⟩ := eb h
  have h7 := btw_iff.1 h7
  have h2 := btw_iff.1 h2
  exact ⟨by omega, by omega, by omega, by omega, by omega, by omega, fun hh => by omega⟩
 rw [if_neg h6] at h
 by_cases h8 : op = 8
 ·rw [if_pos h8] at h
  obtain ⟨h7, h2⟩ := eb h
  have h7 := btw_iff.1 h7
  have h2 : b = 0 := by simpa using h2
  exact ⟨by omega, by omega, by omega, by omega, by omega, by omega, fun hh => by omega⟩
 rw [if_neg h8] at h
 by_cases h10 : op = 10
 ·rw [if_pos h10] at h
  obtain ⟨h7, h2⟩ := eb h
  have h7 := btw_iff.1 h7
  have h2 := btw_iff.1 h2
  exact ⟨by omega, by omega, by omega, by omega, by omega, by omega, fun _ => by rw [h10]; rfl⟩
 rw [if_neg h10] at h
 cases h
/-- The text of an instruction. -/
def insT (op a b : Int) : List UInt8 := (nameL op ++ [32]) ++ (if a < 0 then [105, 116] else Lib.decDigits a.toNat) ++ (if twoB op = true then [32] ++ Lib.decDigits b.toNat else [])
theorem insT_len {op a b : Int} (h : insB op a b = true) : (insT op a b).length ≤ 1200 := by
 obtain ⟨_, _, _, ha, _, hb, _⟩ := insB_span h
 have := name_len op
 have h1 := dec_len a.toNat
 have h2 := dec_len b.toNat
 unfold insT
 rw [List.length_append, List.length_append, List.length_append]
 split <;> split <;> simp <;> omega
theorem spec_show {op a b : Int} (h : insB op a b = true) (k : Nat) (hk : 3000 ≤ k) : spec_l9Show.f k op a b = some (Bs (insT op a b)) := by
 obtain ⟨h0, h1, ha0, ha, hb0, hb, _⟩ := insB_span h
 have hn := name_len op
 have d1 := dec_len a.toNat
 have d2 := dec_len b.toNat
 have e32 : (⟨#[32]⟩ : ByteArray) = Bs [32] := rfl
 have eit : (⟨#[105, 116]⟩ : ByteArray) = Bs [105, 116] := rfl
 have tail : ∀ s : List UInt8, s.length ≤ 200 → ∀ k, 2900 ≤ k → spec_l9Show.j0 k (Bs s) op a b = some (Bs (s ++ (if twoB op = true then [32] ++ Lib.decDigits b.toNat else []))) := by
  intro s hs k hk
  obtain ⟨k, rfl⟩ : ∃ q, k = q + 1 := ⟨k - 1, by omega⟩
  rw [spec_l9Show.j0, spec_two, Option.bind_some]
  cases twoB op
  ·rw [if_neg (by simp), if_neg (by simp), List.append_nil]
  ·have hbn : b = ((b.toNat : Nat) : Int) := by omega
   have ei : spec_l1Int.f k b = some (Bs (Lib.decDigits b.toNat)) := by
    have := spec_int b.toNat (by omega) k (by omega)
    rw [← hbn] at this
    exact this
   rw [if_pos rfl, if_pos rfl, Bs_size, if_pos (by omega), ei, Option.bind_some, e32, Bs_app, Bs_size, Bs_size, if_pos (by rw [List.length_append]; simp; omega), Bs_app, List.append_assoc]
 unfold spec_l9Show.f insT
 rw [spec_name h0 h1, Option.bind_some, Bs_size, if_pos (by omega)]
 by_cases hneg : a < 0
 ·rw [if_pos hneg, if_pos hneg, e32, eit, Bs_app, Bs_size, if_pos (by rw [List.length_append]; simp; omega), Bs_app]
  exact tail _ (by rw [List.length_append, List.length_append]; simp; omega) k (by omega)
 ·have han : a = ((a.toNat : Nat) : Int) := by omega
  have ei : spec_l1Int.f k a = some (Bs (Lib.decDigits a.toNat)) := by
   have := spec_int a.toNat (by omega) k (by omega)
   rw [← han] at this
   exact this
  rw [if_neg hneg, if_neg hneg, ei, Option.bind_some, e32, Bs_app, Bs_size, Bs_size, if_pos (by rw [List.length_append]; simp; omega), Bs_app]
  exact tail _ (by rw [List.length_append, List.length_append]; simp; omega) k (by omega)
theorem impl_textOf {a : Int} (h0 : -1 ≤ a) (h1 : a ≤ 100000) : impl_text.f a = some (Bs (Lib.itoa a)) := by
 unfold impl_text.f textF
 rw [if_pos ⟨by omega, by omega⟩]
 rfl
theorem itoa_len {a : Int} (h0 : -1 ≤ a) : (Lib.itoa a).length ≤ a.toNat + 3 := by
 unfold Lib.itoa
 have h1 := dec_len a.toNat
 have h2 := dec_len a.natAbs
 split
 ·simp; omega
 ·omega
theorem itoa_nat {a : Int} (h0 : ¬ a < 0) : Lib.itoa a = Lib.decDigits a.toNat := by
 unfold Lib.itoa
 rw [if_neg h0]
theorem impl_show {op a b : Int} (h : insB op a b = true) (k : Nat) (hk : 3 ≤ k) : impl_insText.f k op a b = some (Bs (insT op a b)) := by
 obtain ⟨h0, h1, ha0, ha, hb0, hb, hnode⟩ := insB_span h
 have hn := name_len op
 have l1 := itoa_len ha0
 have l2 := itoa_len (show -1 ≤ b by omega)
 have d1 := dec_len a.toNat
 have e32 : (⟨#[32]⟩ : ByteArray) = Bs [32] := rfl
 have eit : (⟨#[32, 105, 116]⟩ : ByteArray) = Bs [32, 105, 116] := rfl
 obtain ⟨W, hW, hlt, hrd⟩ := impl_word h0 h1
 have tail : ∀ s : List UInt8, s.length ≤ 200 → ∀ k, 1 ≤ k → impl_insText.j1 k (Bs s) op a b = some (Bs (s ++ (if twoB op = true then [32] ++ Lib.decDigits b.toNat else []))) := by
  intro s hs k hk
  obtain ⟨k, rfl⟩ : ∃ q, k = q + 1 := ⟨k - 1, by omega⟩
  rw [impl_insText.j1, impl_two, Option.bind_some]
  cases twoB op
  ·rw [if_neg (by simp), if_neg (by simp), List.append_nil]
  ·rw [if_pos rfl, if_pos rfl, impl_textOf (by omega) (by omega), Option.bind_some, Bs_size, if_pos (by omega), e32, Bs_app, Bs_size, Bs_size, if_pos (by rw [List.length_append]; simp; omega), Bs_app, itoa_nat (by omega)]
 obtain ⟨k, rfl⟩ : ∃ q, k = q + 1 := ⟨k - 1, by omega⟩
 have mid : ∀ y : Bool, impl_insText.j0 (k + 1) (Bs ((nameL op ++ [32]) ++ Lib.itoa a)) y op a b = impl_insText.j1 k (Bs (if y = true then (nameL op ++ [32]) ++ [105, 116] else (nameL op ++ [32]) ++ Lib.itoa a)) op a b := by
  intro y
  rw [impl_insText.j0]
  cases y
  ·rw [if_neg (by simp), if_neg (by simp)]
  ·rw [if_pos rfl, if_pos rfl, hW, Option.bind_some, if_pos h0, if_pos hlt, hrd, Bs_size, if_pos (by omega), eit, Bs_app, List.append_assoc]
   rfl
 unfold impl_insText.f insT
 rw [hW, Option.bind_some, if_pos h0, if_pos hlt, hrd, Bs_size, if_pos (by omega), impl_textOf ha0 (by omega), Option.bind_some, e32, Bs_app, Bs_size, Bs_size, if_pos (by rw [List.length_append]; simp; omega), impl_node, Option.bind_some, Bs_app]
 by_cases hneg : a < 0
 ·have ha1 : a = -1 := by omega
  have hb1 : (a == -1) = true := by rw [ha1]; rfl
  rw [hnode hneg, if_pos rfl, hb1, mid true, if_pos rfl, if_pos hneg]
  exact tail _ (by rw [List.length_append, List.length_append]; simp; omega) k (by omega)
 ·have hb1 : (a == -1) = false := by rw [beq_eq_false_iff_ne]; omega
  have fin : impl_insText.j0 (k + 1) (Bs ((nameL op ++ [32]) ++ Lib.itoa a)) false op a b = some (Bs ((nameL op ++ [32]) ++ (if a < 0 then [105, 116] else Lib.decDigits a.toNat) ++ (if twoB op = true then [32] ++ Lib.decDigits b.toNat else []))) := by
   rw [mid false, if_neg (by simp), if_neg hneg, itoa_nat hneg]
   exact tail _ (by rw [List.length_append, List.length_append]; simp; omega) k (by omega)
  cases nodeB op
  ·rw [if_neg (by simp)]; exact fin
  ·rw [if_pos rfl, hb1]; exact fin
/-- The texts of instructions. -/
def insTs (l : List S37) : List (List UInt8) := l.map fun x => insT x.f0 x.f1 x.f2
def sepL : List UInt8 := [59, 32]
theorem join_len (M : Nat) (sep : List UInt8) : ∀ xs : List (List UInt8), (∀ x ∈ xs, x.length ≤ M) → (Lib.joinTail sep xs).length ≤ xs.length * (M + sep.length) := by
 intro xs
 induction xs with
 | nil => intro _; simp [Lib.joinTail]
 | cons x r ih =>
  intro h
  have h1 := ih (fun y hy => h y (List.mem_cons_of_mem _ hy))
  have h2 := h x (List.mem_cons_self ..)
  unfold Lib.joinTail at h1 ⊢
  rw [List.map_cons, List.flatten_cons, List.length_append, List.length_append, List.length_cons, Nat.add_mul]
  omega
theorem joined_len (M : Nat) (xs : List (List UInt8)) (sep : List UInt8) (h : ∀ x ∈ xs, x.length ≤ M) : (Lib.join xs sep).length ≤ xs.length * (M + sep.length) := by
 cases xs with
 | nil => simp [Lib.join_nil]
 | cons x r =>
  have h1 := join_len M sep r (fun y hy => h y (List.mem_cons_of_mem _ hy))
  have h2 := h x (List.mem_cons_self ..)
  rw [Lib.join_cons, List.length_append, List.length_cons, Nat.add_mul]
  omega
theorem rdOf_at (l : List ByteArray) (j : Nat) (h : j < l.length) : rdOf ByteArray.empty l (j : Int) = l[j] := by
 unfold rdOf
 rw [Int.toNat_natCast, getD_lt _ h]
theorem words_loop (xs : List (List UInt8)) (sep : List UInt8) (hx : xs.length ≤ 1000) : ∀ (m j k : Nat) (s : List UInt8), j + m = xs.length → 0 < j → m < k → s.length + (Lib.joinTail sep (xs.drop j)).length ≤ 4611686018427387904 → spec_l1Words.l0 k (xs.map Bs) (Bs sep) (Bs s) (j : Int) = some (Bs (s ++ Lib.joinTail sep (xs.drop j))) := by
 intro m
 induction m with
 | zero =>
  intro j k s hj h0 hk hs
  obtain ⟨k, rfl⟩ : ∃ q, k = q + 1 := ⟨k - 1, by omega⟩
  rw [spec_l1Words.l0, if_neg (by rw [List.length_map]; omega), List.drop_of_length_le (by omega)]
  simp [Lib.joinTail]
 | succ m ih =>
  intro j k s hj h0 hk hs
  obtain ⟨k, rfl⟩ : ∃ q, k = q + 1 := ⟨k - 1, by omega⟩
  have hlt : j < xs.length := by omega
  have hd : xs.drop j = xs[j] :: xs.drop (j + 1) := List.drop_eq_getElem_cons hlt
  have hjt : Lib.joinTail sep (xs.drop j) = (sep ++ xs[j]) ++ Lib.joinTail sep (xs.drop (j + 1)) := by
   rw [hd]; unfold Lib.joinTail; rw [List.map_cons, List.flatten_cons]
  rw [hjt, List.length_append, List.length_append] at hs
  have hr : rdOf ByteArray.empty (xs.map Bs) (j : Int) = Bs xs[j] := by rw [rdOf_at _ _ (by rw [List.length_map]; omega), List.getElem_map]
  rw [spec_l1Words.l0, if_pos (by rw [List.length_map]; omega), if_pos (by omega), hr, Bs_size, Bs_size, if_pos (by omega), if_pos (by omega), Bs_app, Bs_size, Bs_size, if_pos (by rw [List.length_append]; omega), Bs_app, wrap_id (by omega) (by omega), show ((j : Int) + 1) = ((j + 1 : Nat) : Int) by omega, ih (j + 1) k _ (by omega) (by omega) (by omega) (by rw [List.length_append, List.length_append]; omega), hjt]
  simp only [List.append_assoc]
theorem spec_words (xs : List (List UInt8)) (sep : List UInt8) (hx : xs.length ≤ 1000) (hs : (Lib.join xs sep).length ≤ 4611686018427387904) (k : Nat) (hk : xs.length + 1 < k) : spec_l1Words.f k (xs.map Bs) (Bs sep) = some (Bs (Lib.join xs sep)) := by
 unfold spec_l1Words.f
 obtain ⟨k, rfl⟩ : ∃ q, k = q + 1 := ⟨k - 1, by omega⟩
 cases xs with
 | nil =>
  rw [spec_l1Words.l0, if_neg (by simp), Lib.join_nil]
  rfl
 | cons x r =>
  rw [Lib.join_cons] at hs ⊢
  rw [List.length_append] at hs
  have hr : rdOf ByteArray.empty ((x :: r).map Bs) 0 = Bs x := rfl
  rw [spec_l1Words.l0, if_pos (by rw [List.length_map, List.length_cons]; omega), if_neg (by omega), if_pos (by omega), hr, show (⟨#[]⟩ : ByteArray) = Bs [] from rfl, Bs_size, Bs_size, if_pos (by simp; omega), Bs_app, List.nil_append, wrap_id (by omega) (by omega)]
  have := words_loop (x :: r) sep hx r.length 1 k x (by simp; omega) (by omega) (by simp at hk; omega) (by simpa using hs)
  simpa using this
theorem join_impl (xs : List (List UInt8)) (sep : List UInt8) (hx : xs.length ≤ 1000) (hs : (Lib.join xs sep).length ≤ 100000000) : strings_Join.f (xs.map Bs) (Bs sep) = some (Bs (Lib.join xs sep)) := by
 unfold strings_Join.f joinF
 have hm : (xs.map Bs).map (fun y => y.data.toList) = xs := by
  rw [List.map_map]
  have : ((fun y : ByteArray => y.data.toList) ∘ Bs) = id := by
   funext l
   exact Bs_data l
  rw [this, List.map_id]
 rw [hm, Bs_data, List.length_map, if_pos ⟨by omega, by omega⟩]
 rfl
/-- The text of a program. -/
def progT (l : List S37) : List UInt8 := Lib.join (insTs l) sepL
theorem insTs_len (l : List S37) : (insTs l).length = l.length := by unfold insTs; rw [List.length_map]
theorem progB_at {l : List S37} (h : progB l = true) : l.length ≤ 12 ∧ ∀ j : Nat, (hj : j < l.length) → insB l[j].f0 l[j].f1 l[j].f2 = true := by
 unfold progB at h
 rw [Bool.and_eq_true, allFrom_iff] at h
 refine ⟨by have := of_decide_eq_true h.1; omega, fun j hj => ?_⟩
 have := h.2 (j : Int) (by omega) (by omega)
 unfold insAt at this
 have e : rd_T37 l (j : Int) = l[j] := by unfold rd_T37; rw [Int.toNat_natCast, getD_lt _ hj]
 rw [e] at this
 exact this
theorem progT_len {l : List S37} (h : progB l = true) : (progT l).length ≤ 12 * 1202 := by
 obtain ⟨h1, h2⟩ := progB_at h
 have := joined_len 1200 (insTs l) sepL (fun x hx => by
  unfold insTs at hx
  obtain ⟨y, hy, rfl⟩ := List.mem_map.1 hx
  obtain ⟨j, hj, rfl⟩ := List.mem_iff_getElem.1 hy
  exact insT_len (h2 j hj))
 rw [insTs_len] at this
 have e : sepL.length = 2 := rfl
 rw [e] at this
 unfold progT
 exact Nat.le_trans this (Nat.mul_le_mul_right _ h1)
theorem impl_ptext_loop {l : List S37} (h : progB l = true) : ∀ (m j k : Nat), j + m = l.length → m + 3 < k → impl_progText.l0 k ((insTs (l.take j)).map Bs) l (l.length : Int) (j : Int) = some (Bs (progT l)) := by
 obtain ⟨h1, h2⟩ := progB_at h
 have hlen := progT_len h
 intro m
 induction m with
 | zero =>
  intro j k hj hk
  obtain ⟨k, rfl⟩ : ∃ q, k = q + 1 := ⟨k - 1, by omega⟩
  rw [impl_progText.l0, if_neg (by omega), List.take_of_length_le (by omega), show (⟨#[59, 32]⟩ : ByteArray) = Bs sepL from rfl, join_impl _ _ (by rw [insTs_len]; omega) (by show (progT l).length ≤ _; omega)]
  rfl
 | succ m ih =>
  intro j k hj hk
  obtain ⟨k, rfl⟩ : ∃ q, k = q + 1 := ⟨k - 1, by omega⟩
  have hlt : j < l.length := by omega
  have e : rd_T37 l (j : Int) = l[j] := by unfold rd_T37; rw [Int.toNat_natCast, getD_lt _ hlt]
  have et : (insTs (l.take j)).map Bs ++ [Bs (insT l[j].f0 l[j].f1 l[j].f2)] = (insTs (l.take (j + 1))).map Bs := by
   rw [List.take_succ_eq_append_getElem hlt, insTs, insTs, List.map_append, List.map_append]
   rfl
  rw [impl_progText.l0, if_pos (by omega), if_pos (by omega), if_pos (by omega), e, impl_show (h2 j hlt) k (by omega), Option.bind_some, if_pos (by rw [List.length_map, insTs_len, List.length_take]; omega), et, wrap_id (by omega) (by omega), show ((j : Int) + 1) = ((j + 1 : Nat) : Int) by omega]
  exact ih (j + 1) k (by omega) (by omega)
theorem impl_ptext {l : List S37} (h : progB l = true) (k : Nat) (hk : l.length + 3 < k) : impl_progText.f k l = some (Bs (progT l)) := by
 have := impl_ptext_loop h l.length 0 k (by omega) hk
 unfold impl_progText.f
 simpa [insTs] using this
theorem spec_ptext_loop {l : List S37} (h : progB l = true) : ∀ (m j k : Nat), j + m = l.length → m + 3100 < k → spec_ShowProg.l0 k l ((insTs (l.take j)).map Bs) (j : Int) = some (Bs (progT l)) := by
 obtain ⟨h1, h2⟩ := progB_at h
 have hlen := progT_len h
 intro m
 induction m with
 | zero =>
  intro j k hj hk
  obtain ⟨k, rfl⟩ : ∃ q, k = q + 1 := ⟨k - 1, by omega⟩
  rw [spec_ShowProg.l0, if_neg (by omega), List.take_of_length_le (by omega), show (⟨#[59, 32]⟩ : ByteArray) = Bs sepL from rfl, spec_words _ _ (by rw [insTs_len]; omega) (by show (progT l).length ≤ _; omega) k (by rw [insTs_len]; omega)]
  rfl
 | succ m ih =>
  intro j k hj hk
  obtain ⟨k, rfl⟩ : ∃ q, k = q + 1 := ⟨k - 1, by omega⟩
  have hlt : j < l.length := by omega
  have e : rd_T37 l (j : Int) = l[j] := by unfold rd_T37; rw [Int.toNat_natCast, getD_lt _ hlt]
  have et : (insTs (l.take j)).map Bs ++ [Bs (insT l[j].f0 l[j].f1 l[j].f2)] = (insTs (l.take (j + 1))).map Bs := by
   rw [List.take_succ_eq_append_getElem hlt, insTs, insTs, List.map_append, List.map_append]
   rfl
  rw [spec_ShowProg.l0, if_pos (by omega), if_pos (by omega), e, spec_show (h2 j hlt) k (by omega), Option.bind_some, if_pos (by rw [List.length_map, insTs_len, List.length_take]; omega), et, wrap_id (by omega) (by omega), show ((j : Int) + 1) = ((j + 1 : Nat) : Int) by omega]
  exact ih (j + 1) k (by omega) (by omega)
/-- What is shown of a list of instructions. -/
def showB (l : List S37) : ByteArray := if progB l = true then Bs (progT l) else Bs []
theorem spec_showprog (l : List S37) (hl : l.length ≤ 1048576) : ∃ K, ∀ k, K ≤ k → spec_ShowProg.f k l = some (showB l) := by
 obtain ⟨K, e⟩ := spec_prog l hl
 refine ⟨K + l.length + 3200, fun k hk => ?_⟩
 unfold spec_ShowProg.f showB
 rw [e k (by omega), Option.bind_some]
 cases h : progB l with
 | false => rfl
 | true =>
  rw [if_pos rfl, if_pos rfl]
  have := spec_ptext_loop h l.length 0 k (by omega) (by omega)
  simpa [insTs] using this
theorem impl_showprog (l : List S37) (hl : l.length ≤ 1048576) : ∃ K, ∀ k, K ≤ k → impl_ShowProg.f k l = some (showB l) := by
 obtain ⟨K, e⟩ := impl_prog l hl
 refine ⟨K + l.length + 10, fun k hk => ?_⟩
 unfold impl_ShowProg.f showB
 rw [e k (by omega), Option.bind_some]
 cases h : progB l with
 | false => rfl
 | true =>
  rw [if_pos rfl, if_pos rfl, impl_ptext h k (by omega)]
  rfl
def go1 (c0 : UInt8) : List UInt8 → List UInt8 → List (List UInt8)
 | cur, [] => [cur]
 | cur, c :: r => if c = c0 then cur :: go1 c0 [] r else go1 c0 (cur ++ [c]) r
def go2 : List UInt8 → List UInt8 → List (List UInt8)
 | cur, [] => [cur]
 | cur, [c] => [cur ++ [c]]
 | cur, c :: d :: r => if c = 59 ∧ d = 32 then cur :: go2 [] r else go2 (cur ++ [c]) (d :: r)
theorem go1_ne (c0 : UInt8) : ∀ (r cur : List UInt8), go1 c0 cur r ≠ [] := by
 intro r
 induction r with
 | nil => intro cur; simp [go1]
 | cons c r ih =>
  intro cur
  unfold go1
  split
  ·simp
  ·exact ih _
theorem go2_hit (cur r : List UInt8) : go2 cur (59 :: 32 :: r) = cur :: go2 [] r := by
 rw [go2, if_pos ⟨rfl, rfl⟩]
theorem go2_step (cur r : List UInt8) (c : UInt8) (h : ∀ d t, r = d :: t → ¬ (c = 59 ∧ d = 32)) : go2 cur (c :: r) = go2 (cur ++ [c]) r := by
 cases r with
 | nil => simp [go2]
 | cons d t => rw [go2, if_neg (h d t rfl)]
theorem go2_plain (cur r : List UInt8) (c : UInt8) (h : c ≠ 59) : go2 cur (c :: r) = go2 (cur ++ [c]) r := go2_step cur r c (fun _ _ _ q => h q.1)
theorem go2_len : ∀ (n : Nat) (r cur : List UInt8), r.length ≤ n → 2 * (go2 cur r).length ≤ r.length + 2 := by
 intro n
 induction n with
 | zero =>
  intro r cur h
  obtain rfl := List.eq_nil_of_length_eq_zero (Nat.le_zero.1 h)
  simp [go2]
 | succ n ih =>
  intro r cur h
  match r, h with
  | [], _ => simp [go2]
  | [c], _ => simp [go2]
  | c :: d :: r, h =>
   unfold go2
   split
   ·have := ih r [] (by simp at h; omega)
    simp
    omega
   ·have := ih (d :: r) (cur ++ [c]) (by simp at h ⊢; omega)
    simp at this ⊢
    omega
theorem join_more (x : List UInt8) (r : List (List UInt8)) (sep : List UInt8) (h : r ≠ []) : Lib.join (x :: r) sep = x ++ sep ++ Lib.join r sep := by
 cases r with
 | nil => exact absurd rfl h
 | cons y t =>
  rw [Lib.join_cons, Lib.join_cons]
  unfold Lib.joinTail
  rw [List.map_cons, List.flatten_cons]
  simp only [List.append_assoc]
theorem go1_word (c0 : UInt8) : ∀ (t cur r : List UInt8), c0 ∉ t → go1 c0 cur (t ++ r) = go1 c0 (cur ++ t) r := by
 intro t
 induction t with
 | nil => intro cur r _; simp
 | cons c t ih =>
  intro cur r h
  rw [List.cons_append, go1, if_neg (fun e => h (by rw [e]; exact List.mem_cons_self ..)), ih _ _ (fun q => h (List.mem_cons_of_mem _ q))]
  simp
theorem go2_word : ∀ (t cur r : List UInt8), (59 : UInt8) ∉ t → go2 cur (t ++ r) = go2 (cur ++ t) r := by
 intro t
 induction t with
 | nil => intro cur r _; simp
 | cons c t ih =>
  intro cur r h
  rw [List.cons_append, go2_plain _ _ _ (fun e => h (by rw [e]; exact List.mem_cons_self ..)), ih _ _ (fun q => h (List.mem_cons_of_mem _ q))]
  simp
theorem go2_of_join : ∀ (ts : List (List UInt8)) (t cur : List UInt8), (∀ x ∈ t :: ts, (59 : UInt8) ∉ x) → go2 cur (Lib.join (t :: ts) sepL) = (cur ++ t) :: ts := by
 intro ts
 induction ts with
 | nil =>
  intro t cur h
  rw [Lib.join_one]
  have := go2_word t cur [] (h t (List.mem_cons_self ..))
  rw [List.append_nil] at this
  rw [this]
  simp [go2]
 | cons u ts ih =>
  intro t cur h
  rw [join_more _ _ _ (by simp), List.append_assoc, go2_word t cur _ (h t (List.mem_cons_self ..))]
  show go2 (cur ++ t) (59 :: 32 :: Lib.join (u :: ts) sepL) = _
  rw [go2_hit, ih u [] (fun x hx => h x (List.mem_cons_of_mem _ hx))]
  simp
theorem index_here {s sub : List UInt8} (h : sub.isPrefixOf s = true) (hs : s ≠ []) : Lib.index s sub = 0 := by
 cases s with
 | nil => exact absurd rfl hs
 | cons b l => rw [Lib.index, if_pos h]
theorem index_next {b : UInt8} {l sub : List UInt8} (h : sub.isPrefixOf (b :: l) = false) : Lib.index (b :: l) sub = if Lib.index l sub == -1 then -1 else Lib.index l sub + 1 := by
 rw [Lib.index, if_neg (by rw [h]; simp)]
theorem split2_at : ∀ (n : Nat) (s cur : List UInt8), s.length ≤ n → (Lib.index s sepL = -1 ∧ go2 cur s = [cur ++ s]) ∨ (∃ i : Nat, Lib.index s sepL = i ∧ i + 2 ≤ s.length ∧ go2 cur s = (cur ++ s.take i) :: go2 [] (s.drop (i + 2))) := by
 intro n
 induction n with
 | zero =>
  intro s cur h
  obtain rfl := List.eq_nil_of_length_eq_zero (Nat.le_zero.1 h)
  exact Or.inl ⟨rfl, by simp [go2]⟩
 | succ n ih =>
  intro s cur h
  match s, h with
  | [], _ => exact Or.inl ⟨rfl, by simp [go2]⟩
  | c :: l, h =>
   by_cases hp : sepL.isPrefixOf (c :: l) = true
   ·have he : ∃ r, c :: l = 59 :: 32 :: r := by
     rw [List.isPrefixOf_iff_prefix] at hp
     obtain ⟨r, hr⟩ := hp
     exact ⟨r, by rw [← hr]; rfl⟩
    obtain ⟨r, hr⟩ := he
    rw [hr]
    refine Or.inr ⟨0, index_here (by rfl) (by simp), by simp, ?_⟩
    rw [go2_hit]
    simp
   ·have hp := Bool.eq_false_iff.mpr hp
    have hn := index_next hp
    have hst : go2 cur (c :: l) = go2 (cur ++ [c]) l := go2_step cur l c (fun d t e q => by
     subst e
     rw [q.1, q.2] at hp
     simp [sepL, List.isPrefixOf] at hp)
    rcases ih l (cur ++ [c]) (by simp at h; omega) with ⟨h1, h2⟩ | ⟨i, h1, h2, h3⟩
    ·refine Or.inl ⟨by rw [hn, h1]; rfl, ?_⟩
     rw [hst, h2]
     simp
    ·refine Or.inr ⟨i + 1, ?_, by simp; omega, ?_⟩
     ·rw [hn, h1]
      have : ¬ (((i : Int)) == -1) = true := by rw [beq_iff_eq]; omega
      rw [if_neg this]
      omega
     ·rw [hst, h3]
      simp [Nat.add_right_comm]
theorem split1_at (c0 : UInt8) : ∀ (s cur : List UInt8), (Lib.index s [c0] = -1 ∧ go1 c0 cur s = [cur ++ s]) ∨ (∃ i : Nat, Lib.index s [c0] = i ∧ i + 1 ≤ s.length ∧ go1 c0 cur s = (cur ++ s.take i) :: go1 c0 [] (s.drop (i + 1))) := by
 intro s
 induction s with
 | nil => intro cur; exact Or.inl ⟨rfl, by simp [go1]⟩
 | cons c l ih =>
  intro cur
  by_cases hc : c = c0
  ·subst hc
   refine Or.inr ⟨0, index_here (by simp [List.isPrefixOf]) (by simp), by simp, ?_⟩
   rw [go1, if_pos rfl]
   simp
  ·have hp : [c0].isPrefixOf (c :: l) = false := by
    have : (c0 == c) = false := beq_eq_false_iff_ne.mpr (fun e => hc e.symm)
    simp [List.isPrefixOf, this]
   have hn := index_next hp
   rw [go1, if_neg hc]
   rcases ih (cur ++ [c]) with ⟨h1, h2⟩ | ⟨i, h1, h2, h3⟩
   ·refine Or.inl ⟨by rw [hn, h1]; rfl, ?_⟩
    rw [h2]
    simp
   ·refine Or.inr ⟨i + 1, ?_, by simp; omega, ?_⟩
    ·rw [hn, h1]
     have : ¬ (((i : Int)) == -1) = true := by rw [beq_iff_eq]; omega
     rw [if_neg this]
     omega
    ·rw [h3]
     simp
theorem splitK_two : ∀ (n : Nat) (s : List UInt8), s.length ≤ n → Lib.splitK sepL 0 (Lib.count s sepL) s = go2 [] s := by
 intro n
 induction n with
 | zero =>
  intro s h
  obtain rfl := List.eq_nil_of_length_eq_zero (Nat.le_zero.1 h)
  rw [Lib.count_miss (by rfl)]
  simp [Lib.splitK, go2]
 | succ n ih =>
  intro s h
  rcases split2_at s.length s [] (Nat.le_refl _) with ⟨h1, h2⟩ | ⟨i, h1, h2, h3⟩
  ·rw [Lib.count_miss h1, h2]
   rfl
  ·rw [Lib.count_hit (by simp [sepL]) h1, Nat.add_comm, Lib.splitK, h1]
   have : ¬ (((i : Int)) == -1) = true := by rw [beq_iff_eq]; omega
   rw [if_neg this, Int.toNat_natCast, h3]
   have e : sepL.length = 2 := rfl
   rw [e, ih _ (by rw [List.length_drop]; omega)]
   simp
theorem splitK_one (c0 : UInt8) : ∀ (n : Nat) (s : List UInt8), s.length ≤ n → Lib.splitK [c0] 0 (Lib.count s [c0]) s = go1 c0 [] s := by
 intro n
 induction n with
 | zero =>
  intro s h
  obtain rfl := List.eq_nil_of_length_eq_zero (Nat.le_zero.1 h)
  rw [Lib.count_miss (by rfl)]
  simp [Lib.splitK, go1]
 | succ n ih =>
  intro s h
  rcases split1_at c0 s [] with ⟨h1, h2⟩ | ⟨i, h1, h2, h3⟩
  ·rw [Lib.count_miss h1, h2]
   rfl
  ·rw [Lib.count_hit (by simp) h1, Nat.add_comm, Lib.splitK, h1]
   have : ¬ (((i : Int)) == -1) = true := by rw [beq_iff_eq]; omega
   rw [if_neg this, Int.toNat_natCast, h3]
   have e : [c0].length = 1 := rfl
   rw [e, ih _ (by rw [List.length_drop]; omega)]
   simp
theorem map_eta : ∀ (l : List ByteArray) (xs : List (List UInt8)), l.map (·.data.toList) = xs → l = xs.map Bs := by
 intro l
 induction l with
 | nil => intro xs h; simp at h; subst h; rfl
 | cons x l ih =>
  intro xs h
  cases xs with
  | nil => simp at h
  | cons y ys =>
   rw [List.map_cons] at h
   obtain ⟨h1, h2⟩ := List.cons.inj h
   rw [List.map_cons, ← ih ys h2, ← h1, Bs_eta]
theorem split_two (s : List UInt8) (h : s.length < 4294967281) : strings_Split.f (Bs s) (Bs sepL) = some ((go2 [] s).map Bs) := by
 unfold strings_Split.f splitF
 have hn : 1 ≤ (Bs sepL).size := by rw [Bs_size]; decide
 rw [if_pos ⟨by rw [Bs_size]; exact h, hn⟩]
 refine congrArg some (map_eta _ _ ?_)
 rw [Lib.splitB_data]
 have : Lib.countB (Bs s) (Bs sepL) = Lib.count s sepL := by unfold Lib.countB; rw [Bs_data, Bs_data]
 rw [this, Bs_data, Bs_data, splitK_two s.length s (Nat.le_refl _)]
theorem split_one (s : List UInt8) (h : s.length < 4294967281) : strings_Split.f (Bs s) (Bs [32]) = some ((go1 32 [] s).map Bs) := by
 unfold strings_Split.f splitF
 have hn : 1 ≤ (Bs [32]).size := by rw [Bs_size]; decide
 rw [if_pos ⟨by rw [Bs_size]; exact h, hn⟩]
 refine congrArg some (map_eta _ _ ?_)
 rw [Lib.splitB_data]
 have : Lib.countB (Bs s) (Bs [32]) = Lib.count s [32] := by unfold Lib.countB; rw [Bs_data, Bs_data]
 rw [this, Bs_data, Bs_data, splitK_one 32 s.length s (Nat.le_refl _)]
theorem digitVal_in {c : UInt8} (h0 : 48 ≤ c.toNat) (h1 : c.toNat ≤ 57) : Lib.digitVal c = some (c.toNat - 48) := by
 unfold Lib.digitVal
 rw [if_pos (by omega)]
theorem byte_nat {u : Nat} (h : u < 10) : (UInt8.ofNat (48 + u)).toNat = 48 + u := by
 rw [UInt8.toNat_ofNat']
 omega
theorem digitVal_byte {u : Nat} (h : u < 10) : Lib.digitVal (UInt8.ofNat (48 + u)) = some u := by
 rw [digitVal_in (by rw [byte_nat h]; omega) (by rw [byte_nat h]; omega), byte_nat h]
 congr 1
 omega
theorem decFrom_snoc : ∀ (l : List UInt8) (acc : Nat) (c : UInt8), Lib.decFrom acc (l ++ [c]) = (Lib.decFrom acc l).bind fun n => (Lib.digitVal c).map fun d => n * 10 + d := by
 intro l
 induction l with
 | nil =>
  intro acc c
  rw [List.nil_append]
  simp only [Lib.decFrom]
  cases Lib.digitVal c <;> rfl
 | cons b l ih =>
  intro acc c
  rw [List.cons_append]
  simp only [Lib.decFrom]
  cases Lib.digitVal b with
  | none => rfl
  | some d => exact ih _ _
theorem decFrom_dec : ∀ u : Nat, Lib.decFrom 0 (Lib.decDigits u) = some u := by
 intro u
 induction u using Nat.strongRecOn with
 | _ u ih =>
  by_cases h : u < 10
  ·rw [Lib.decDigits, dif_pos h]
   simp only [Lib.decFrom, digitVal_byte h]
   simp
  ·rw [Lib.decDigits, dif_neg h, decFrom_snoc, ih (u / 10) (by omega), Option.bind_some, digitVal_byte (by omega)]
   show some (u / 10 * 10 + u % 10) = some u
   congr 1
   omega
theorem dec_digit : ∀ (u : Nat) (c : UInt8), c ∈ Lib.decDigits u → 48 ≤ c.toNat ∧ c.toNat ≤ 57 := by
 intro u
 induction u using Nat.strongRecOn with
 | _ u ih =>
  intro c hc
  by_cases h : u < 10
  ·rw [Lib.decDigits, dif_pos h, List.mem_singleton] at hc
   rw [hc, byte_nat h]
   omega
  ·rw [Lib.decDigits, dif_neg h, List.mem_append, List.mem_singleton] at hc
   rcases hc with hc | hc
   ·exact ih (u / 10) (by omega) c hc
   ·rw [hc, byte_nat (by omega)]
    omega
theorem dec_short {u : Nat} (h : u < 10000) : (Lib.decDigits u).length ≤ 4 := by
 have one : ∀ v : Nat, v < 10 → (Lib.decDigits v).length = 1 := fun v hv => by rw [Lib.decDigits, dif_pos hv]; rfl
 have step : ∀ v : Nat, ¬ v < 10 → (Lib.decDigits v).length = (Lib.decDigits (v / 10)).length + 1 := fun v hv => by
  conv => lhs; rw [Lib.decDigits, dif_neg hv]
  rw [List.length_append]
  rfl
 by_cases h1 : u < 10
 ·rw [one u h1]; omega
 rw [step u h1]
 by_cases h2 : u / 10 < 10
 ·rw [one _ h2]; omega
 rw [step _ h2]
 by_cases h3 : u / 10 / 10 < 10
 ·rw [one _ h3]; omega
 rw [step _ h3, one _ (by omega)]
 omega
/-- The words of an instruction. -/
def wordsT (op a b : Int) : List (List UInt8) := nameL op :: (if a < 0 then [105, 116] else Lib.decDigits a.toNat) :: (if twoB op = true then [Lib.decDigits b.toNat] else [])
theorem nft : ¬ (false = true) := by simp
theorem tit : true = true := rfl
theorem names_fine : ∀ n : Nat, n < 11 → (32 : UInt8) ∉ nameL (n : Int) ∧ (59 : UInt8) ∉ nameL (n : Int) := by decide
theorem names_apart : ∀ n : Nat, n < 11 → ∀ m : Nat, m < 11 → nameL (n : Int) = nameL (m : Int) → n = m := by decide
theorem name_inj {o p : Int} (h0 : 0 ≤ o) (h1 : o ≤ 10) (h2 : 0 ≤ p) (h3 : p ≤ 10) (h : nameL o = nameL p) : o = p := by
 have e1 : o = ((o.toNat : Nat) : Int) := by omega
 have e2 : p = ((p.toNat : Nat) : Int) := by omega
 rw [e1, e2] at h
 have := names_apart o.toNat (by omega) p.toNat (by omega) h
 omega
theorem not_in_dec {c : UInt8} (u : Nat) (h : c.toNat < 48 ∨ 57 < c.toNat) : c ∉ Lib.decDigits u := fun hc => by
 have := dec_digit u c hc
 omega
theorem go1_of_words {op a b : Int} (h : insB op a b = true) : go1 32 [] (insT op a b) = wordsT op a b := by
 obtain ⟨h0, h1, _⟩ := insB_span h
 have e1 : op = ((op.toNat : Nat) : Int) := by omega
 have hn := (names_fine op.toNat (by omega)).1
 rw [← e1] at hn
 have ha : (32 : UInt8) ∉ (if a < 0 then ([105, 116] : List UInt8) else Lib.decDigits a.toNat) := by
  split
  ·decide
  ·exact not_in_dec _ (Or.inl (by decide))
 have hb : (32 : UInt8) ∉ Lib.decDigits b.toNat := not_in_dec _ (Or.inl (by decide))
 have step : ∀ (t cur r : List UInt8), (32 : UInt8) ∉ t → go1 32 cur (t ++ (32 :: r)) = (cur ++ t) :: go1 32 [] r := fun t cur r ht => by
  rw [go1_word 32 t cur _ ht, go1, if_pos rfl]
 have last : ∀ (t cur : List UInt8), (32 : UInt8) ∉ t → go1 32 cur t = [cur ++ t] := fun t cur ht => by
  have := go1_word 32 t cur [] ht
  rw [List.append_nil] at this
  rw [this, go1]
 unfold insT wordsT
 generalize (if a < 0 then ([105, 116] : List UInt8) else Lib.decDigits a.toNat) = A at ha ⊢
 cases twoB op
 ·rw [if_neg nft, if_neg nft, List.append_nil, List.append_assoc]
  show go1 32 [] (nameL op ++ (32 :: A)) = _
  rw [step _ _ _ hn, last _ _ ha]
  rfl
 ·rw [if_pos tit, if_pos tit, List.append_assoc, List.append_assoc]
  show go1 32 [] (nameL op ++ (32 :: (A ++ (32 :: Lib.decDigits b.toNat)))) = _
  rw [step _ _ _ hn, step _ _ _ ha, last _ _ hb]
  rfl
theorem no59 {op a b : Int} (h : insB op a b = true) : (59 : UInt8) ∉ insT op a b := by
 obtain ⟨h0, h1, _⟩ := insB_span h
 have e1 : op = ((op.toNat : Nat) : Int) := by omega
 have hn := (names_fine op.toNat (by omega)).2
 rw [← e1] at hn
 have ha : (59 : UInt8) ∉ (if a < 0 then ([105, 116] : List UInt8) else Lib.decDigits a.toNat) := by
  split
  ·decide
  ·exact not_in_dec _ (Or.inr (by decide))
 have hb : (59 : UInt8) ∉ (if twoB op = true then [32] ++ Lib.decDigits b.toNat else []) := by
  split
  ·rw [List.mem_append]
   rintro (q | q)
   ·exact absurd q (by decide)
   ·exact not_in_dec _ (Or.inr (by decide)) q
  ·simp
 unfold insT
 rw [List.mem_append, List.mem_append, List.mem_append]
 rintro (((q | q) | q) | q)
 ·exact hn q
 ·exact absurd q (by decide)
 ·exact ha q
 ·exact hb q
theorem rdW (W : List (List UInt8)) (j : Nat) (h : j < W.length) : rdOf ByteArray.empty (W.map Bs) (j : Int) = Bs W[j] := by
 unfold rdOf
 rw [Int.toNat_natCast, getD_lt _ (by rw [List.length_map]; exact h), List.getElem_map]
theorem word_len (c : UInt8) : ∀ (r cur : List UInt8), ∀ x ∈ go1 c cur r, x.length ≤ cur.length + r.length := by
 intro r
 induction r with
 | nil => intro cur x hx; simp [go1] at hx; rw [hx]; omega
 | cons d r ih =>
  intro cur x hx
  unfold go1 at hx
  split at hx
  ·rcases List.mem_cons.1 hx with rfl | hx
   ·omega
   ·have := ih [] x hx
    simp at this ⊢
    omega
  ·have := ih (cur ++ [d]) x hx
   simp at this ⊢
   omega
/-- The word of a context or a number. -/
def aT (a : Int) : List UInt8 := if a < 0 then [105, 116] else Lib.decDigits a.toNat
theorem words_one {o a b : Int} (h : twoB o = false) : wordsT o a b = [nameL o, aT a] := by unfold wordsT aT; rw [h, if_neg nft]
theorem number_any (w : List UInt8) (hw : w.length ≤ 1048576) : ∃ v ok, impl_number.f (Bs w) = some (v, ok) ∧ (∀ u : Nat, u < 10000 → w = Lib.decDigits u → v = (u : Int)) := by
 unfold impl_number.f numberF
 rw [Bs_size, if_pos (by omega), Bs_data, Lib.parseIntB_64]
 have dec : ∀ u : Nat, u < 10000 → Lib.atoiAll (Lib.decDigits u) = .ok (u : Int) := by
  intro u hu
  have hs := dec_short hu
  have hd := dec_digit u
  have hf := decFrom_dec u
  have hne := dec_ne u
  generalize Lib.decDigits u = l at hs hd hf hne
  cases l with
  | nil => exact absurd rfl hne
  | cons c r =>
   have hc := hd c (List.mem_cons_self ..)
   rw [Lib.atoiAll_plain c r (by omega) (by omega)]
   have hm : Lib.parseMag (c :: r) = .ok u := by
    unfold Lib.parseMag
    rw [if_neg (by simp), Lib.parseUint10_short (c :: r) 0 0 (by decide) (by omega), hf]
    rfl
   rw [hm]
   show (if 9223372036854775808 ≤ u then Lib.NumEnd.range else Lib.NumEnd.ok (u : Int)) = _
   rw [if_neg (by omega)]
 cases he : Lib.atoiAll w with
 | range => exact ⟨_, _, rfl, fun u hu hq => by rw [hq, dec u hu] at he; cases he⟩
 | ok v =>
  have hb := Lib.atoiAll_bounds he
  simp only
  rw [if_pos hb]
  exact ⟨_, _, rfl, fun u hu hq => by rw [hq, dec u hu] at he; injection he with he; exact he.symm⟩
 | _ => exact ⟨_, _, rfl, fun u hu hq => by rw [hq, dec u hu] at he; cases he⟩
theorem index_words : ∃ W, impl_opWords.f = some W ∧ (W.length : Int) = 11 ∧ ∀ op : Int, 0 ≤ op → op ≤ 10 → rdOf ByteArray.empty W op = Bs (nameL op) := by
 refine ⟨_, rfl, rfl, fun op h0 h1 => ?_⟩
 rcases ops_cases h0 h1 with rfl | rfl | rfl | rfl | rfl | rfl | rfl | rfl | rfl | rfl | rfl <;> rfl
theorem index_any (W : List ByteArray) (hW : (W.length : Int) = 11) (hn : ∀ op : Int, 0 ≤ op → op ≤ 10 → rdOf ByteArray.empty W op = Bs (nameL op)) (w : List UInt8) : ∀ (m : Nat) (i : Int), i + m = 11 → 0 ≤ i → ∃ r, (∀ k, m + 1 ≤ k → slices_Index_string_string.l0 k W (Bs w) 11 i = some r) ∧ (∀ op, i ≤ op → op ≤ 10 → w = nameL op → r = op) := by
 intro m
 induction m with
 | zero =>
  intro i hi h0
  refine ⟨-1, fun k hk => ?_, fun op h1 h2 => by omega⟩
  obtain ⟨k, rfl⟩ : ∃ q, k = q + 1 := ⟨k - 1, by omega⟩
  rw [slices_Index_string_string.l0, if_neg (by omega)]
 | succ m ih =>
  intro i hi h0
  by_cases h : w = nameL i
  ·refine ⟨i, fun k hk => ?_, fun op h1 h2 hq => ?_⟩
   ·obtain ⟨k, rfl⟩ : ∃ q, k = q + 1 := ⟨k - 1, by omega⟩
    rw [slices_Index_string_string.l0, if_pos (by omega), if_pos h0, if_pos (by omega), hn i h0 (by omega), Bs_list, Bs_list, if_pos h]
   ·exact name_inj h0 (by omega) (by omega) h2 (h.symm.trans hq)
  ·obtain ⟨r, e, p⟩ := ih (i + 1) (by omega) (by omega)
   refine ⟨r, fun k hk => ?_, fun op h1 h2 hq => ?_⟩
   ·obtain ⟨k, rfl⟩ : ∃ q, k = q + 1 := ⟨k - 1, by omega⟩
    rw [slices_Index_string_string.l0, if_pos (by omega), if_pos h0, if_pos (by omega), hn i h0 (by omega), Bs_list, Bs_list, if_neg h, wrap_id (by omega) (by omega)]
    exact e k (by omega)
   ·have : op ≠ i := fun e => h (by rw [hq, e])
    exact p op (by omega) h2 hq
/-- What the program reads of a text as an instruction: of an instruction's own text that instruction. -/
theorem impl_ins_read (p : List UInt8) (hp : p.length ≤ 1048576) : ∃ r : Int × Int × Int, (∀ k, 40 ≤ k → impl_readIns.f k (Bs p) = some r) ∧ (∀ o a b, insB o a b = true → p = insT o a b → r = (o, a, b)) := by
 obtain ⟨NW, hN, hNl, hNn⟩ := index_words
 have hw1 := split_one p (by omega)
 have hwl : ∀ x ∈ go1 32 [] p, x.length ≤ 1048576 := fun x hx => by have := word_len 32 p [] x hx; simp at this; omega
 have hback : ∀ o a b, insB o a b = true → p = insT o a b → go1 32 [] p = wordsT o a b := fun o a b hb hw => by rw [hw, go1_of_words hb]
 generalize hG : go1 32 [] p = W at hw1 hwl hback
 have hne : W ≠ [] := by rw [← hG]; exact go1_ne _ _ _
 have hl0 : 0 < W.length := List.length_pos_iff.2 hne
 obtain ⟨ix, eix, pix⟩ := index_any NW hNl hNn W[0] 11 0 (by omega) (by omega)
 have hr0 : rdOf ByteArray.empty (W.map Bs) 0 = Bs W[0] := rdW W 0 hl0
 have eI : ∀ k, 40 ≤ k → slices_Index_string_string.f k NW (rdOf ByteArray.empty (W.map Bs) 0) = some ix := fun k hk => by
  unfold slices_Index_string_string.f
  rw [hNl, hr0]
  exact eix k (by omega)
 have hop : ∀ o a b, insB o a b = true → p = insT o a b → ix = o := fun o a b hb hw => by
  obtain ⟨g0, g1, _⟩ := insB_span hb
  refine pix o (by omega) g1 ?_
  have h2 : W[0]? = some (nameL o) := by rw [hback o a b hb hw]; rfl
  rw [List.getElem?_eq_getElem hl0] at h2
  exact Option.some.inj h2
 have two : ∀ (A : Int), 2 < W.length → ∃ B, impl_number.f (rdOf ByteArray.empty (W.map Bs) 2) = some B ∧ (∀ o a b, insB o a b = true → p = insT o a b → B.1 = b) := fun A h2 => by
  obtain ⟨v, ok, e, q⟩ := number_any W[2] (hwl _ (List.getElem_mem h2))
  refine ⟨(v, ok), by rw [show (2 : Int) = ((2 : Nat) : Int) from rfl, rdW W 2 h2]; exact e, fun o a b hb hw => ?_⟩
  obtain ⟨_, _, _, _, hb0, hb1, _⟩ := insB_span hb
  have hW := hback o a b hb hw
  have htw : twoB o = true := by
   cases h : twoB o with
   | true => rfl
   | false =>
    have h9 : 2 < [nameL o, aT a].length := by
     have h8 := h2
     rw [hW, words_one h] at h8
     exact h8
    simp at h9
  have h3 : W[2]? = some (Lib.decDigits b.toNat) := by rw [hW]; unfold wordsT; rw [htw, if_pos rfl]; rfl
  rw [List.getElem?_eq_getElem h2] at h3
  have := q b.toNat (by omega) (Option.some.inj h3)
  show v = b
  omega
 have nob : ¬ 2 < W.length → ∀ o a b, insB o a b = true → p = insT o a b → b = 0 := fun h2 o a b hb hw => by
  have hW := hback o a b hb hw
  cases h : twoB o with
  | true =>
   exfalso
   apply h2
   rw [hW]
   unfold wordsT
   rw [h, if_pos rfl]
   simp
  | false =>
   unfold insB at hb
   unfold twoB at h
   simp only [Bool.or_eq_false_iff, beq_eq_false_iff_ne] at h
   obtain ⟨t3, t4, t6, t7, t10⟩ := h
   by_cases c0 : o = 0
   ·rw [if_pos c0] at hb; simp at hb; exact hb.2
   rw [if_neg c0] at hb
   by_cases c1 : o = 1 ∨ o = 2 ∨ o = 9
   ·rw [if_pos c1] at hb; simp at hb; exact hb.2
   rw [if_neg c1, if_neg t3, if_neg t4] at hb
   by_cases c5 : o = 5
   ·rw [if_pos c5] at hb; simp at hb; exact hb.2
   rw [if_neg c5, if_neg (by omega)] at hb
   by_cases c8 : o = 8
   ·rw [if_pos c8] at hb; simp at hb; exact hb.2
   rw [if_neg c8, if_neg t10] at hb
   cases hb
 have many : ∀ o a b, insB o a b = true → p = insT o a b → 1 < W.length := fun o a b hb hw => by
  rw [hback o a b hb hw]
  unfold wordsT
  simp
 have hmap : ((W.map Bs).length : Int) = (W.length : Int) := by rw [List.length_map]
 have fin : ∀ (A : Int), (∀ o a b, insB o a b = true → p = insT o a b → A = a) → ∃ r : Int × Int × Int, (if (W.length : Int) > 2 then (if 2 < (W.length : Int) then ((impl_number.f (rdOf ByteArray.empty (W.map Bs) 2)).bind fun bt => (some (ix, A, bt.1))) else (none)) else (some (ix, A, 0))) = some r ∧ (∀ o a b, insB o a b = true → p = insT o a b → r = (o, a, b)) := fun A hA => by
  by_cases h2 : 2 < W.length
  ·obtain ⟨B, e, q⟩ := two A h2
   refine ⟨(ix, A, B.1), ?_, fun o a b hb hw => ?_⟩
   ·rw [if_pos (by omega), if_pos (by omega), e]
    rfl
   ·rw [hop o a b hb hw, hA o a b hb hw, q o a b hb hw]
  ·refine ⟨(ix, A, 0), ?_, fun o a b hb hw => ?_⟩
   ·rw [if_neg (by omega)]
   ·rw [hop o a b hb hw, hA o a b hb hw, nob h2 o a b hb hw]
 by_cases h1 : 1 < W.length
 ·have hr1 : rdOf ByteArray.empty (W.map Bs) 1 = Bs W[1] := rdW W 1 h1
  obtain ⟨v, ok, e, q⟩ := number_any W[1] (hwl _ (List.getElem_mem h1))
  have hWa : ∀ o a b, insB o a b = true → p = insT o a b → W[1] = (if a < 0 then ([105, 116] : List UInt8) else Lib.decDigits a.toNat) := fun o a b hb hw => by
   have h2 : W[1]? = some (if a < 0 then ([105, 116] : List UInt8) else Lib.decDigits a.toNat) := by rw [hback o a b hb hw]; rfl
   rw [List.getElem?_eq_getElem h1] at h2
   exact Option.some.inj h2
  by_cases hit : W[1] = [105, 116]
  ·obtain ⟨r, e2, q2⟩ := fin (-1) (fun o a b hb hw => by
    obtain ⟨_, _, ha0, _, _, _, _⟩ := insB_span hb
    rcases Int.lt_or_le a 0 with h | h
    ·omega
    ·exfalso
     have := hWa o a b hb hw
     rw [if_neg (by omega), hit] at this
     have h105 := dec_digit a.toNat 105 (by rw [← this]; simp)
     have e105 : (105 : UInt8).toNat = 105 := rfl
     omega)
   refine ⟨r, fun k hk => ?_, q2⟩
   unfold impl_readIns.f
   rw [show (⟨#[32]⟩ : ByteArray) = Bs [32] from rfl, hw1, Option.bind_some, hN, Option.bind_some, hmap, if_pos (by omega), eI k hk, Option.bind_some, if_pos (by omega), if_pos (by omega), hr1, e, Option.bind_some, Bs_list, if_pos hit]
   exact e2
  ·obtain ⟨r, e2, q2⟩ := fin v (fun o a b hb hw => by
    obtain ⟨_, _, ha0, ha1, _, _, _⟩ := insB_span hb
    have h1w := hWa o a b hb hw
    have hneg : ¬ a < 0 := fun h => hit (by rw [h1w, if_pos h])
    rw [if_neg hneg] at h1w
    have := q a.toNat (by omega) h1w
    omega)
   refine ⟨r, fun k hk => ?_, q2⟩
   unfold impl_readIns.f
   rw [show (⟨#[32]⟩ : ByteArray) = Bs [32] from rfl, hw1, Option.bind_some, hN, Option.bind_some, hmap, if_pos (by omega), eI k hk, Option.bind_some, if_pos (by omega), if_pos (by omega), hr1, e, Option.bind_some, Bs_list, if_neg hit]
   exact e2
 ·obtain ⟨r, e2, q2⟩ := fin 0 (fun o a b hb hw => absurd (many o a b hb hw) h1)
  refine ⟨r, fun k hk => ?_, q2⟩
  unfold impl_readIns.f
  rw [show (⟨#[32]⟩ : ByteArray) = Bs [32] from rfl, hw1, Option.bind_some, hN, Option.bind_some, hmap, if_pos (by omega), eI k hk, Option.bind_some, if_neg (by omega)]
  exact e2
theorem progB_all {l : List S37} (h : progB l = true) : l.length ≤ 12 ∧ ∀ x ∈ l, insB x.f0 x.f1 x.f2 = true := by
 obtain ⟨h1, h2⟩ := progB_at h
 refine ⟨h1, fun x hx => ?_⟩
 obtain ⟨j, hj, rfl⟩ := List.mem_iff_getElem.1 hx
 exact h2 j hj
theorem impl_prog_loop2 (s : List UInt8) : ∀ (ps : List (List UInt8)) (done : List (List UInt8)) (out : List S37), (∀ p ∈ ps, p.length ≤ 1048576) → (done ++ ps).length ≤ 1048576 → out.length = done.length →
  ∃ ys : List S37, ys.length = ps.length ∧ (∀ xs : List S37, (∀ x ∈ xs, insB x.f0 x.f1 x.f2 = true) → insTs xs = ps → ys = xs) ∧ ∀ k, 40 ≤ k → impl_ReadProg.l0 (k + ps.length) (Bs s) out ((done ++ ps).map Bs) (((done ++ ps).length : Nat) : Int) ((done.length : Nat) : Int) = impl_ReadProg.l0 k (Bs s) (out ++ ys) ((done ++ ps).map Bs) (((done ++ ps).length : Nat) : Int) (((done ++ ps).length : Nat) : Int) := by
 intro ps
 induction ps with
 | nil =>
  intro done out _ _ _
  refine ⟨[], rfl, fun xs _ h => ?_, fun k _ => by simp⟩
  cases xs with
  | nil => rfl
  | cons x t => unfold insTs at h; simp at h
 | cons p ps ih =>
  intro done out hp hl ho
  obtain ⟨r, e, q⟩ := impl_ins_read p (hp p (List.mem_cons_self ..))
  have hda : done ++ p :: ps = (done ++ [p]) ++ ps := by simp
  obtain ⟨ys, y1, y2, y3⟩ := ih (done ++ [p]) (out ++ [⟨r.1, r.2.1, r.2.2⟩]) (fun x hx => hp x (List.mem_cons_of_mem _ hx)) (by rw [← hda]; exact hl) (by simp; omega)
  refine ⟨⟨r.1, r.2.1, r.2.2⟩ :: ys, by simp [y1], fun xs hb hx => ?_, fun k hk => ?_⟩
  ·cases xs with
   | nil => unfold insTs at hx; simp at hx
   | cons x t =>
    unfold insTs at hx
    rw [List.map_cons] at hx
    injection hx with hx1 hx2
    have hr := q _ _ _ (hb x (List.mem_cons_self ..)) hx1.symm
    rw [hr, y2 t (fun z hz => hb z (List.mem_cons_of_mem _ hz)) hx2]
  ·have hll : (done ++ p :: ps).length = done.length + (ps.length + 1) := by simp
   have hr : rdOf ByteArray.empty ((done ++ p :: ps).map Bs) ((done.length : Nat) : Int) = Bs p := by
    rw [rdW _ _ (by rw [hll]; omega)]
    congr 1
    rw [List.getElem_append_right (by omega)]
    simp
   have hw : wrap64 (((done.length : Nat) : Int) + 1) = (((done ++ [p]).length : Nat) : Int) := by
    rw [wrap_id (by omega) (by omega)]
    simp
   rw [show k + (p :: ps).length = (k + ps.length) + 1 by simp; omega, impl_ReadProg.l0, if_pos (by rw [hll]; omega), if_pos (by omega), if_pos (by rw [List.length_map, hll]; omega), hr, e (k + ps.length) (by omega), Option.bind_some, if_pos (by omega), hw, hda]
   have := y3 k hk
   rw [this]
   simp
theorem impl_read_prog (s : List UInt8) (hs : s.length ≤ 1048576) : ∃ K, (∀ xs, progB xs = true → s = progT xs → ∀ k, K ≤ k → impl_ReadProg.f k (Bs s) = some (xs, true)) ∧ ((¬ ∃ xs, progB xs = true ∧ s = progT xs) → ∀ k, K ≤ k → impl_ReadProg.f k (Bs s) = some ([], false)) := by
 by_cases hne : s = []
 ·subst hne
  refine ⟨0, fun xs hp hx k _ => ?_, fun hno => absurd ⟨[], by decide, rfl⟩ hno⟩
  have : xs = [] := by
   cases xs with
   | nil => rfl
   | cons x t =>
    exfalso
    have : ([] : List UInt8) = Lib.join (insT x.f0 x.f1 x.f2 :: insTs t) sepL := hx
    rw [Lib.join_cons] at this
    have h2 := congrArg List.length this
    rw [List.length_append] at h2
    unfold insT at h2
    simp at h2
    omega
  subst this
  unfold impl_ReadProg.f
  rw [Bs_list, if_pos rfl]
 ·have hgl := go2_len s.length s [] (Nat.le_refl _)
  have hpl : ∀ p ∈ go2 [] s, p.length ≤ 1048576 := by
   have all : ∀ (n : Nat) (r cur : List UInt8), r.length ≤ n → ∀ x ∈ go2 cur r, x.length ≤ cur.length + r.length := by
    intro n
    induction n with
    | zero =>
     intro r cur h x hx
     obtain rfl := List.eq_nil_of_length_eq_zero (Nat.le_zero.1 h)
     simp [go2] at hx
     rw [hx]
     omega
    | succ n ih =>
     intro r cur h x hx
     match r, h, hx with
     | [], _, hx => simp [go2] at hx; rw [hx]; omega
     | [c], _, hx => simp [go2] at hx; rw [hx]; simp
     | c :: d :: r, h, hx =>
      unfold go2 at hx
      split at hx
      ·rcases List.mem_cons.1 hx with rfl | hx
       ·omega
       ·have := ih r [] (by simp at h; omega) x hx
        simp at this ⊢
        omega
      ·have := ih (d :: r) (cur ++ [c]) (by simp at h ⊢; omega) x hx
       simp at this ⊢
       omega
   intro p hp
   have := all s.length s [] (Nat.le_refl _) p hp
   simp at this
   omega
  obtain ⟨ys, y1, y2, y3⟩ := impl_prog_loop2 s (go2 [] s) [] [] hpl (by rw [List.nil_append]; omega) rfl
  rw [List.nil_append] at y3
  obtain ⟨K, eP⟩ := impl_prog ys (by omega)
  have hend : ∀ k, K + 12 + 50 ≤ k → impl_ReadProg.f (k + 1 + (go2 [] s).length) (Bs s) = some (if progB ys = true ∧ progT ys = s then (ys, true) else ([], false)) := fun k hk => by
   unfold impl_ReadProg.f
   rw [Bs_list, if_neg hne, show (⟨#[59, 32]⟩ : ByteArray) = Bs sepL from rfl, split_two s (by omega), Option.bind_some]
   have hml : (((go2 [] s).map Bs).length : Int) = (((go2 [] s).length : Nat) : Int) := by rw [List.length_map]
   rw [hml]
   have := y3 (k + 1) (by omega)
   simp only [List.length_nil] at this
   rw [show (0 : Int) = ((0 : Nat) : Int) from rfl, this, List.nil_append, impl_ReadProg.l0, if_neg (by omega), eP k (by omega), Option.bind_some]
   cases hp : progB ys with
   | false => rw [if_neg (by simp), if_neg (by simp)]
   | true =>
    have h12 := (progB_all hp).1
    rw [if_pos rfl, impl_ptext hp k (by omega), Option.bind_some, Bs_list, Bs_list]
    by_cases hq : progT ys = s
    ·rw [if_pos hq, if_pos ⟨rfl, hq⟩]
    ·rw [if_neg hq, if_neg (fun h => hq h.2)]
  refine ⟨K + 100 + (go2 [] s).length, fun xs hp hx k hk => ?_, fun hno k hk => ?_⟩
  ·obtain ⟨k, rfl⟩ : ∃ q, k = q + 1 + (go2 [] s).length := ⟨k - 1 - (go2 [] s).length, by omega⟩
   rw [hend k (by omega)]
   obtain ⟨_, hb⟩ := progB_all hp
   have hsp : insTs xs = go2 [] s := by
    cases xs with
    | nil => exact absurd hx hne
    | cons x t =>
     rw [hx]
     show _ = go2 [] (Lib.join (insT x.f0 x.f1 x.f2 :: insTs t) sepL)
     rw [go2_of_join]
     ·rfl
     ·intro y hy
      have : y ∈ insTs (x :: t) := hy
      unfold insTs at this
      obtain ⟨z, hz, rfl⟩ := List.mem_map.1 this
      exact no59 (hb z hz)
   have := y2 xs hb hsp
   rw [this, if_pos ⟨hp, hx.symm⟩]
  ·obtain ⟨k, rfl⟩ : ∃ q, k = q + 1 + (go2 [] s).length := ⟨k - 1 - (go2 [] s).length, by omega⟩
   rw [hend k (by omega), if_neg (fun h => hno ⟨ys, h.1, h.2.symm⟩)]
theorem and255 (n : Int) : Go.bits .and .i64 n 255 = n % 256 := by
 have h255 : (BitVec.ofInt 64 255).toNat = 2 ^ 8 - 1 := by decide
 have key : (BitVec.ofInt 64 n &&& BitVec.ofInt 64 255).toNat = (n % ((2 ^ 64 : Nat) : Int)).toNat % 2 ^ 8 := by
  rw [BitVec.toNat_and, BitVec.toNat_ofInt, h255, Nat.and_two_pow_sub_one_eq_mod]
 show IntKind.i64.wrap ((BitVec.ofInt 64 n &&& BitVec.ofInt 64 255).toNat : Nat) = n % 256
 rw [key, IntKind.wrap_i64]
 omega
/-- A place in the bytes of a draw. -/
def CurOk (b : List Int) (i : Int) : Prop := 0 ≤ i ∧ i ≤ (b.length : Int)
theorem byte_ok (b : List Int) (i h : Int) (hb : b.length ≤ 4096) (hc : CurOk b i) : ∃ x j g, spec_l1Byte.f b i h = some (x, j, g) ∧ 0 ≤ x ∧ x ≤ 255 ∧ CurOk b j := by
 obtain ⟨h0, h1⟩ := hc
 unfold spec_l1Byte.f
 by_cases hl : i < (b.length : Int)
 ·rw [if_pos hl, if_pos h0, and255, and255]
  exact ⟨_, _, _, rfl, by omega, by omega, by unfold CurOk wrap64; omega⟩
 ·rw [if_neg hl, and255]
  exact ⟨_, _, _, rfl, by omega, by omega, h0, h1⟩
theorem tmod_ok {x n : Int} (hx : 0 ≤ x) (hn : 0 < n) : 0 ≤ Int.tmod x n ∧ Int.tmod x n < n := by
 rw [Int.tmod_eq_emod_of_nonneg hx]
 exact ⟨Int.emod_nonneg x (by omega), Int.emod_lt_of_pos x hn⟩
theorem below_ok (b : List Int) (i h n : Int) (hb : b.length ≤ 4096) (hc : CurOk b i) : ∃ r j g, spec_l1Below.f b i h n = some (r, j, g) ∧ 0 ≤ r ∧ (0 < n → r < n) ∧ (n ≤ 0 → r = 0) ∧ CurOk b j := by
 unfold spec_l1Below.f
 by_cases h0 : n ≤ 0
 ·rw [if_pos h0]
  exact ⟨_, _, _, rfl, by omega, by omega, fun _ => rfl, hc⟩
 ·rw [if_neg h0]
  by_cases h1 : n ≤ 256
  ·obtain ⟨x, j, g, e, hx0, hx1, hj⟩ := byte_ok b i h hb hc
   rw [if_pos h1, e]
   simp only [Option.bind_some]
   rw [if_neg (by omega)]
   have ht := tmod_ok hx0 (show 0 < n by omega)
   exact ⟨_, _, _, rfl, ht.1, fun _ => ht.2, by omega, hj⟩
  ·obtain ⟨x, j, g, e, hx0, hx1, hj⟩ := byte_ok b i h hb hc
   obtain ⟨x2, j2, g2, e2, hy0, hy1, hj2⟩ := byte_ok b j g hb hj
   obtain ⟨x3, j3, g3, e3, hz0, hz1, hj3⟩ := byte_ok b j2 g2 hb hj2
   obtain ⟨x4, j4, g4, e4, hw0, hw1, hj4⟩ := byte_ok b j3 g3 hb hj3
   rw [if_neg h1, e]
   simp only [Option.bind_some]
   rw [e2]
   simp only [Option.bind_some]
   rw [e3]
   simp only [Option.bind_some]
   rw [e4]
   simp only [Option.bind_some]
   rw [if_neg (by omega)]
   have hs : 0 ≤ wrap64 (wrap64 (wrap64 (wrap64 (x * 16777216) + wrap64 (x2 * 65536)) + wrap64 (x3 * 256)) + x4) := by unfold wrap64; omega
   have ht := tmod_ok hs (show 0 < n by omega)
   exact ⟨_, _, _, rfl, ht.1, fun _ => ht.2, by omega, hj4⟩
theorem new_loop (b : List Int) (hb : b.length ≤ 4096) : ∀ (m j : Nat) (x : Int), j + m = b.length → ∃ g, ∀ k, m < k → spec_l1New.l0 k b x (j : Int) = some (b, 0, g) := by
 intro m
 induction m with
 | zero =>
  intro j x hj
  refine ⟨x, fun k hk => ?_⟩
  obtain ⟨k, rfl⟩ : ∃ q, k = q + 1 := ⟨k - 1, by omega⟩
  rw [spec_l1New.l0, if_neg (by omega)]
 | succ m ih =>
  intro j x hj
  obtain ⟨g, hg⟩ := ih (j + 1) (Go.bits .and .i64 (wrap64 ((wrap64 ((wrap64 (x * 173)) + (wrap64 (rd b (j : Int))))) + 11)) 1073741823) (by omega)
  refine ⟨g, fun k hk => ?_⟩
  obtain ⟨k, rfl⟩ : ∃ q, k = q + 1 := ⟨k - 1, by omega⟩
  rw [spec_l1New.l0, if_pos (by omega), if_pos (by omega)]
  have := hg k (by omega)
  rw [wrap_id (x := (j : Int) + 1) (by omega) (by omega)]
  rw [show ((j : Int) + 1) = ((j + 1 : Nat) : Int) by omega]
  exact this
theorem new_ok (b : List Int) (hb : b.length ≤ 4096) : ∃ g, ∀ k, 4097 ≤ k → spec_l1New.f k b = some (b, 0, g) := by
 obtain ⟨g, hg⟩ := new_loop b hb b.length 0 (wrap64 (314159 + (b.length : Int))) (by omega)
 refine ⟨g, fun k hk => ?_⟩
 unfold spec_l1New.f
 exact hg k (by omega)
theorem curOk0 (b : List Int) : CurOk b 0 := ⟨Int.le_refl _, by omega⟩
theorem once_ok (b : List Int) (i h n : Int) (hb : b.length ≤ 4096) (hc : CurOk b i) : ∃ r j g, spec_l1Once.f b i h n = some (r, j, g) ∧ CurOk b j := by
 obtain ⟨r, j, g, e, _, _, _, hj⟩ := below_ok b i h n hb hc
 unfold spec_l1Once.f
 rw [e]
 exact ⟨_, _, _, rfl, hj⟩
theorem from_ok (b : List Int) (i h lo hi : Int) (hb : b.length ≤ 4096) (hc : CurOk b i) : ∃ r j g, spec_l1From.f b i h lo hi = some (r, j, g) ∧ CurOk b j := by
 unfold spec_l1From.f
 obtain ⟨r, j, g, e, _, _, _, hj⟩ := below_ok b i h (wrap64 (wrap64 (hi - lo) + 1)) hb hc
 rw [e]
 exact ⟨_, _, _, rfl, hj⟩
theorem odd_ok (b : List Int) (i h : Int) (hb : b.length ≤ 4096) (hc : CurOk b i) : ∃ r j g, spec_l1Odd.f b i h = some (r, j, g) ∧ CurOk b j := by
 obtain ⟨r, j, g, e, h0, h1, _, hj⟩ := below_ok b i h 10 hb hc
 have h2 := h1 (by omega)
 unfold spec_l1Odd.f
 simp only [Option.bind_some]
 rw [e]
 simp only [Option.bind_some]
 rw [if_pos h0, if_pos (by simp; omega)]
 exact ⟨_, _, _, rfl, hj⟩
theorem min_ok (a c : Int) : spec_l1Min.f a c = some (if a < c then a else c) := by
 unfold spec_l1Min.f
 split <;> rfl
theorem num_ok (b : List Int) (i h n : Int) (hb : b.length ≤ 4096) (hc : CurOk b i) : ∃ r j g, spec_l1Num.f b i h n = some (r, j, g) ∧ CurOk b j := by
 obtain ⟨o, j, g, e, hj⟩ := once_ok b i h 10 hb hc
 unfold spec_l1Num.f
 rw [e]
 simp only [Option.bind_some]
 cases o with
 | true =>
  obtain ⟨r, j2, g2, e2, hj2⟩ := odd_ok b j g hb hj
  obtain ⟨q, j3, g3, e3, q0, q1, _, hj3⟩ := below_ok b j2 g2 4 hb hj2
  have := q1 (by omega)
  rw [if_pos (by simp), e2]
  simp only [Option.bind_some]
  rw [e3]
  simp only [Option.bind_some]
  rw [if_pos q0, if_pos (by simp; omega)]
  exact ⟨_, _, _, rfl, hj3⟩
 | false =>
  obtain ⟨o2, j2, g2, e2, hj2⟩ := once_ok b j g 2 hb hj
  rw [if_neg (by simp), e2]
  simp only [Option.bind_some]
  cases o2 with
  | true =>
   rw [if_pos (by simp), min_ok]
   simp only [Option.bind_some]
   obtain ⟨q, j3, g3, e3, _, _, _, hj3⟩ := below_ok b j2 g2 (wrap64 ((if n < 4 then n else 4) + 1)) hb hj2
   rw [e3]
   exact ⟨_, _, _, rfl, hj3⟩
  | false =>
   obtain ⟨q, j3, g3, e3, _, _, _, hj3⟩ := below_ok b j2 g2 (wrap64 (n + 1)) hb hj2
   rw [if_neg (by simp), e3]
   exact ⟨_, _, _, rfl, hj3⟩
theorem drawIns_j (b : List Int) (i h o a c : Int) (hb : b.length ≤ 4096) (hc : CurOk b i) : ∃ c' j g, (∀ k, 0 < k → spec_l9DrawIns.j0 k b i h o a c = some (o, a, c', j, g)) ∧ CurOk b j := by
 cases ht : twoB o with
 | false =>
  refine ⟨c, i, h, fun k hk => ?_, hc⟩
  obtain ⟨k, rfl⟩ : ∃ q, k = q + 1 := ⟨k - 1, by omega⟩
  rw [spec_l9DrawIns.j0, spec_two, ht]
  rfl
 | true =>
  obtain ⟨r, j, g, e, _, _, _, hj⟩ := below_ok b i h 4 hb hc
  by_cases h10 : o = 10
  ·obtain ⟨r2, j2, g2, e2, _, _, _, hj2⟩ := below_ok b j g 3 hb hj
   refine ⟨wrap64 (1 + r2), j2, g2, fun k hk => ?_, hj2⟩
   obtain ⟨k, rfl⟩ : ∃ q, k = q + 1 := ⟨k - 1, by omega⟩
   rw [spec_l9DrawIns.j0, spec_two, ht]
   simp only [Option.bind_some]
   rw [if_pos (by simp), e]
   simp only [Option.bind_some]
   rw [if_pos h10, e2]
   rfl
  ·refine ⟨r, j, g, fun k hk => ?_, hj⟩
   obtain ⟨k, rfl⟩ : ∃ q, k = q + 1 := ⟨k - 1, by omega⟩
   rw [spec_l9DrawIns.j0, spec_two, ht]
   simp only [Option.bind_some]
   rw [if_pos (by simp), e]
   simp only [Option.bind_some]
   rw [if_neg h10]
theorem drawIns_ok (b : List Int) (i h : Int) (hb : b.length ≤ 4096) (hc : CurOk b i) : ∃ o a c j g, (∀ k, 0 < k → spec_l9DrawIns.f k b i h = some (o, a, c, j, g)) ∧ CurOk b j := by
 obtain ⟨o, j, g, e, _, _, _, hj⟩ := below_ok b i h 11 hb hc
 obtain ⟨a, j2, g2, e2, hj2⟩ := from_ok b j g (-1) 5 hb hj
 have low : ∀ n : Int, ∃ a c j' g', (∀ k, 0 < k → ((spec_l1Below.f b j2 g2 n).bind fun bt => spec_l9DrawIns.j0 k b bt.2.1 bt.2.2 o bt.1 0) = some (o, a, c, j', g')) ∧ CurOk b j' := fun n => by
  obtain ⟨r, j3, g3, e3, _, _, _, hj3⟩ := below_ok b j2 g2 n hb hj2
  obtain ⟨c, j4, g4, e4, hj4⟩ := drawIns_j b j3 g3 o r 0 hb hj3
  refine ⟨r, c, j4, g4, fun k hk => ?_, hj4⟩
  rw [e3]
  exact e4 k hk
 have fin : ∀ n : Int, (∀ k, spec_l9DrawIns.f k b i h = (spec_l1Below.f b j2 g2 n).bind fun bt => spec_l9DrawIns.j0 k b bt.2.1 bt.2.2 o bt.1 0) → ∃ o a c j g, (∀ k, 0 < k → spec_l9DrawIns.f k b i h = some (o, a, c, j, g)) ∧ CurOk b j := fun n hn => by
  obtain ⟨a, c, j', g', hl, hj'⟩ := low n
  exact ⟨o, a, c, j', g', fun k hk => (hn k).trans (hl k hk), hj'⟩
 by_cases q0 : o = 0
 ·refine fin 4 (fun k => ?_)
  unfold spec_l9DrawIns.f
  rw [e]
  simp only [Option.bind_some]
  rw [e2]
  simp only [Option.bind_some]
  rw [if_pos q0]
 by_cases q5 : o = 5
 ·refine fin 3 (fun k => ?_)
  unfold spec_l9DrawIns.f
  rw [e]
  simp only [Option.bind_some]
  rw [e2]
  simp only [Option.bind_some]
  rw [if_neg q0, if_pos q5]
 by_cases q6 : o = 6
 ·refine fin 2 (fun k => ?_)
  unfold spec_l9DrawIns.f
  rw [e]
  simp only [Option.bind_some]
  rw [e2]
  simp only [Option.bind_some]
  rw [if_neg q0, if_neg q5, if_pos q6]
 by_cases q7 : o = 7
 ·refine fin 2 (fun k => ?_)
  unfold spec_l9DrawIns.f
  rw [e]
  simp only [Option.bind_some]
  rw [e2]
  simp only [Option.bind_some]
  rw [if_neg q0, if_neg q5, if_neg q6, if_pos q7]
 by_cases q8 : o = 8
 ·refine fin 2 (fun k => ?_)
  unfold spec_l9DrawIns.f
  rw [e]
  simp only [Option.bind_some]
  rw [e2]
  simp only [Option.bind_some]
  rw [if_neg q0, if_neg q5, if_neg q6, if_neg q7, if_pos q8]
 obtain ⟨c, j3, g3, e3, hj3⟩ := drawIns_j b j2 g2 o a 0 hb hj2
 refine ⟨o, a, c, j3, g3, fun k hk => ?_, hj3⟩
 unfold spec_l9DrawIns.f
 rw [e]
 simp only [Option.bind_some]
 rw [e2]
 simp only [Option.bind_some]
 rw [if_neg q0, if_neg q5, if_neg q6, if_neg q7, if_neg q8]
 exact e3 k hk
theorem draw9_loop (b : List Int) (hb : b.length ≤ 4096) : ∀ (m : Nat) (l : List S37) (x i h : Int), x ≤ m → m ≤ 12 → l.length + m ≤ 1000 → CurOk b i → ∃ l' j g, (∀ k, m + 1 < k → spec_l9Draw.l0 k l x b i h = some (l', j, g)) ∧ CurOk b j ∧ l'.length ≤ l.length + m := by
 intro m
 induction m with
 | zero =>
  intro l x i h hx _ hl hc
  refine ⟨l, i, h, fun k hk => ?_, hc, by omega⟩
  obtain ⟨k, rfl⟩ : ∃ q, k = q + 1 := ⟨k - 1, by omega⟩
  rw [spec_l9Draw.l0, if_neg (by omega)]
 | succ m ih =>
  intro l x i h hx hm hl hc
  by_cases h0 : x > 0
  ·obtain ⟨o, a, c, j, g, e, hj⟩ := drawIns_ok b i h hb hc
   obtain ⟨l', j', g', e', hc', hl'⟩ := ih (l ++ [⟨o, a, c⟩]) (x - 1) j g (by omega) (by omega) (by simp; omega) hj
   refine ⟨l', j', g', fun k hk => ?_, hc', by simp at hl'; omega⟩
   obtain ⟨k, rfl⟩ : ∃ q, k = q + 1 := ⟨k - 1, by omega⟩
   rw [spec_l9Draw.l0, if_pos h0, e k (by omega)]
   simp only [Option.bind_some]
   rw [if_pos (by omega), wrap_id (by omega) (by omega)]
   exact e' k (by omega)
  ·refine ⟨l, i, h, fun k hk => ?_, hc, by omega⟩
   obtain ⟨k, rfl⟩ : ∃ q, k = q + 1 := ⟨k - 1, by omega⟩
   rw [spec_l9Draw.l0, if_neg h0]
theorem draw9_ok (b : List Int) (i h : Int) (hb : b.length ≤ 4096) (hc : CurOk b i) : ∃ l j g, (∀ k, 20 < k → spec_l9Draw.f k b i h = some (l, j, g)) ∧ CurOk b j ∧ l.length ≤ 12 := by
 obtain ⟨n, j, g, e, n0, n1, _, hj⟩ := below_ok b i h 8 hb hc
 have n1 := n1 (by omega)
 obtain ⟨o, j2, g2, e2, hj2⟩ := once_ok b j g 20 hb hj
 obtain ⟨l, j3, g3, e3, hj3, hl⟩ := draw9_loop b hb 12 [] (if o = true then 12 else n) j2 g2 (by split <;> omega) (by omega) (by simp) hj2
 refine ⟨l, j3, g3, fun k hk => ?_, hj3, by simpa using hl⟩
 obtain ⟨k, rfl⟩ : ∃ q, k = q + 1 := ⟨k - 1, by omega⟩
 unfold spec_l9Draw.f
 simp only [Option.bind_some]
 rw [e]
 simp only [Option.bind_some]
 rw [e2]
 simp only [Option.bind_some]
 have := e3 k (by omega)
 cases o with
 | true => rw [if_pos (by simp), spec_l9Draw.j0]; exact this
 | false => rw [if_neg (by simp), spec_l9Draw.j0]; exact this
theorem drawAny9_ok (b : List Int) (i h : Int) (hb : b.length ≤ 4096) (hc : CurOk b i) : ∃ l j g, (∀ k, 20 < k → spec_l9DrawAny.f k b i h = some (l, j, g)) ∧ CurOk b j ∧ l.length ≤ 13 := by
 obtain ⟨l, j, g, e, hj, hl⟩ := draw9_ok b i h hb hc
 obtain ⟨o, j2, g2, e2, hj2⟩ := once_ok b j g 6 hb hj
 cases o with
 | false =>
  refine ⟨l, j2, g2, fun k hk => ?_, hj2, by omega⟩
  unfold spec_l9DrawAny.f
  rw [e k hk]
  simp only [Option.bind_some]
  rw [e2]
  rfl
 | true =>
  obtain ⟨p, a, c, j3, g3, e3, hj3⟩ := drawIns_ok b j2 g2 hb hj2
  obtain ⟨q, j4, g4, e4, _, _, _, hj4⟩ := below_ok b j3 g3 3 hb hj3
  have hll : l.length < 5864062014805 := by omega
  by_cases q0 : q = 0
  ·obtain ⟨r, j5, g5, e5, hj5⟩ := from_ok b j4 g4 (-1) 11 hb hj4
   refine ⟨l ++ [⟨r, a, c⟩], j5, g5, fun k hk => ?_, hj5, by simp; omega⟩
   unfold spec_l9DrawAny.f
   rw [e k hk]
   simp only [Option.bind_some]
   rw [e2]
   simp only [Option.bind_some]
   rw [if_pos (by simp), e3 k (by omega)]
   simp only [Option.bind_some]
   rw [e4]
   simp only [Option.bind_some]
   rw [if_pos q0, e5]
   simp only [Option.bind_some]
   rw [if_pos hll]
  by_cases q1 : q = 1
  ·obtain ⟨r, j5, g5, e5, hj5⟩ := num_ok b j4 g4 1000 hb hj4
   refine ⟨l ++ [⟨p, r, c⟩], j5, g5, fun k hk => ?_, hj5, by simp; omega⟩
   unfold spec_l9DrawAny.f
   rw [e k hk]
   simp only [Option.bind_some]
   rw [e2]
   simp only [Option.bind_some]
   rw [if_pos (by simp), e3 k (by omega)]
   simp only [Option.bind_some]
   rw [e4]
   simp only [Option.bind_some]
   rw [if_neg q0, if_pos q1, e5]
   simp only [Option.bind_some]
   rw [if_pos hll]
  by_cases q2 : q = 2
  ·obtain ⟨r, j5, g5, e5, hj5⟩ := num_ok b j4 g4 1000 hb hj4
   refine ⟨l ++ [⟨p, a, r⟩], j5, g5, fun k hk => ?_, hj5, by simp; omega⟩
   unfold spec_l9DrawAny.f
   rw [e k hk]
   simp only [Option.bind_some]
   rw [e2]
   simp only [Option.bind_some]
   rw [if_pos (by simp), e3 k (by omega)]
   simp only [Option.bind_some]
   rw [e4]
   simp only [Option.bind_some]
   rw [if_neg q0, if_neg q1, if_pos q2, e5]
   simp only [Option.bind_some]
   rw [if_pos hll]
  ·refine ⟨l ++ [⟨p, a, c⟩], j4, g4, fun k hk => ?_, hj4, by simp; omega⟩
   unfold spec_l9DrawAny.f
   rw [e k hk]
   simp only [Option.bind_some]
   rw [e2]
   simp only [Option.bind_some]
   rw [if_pos (by simp), e3 k (by omega)]
   simp only [Option.bind_some]
   rw [e4]
   simp only [Option.bind_some]
   rw [if_neg q0, if_neg q1, if_neg q2, if_pos hll]
theorem drawShow_ok (b : List Int) (hb : b.length ≤ 4096) : ∃ l, (∀ k, 5000 ≤ k → spec_DrawShowProg.f k b = some l) ∧ l.length ≤ 13 := by
 obtain ⟨g, e⟩ := new_ok b hb
 obtain ⟨l, j, g2, e2, _, hl⟩ := drawAny9_ok b 0 g hb (curOk0 b)
 refine ⟨l, fun k hk => ?_, hl⟩
 unfold spec_DrawShowProg.f
 rw [e k (by omega)]
 simp only [Option.bind_some]
 rw [e2 k (by omega)]
 rfl
theorem bend_end (k : Nat) (x2 : ByteArray) (l : List Int) (x : Int) (b : List Int) (i h : Int) : spec_l1Bend.j1 (k + 1) x2 l x false b i h = some (strOfNums l, i, h) := by
 rw [spec_l1Bend.j1, if_neg (by simp)]
theorem bend_loop (b : List Int) (hb : b.length ≤ 4096) (x2 : ByteArray) (hx2 : (x2.size : Int) > 0) : ∀ (m : Nat) (l : List Int) (x i h : Int), x ≤ m → m ≤ 10 → l.length + m ≤ 1000000 → CurOk b i → ∃ r j g, (∀ k, 2 * m + 2 < k → spec_l1Bend.l0 k x2 l x b i h = some (r, j, g)) ∧ CurOk b j ∧ r.size ≤ l.length + m := by
 intro m
 induction m with
 | zero =>
  intro l x i h hx _ hl hc
  refine ⟨strOfNums l, i, h, fun k hk => ?_, hc, by rw [strOfNums_size]; omega⟩
  obtain ⟨k, rfl⟩ : ∃ q, k = q + 2 := ⟨k - 2, by omega⟩
  rw [spec_l1Bend.l0, if_neg (by omega), bend_end]
 | succ m ih =>
  intro l x i h hx hm hl hc
  by_cases h0 : x > 0
  ·by_cases hlen : (l.length : Int) > 0
   ·obtain ⟨q, j, g, e, q0, q1, _, hj⟩ := below_ok b i h (l.length : Int) hb hc
    have q1 := q1 hlen
    obtain ⟨d, j2, g2, e2, _, _, _, hj2⟩ := below_ok b j g 4 hb hj
    have hw : wrap64 (x - 1) = x - 1 := wrap_id (by omega) (by omega)
    have hlt : q.toNat < l.length := by omega
    have htk : (l.take q.toNat).length = q.toNat := by rw [List.length_take]; omega
    by_cases d0 : d = 0
    ·obtain ⟨s, j3, g3, e3, s0, s1, _, hj3⟩ := below_ok b j2 g2 (x2.size : Int) hb hj2
     have s1 := s1 hx2
     obtain ⟨r, j', g', e', hc', hr⟩ := ih (l.set q.toNat (bt x2 s)) (x - 1) j3 g3 (by omega) (by omega) (by rw [List.length_set]; omega) hj3
     refine ⟨r, j', g', fun k hk => ?_, hc', by rw [List.length_set] at hr; omega⟩
     obtain ⟨k, rfl⟩ : ∃ q, k = q + 2 := ⟨k - 2, by omega⟩
     rw [spec_l1Bend.l0, if_pos h0, decide_eq_true hlen, spec_l1Bend.j1, if_pos (by simp), e]
     simp only [Option.bind_some]
     rw [e2]
     simp only [Option.bind_some]
     rw [if_pos d0, e3]
     simp only [Option.bind_some]
     rw [if_pos s0, if_pos s1, if_pos q0, if_pos q1, hw]
     exact e' k (by omega)
    by_cases d1 : d = 1
    ·obtain ⟨r, j', g', e', hc', hr⟩ := ih (l.take q.toNat) (x - 1) j2 g2 (by omega) (by omega) (by omega) hj2
     refine ⟨r, j', g', fun k hk => ?_, hc', by omega⟩
     obtain ⟨k, rfl⟩ : ∃ q, k = q + 2 := ⟨k - 2, by omega⟩
     rw [spec_l1Bend.l0, if_pos h0, decide_eq_true hlen, spec_l1Bend.j1, if_pos (by simp), e]
     simp only [Option.bind_some]
     rw [e2]
     simp only [Option.bind_some]
     rw [if_neg d0, if_pos d1, if_pos q0, if_pos (by omega), hw]
     exact e' k (by omega)
    by_cases d2 : d = 2
    ·have hq : wrap64 (q + 1) = q + 1 := wrap_id (by omega) (by omega)
     have hdr : (l.drop (q + 1).toNat).length ≤ l.length := by rw [List.length_drop]; omega
     obtain ⟨r, j', g', e', hc', hr⟩ := ih ([] ++ l.take q.toNat ++ l.drop (q + 1).toNat) (x - 1) j2 g2 (by omega) (by omega) (by rw [List.length_append, List.nil_append, htk, List.length_drop]; omega) hj2
     have hs : ([] ++ l.take q.toNat ++ l.drop (q + 1).toNat).length ≤ l.length := by rw [List.length_append, List.nil_append, htk, List.length_drop]; omega
     refine ⟨r, j', g', fun k hk => ?_, hc', by omega⟩
     obtain ⟨k, rfl⟩ : ∃ q, k = q + 2 := ⟨k - 2, by omega⟩
     rw [spec_l1Bend.l0, if_pos h0, decide_eq_true hlen, spec_l1Bend.j1, if_pos (by simp), e]
     simp only [Option.bind_some]
     rw [e2]
     simp only [Option.bind_some]
     rw [if_neg d0, if_neg d1, if_pos d2, if_pos q0, if_pos (by omega), if_pos (by rw [htk, List.length_nil]; omega), hq, if_pos (by omega), if_pos (by omega), if_pos (by rw [List.nil_append, htk]; omega), hw]
     exact e' k (by omega)
    by_cases d3 : d = 3
    ·obtain ⟨s, j3, g3, e3, s0, s1, _, hj3⟩ := below_ok b j2 g2 (x2.size : Int) hb hj2
     have s1 := s1 hx2
     have hdr : (l.drop q.toNat).length ≤ l.length := by rw [List.length_drop]; omega
     have hs : ([] ++ l.take q.toNat ++ [bt x2 s] ++ l.drop q.toNat).length = l.length + 1 := by rw [List.length_append, List.length_append, List.nil_append, htk, List.length_drop, List.length_cons, List.length_nil]; omega
     obtain ⟨r, j', g', e', hc', hr⟩ := ih ([] ++ l.take q.toNat ++ [bt x2 s] ++ l.drop q.toNat) (x - 1) j3 g3 (by omega) (by omega) (by omega) hj3
     refine ⟨r, j', g', fun k hk => ?_, hc', by omega⟩
     obtain ⟨k, rfl⟩ : ∃ q, k = q + 2 := ⟨k - 2, by omega⟩
     rw [spec_l1Bend.l0, if_pos h0, decide_eq_true hlen, spec_l1Bend.j1, if_pos (by simp), e]
     simp only [Option.bind_some]
     rw [e2]
     simp only [Option.bind_some]
     rw [if_neg d0, if_neg d1, if_neg d2, if_pos d3, if_pos q0, if_pos (by omega), if_pos (by rw [htk, List.length_nil]; omega), e3]
     simp only [Option.bind_some]
     rw [if_pos s0, if_pos s1, if_pos (by rw [List.nil_append, htk]; omega), if_pos (by rw [List.length_append, List.nil_append, htk, List.length_cons, List.length_nil]; omega), hw]
     exact e' k (by omega)
    ·obtain ⟨r, j', g', e', hc', hr⟩ := ih l (x - 1) j2 g2 (by omega) (by omega) (by omega) hj2
     refine ⟨r, j', g', fun k hk => ?_, hc', by omega⟩
     obtain ⟨k, rfl⟩ : ∃ q, k = q + 2 := ⟨k - 2, by omega⟩
     rw [spec_l1Bend.l0, if_pos h0, decide_eq_true hlen, spec_l1Bend.j1, if_pos (by simp), e]
     simp only [Option.bind_some]
     rw [e2]
     simp only [Option.bind_some]
     rw [if_neg d0, if_neg d1, if_neg d2, if_neg d3, hw]
     exact e' k (by omega)
   ·refine ⟨strOfNums l, i, h, fun k hk => ?_, hc, by rw [strOfNums_size]; omega⟩
    obtain ⟨k, rfl⟩ : ∃ q, k = q + 2 := ⟨k - 2, by omega⟩
    rw [spec_l1Bend.l0, if_pos h0, decide_eq_false hlen, bend_end]
  ·refine ⟨strOfNums l, i, h, fun k hk => ?_, hc, by rw [strOfNums_size]; omega⟩
   obtain ⟨k, rfl⟩ : ∃ q, k = q + 2 := ⟨k - 2, by omega⟩
   rw [spec_l1Bend.l0, if_neg h0, bend_end]
theorem bend_ok (b : List Int) (i h : Int) (hb : b.length ≤ 4096) (hc : CurOk b i) (s x2 : ByteArray) (hs : s.size ≤ 100000) (hx2 : (x2.size : Int) > 0) : ∃ r j g, (∀ k, 10 < k → spec_l1Bend.f k b i h s x2 = some (r, j, g)) ∧ r.size ≤ 100010 := by
 obtain ⟨n, j, g, e, n0, n1, _, hj⟩ := below_ok b i h 3 hb hc
 have n1 := n1 (by omega)
 have hl : ([] ++ bytesOf s : List Int).length = s.size := by rw [List.nil_append, bytesOf_length]
 obtain ⟨r, j', g', e', _, hr⟩ := bend_loop b hb x2 hx2 3 ([] ++ bytesOf s) n j g (by omega) (by omega) (by omega) hj
 refine ⟨r, j', g', fun k hk => ?_, by omega⟩
 unfold spec_l1Bend.f
 simp only [Option.bind_some]
 rw [if_pos (by rw [List.length_nil]; omega), e]
 simp only [Option.bind_some]
 exact e' k (by omega)
theorem drawRead_ok (b : List Int) (hb : b.length ≤ 4096) : ∃ (t : List UInt8) (K : Nat), t.length ≤ 1048576 ∧ ∀ k, K ≤ k → spec_DrawReadProg.f k b = some (Bs t) := by
 obtain ⟨g, e⟩ := new_ok b hb
 obtain ⟨l, j, g2, e2, hj, hl⟩ := drawAny9_ok b 0 g hb (curOk0 b)
 obtain ⟨K, e3⟩ := spec_showprog l (by omega)
 obtain ⟨o, j3, g3, e4, hj3⟩ := once_ok b j g2 3 hb hj
 have hsz : (showB l).size ≤ 100000 := by
  unfold showB
  split
  ·rename_i hp
   rw [Bs_size]
   have := progT_len hp
   omega
  ·rw [Bs_size, List.length_nil]
   omega
 cases o with
 | false =>
  refine ⟨(showB l).data.toList, K + 5000, ?_, fun k hk => ?_⟩
  ·rw [← Bs_size, Bs_eta]
   omega
  ·unfold spec_DrawReadProg.f
   rw [e k (by omega)]
   simp only [Option.bind_some]
   rw [e2 k (by omega)]
   simp only [Option.bind_some]
   rw [e3 k (by omega)]
   simp only [Option.bind_some]
   rw [e4, Bs_eta]
   rfl
 | true =>
  obtain ⟨r, j4, g4, e5, hr⟩ := bend_ok b j3 g3 hb hj3 (showB l) (⟨#[48, 49, 57, 32, 59, 45, 101, 110, 100, 105, 116, 103, 111]⟩ : ByteArray) hsz (by decide)
  refine ⟨r.data.toList, K + 5000, ?_, fun k hk => ?_⟩
  ·rw [← Bs_size, Bs_eta]
   omega
  ·unfold spec_DrawReadProg.f
   rw [e k (by omega)]
   simp only [Option.bind_some]
   rw [e2 k (by omega)]
   simp only [Option.bind_some]
   rw [e3 k (by omega)]
   simp only [Option.bind_some]
   rw [e4]
   simp only [Option.bind_some]
   rw [if_pos (by simp), e5 k (by omega), Bs_eta]
   rfl
theorem like_loop (l : List S37) (hl : l.length ≤ 1000) : ∀ (m j k : Nat), j + m = l.length → m < k → laws_likeIns.l0 k l l (j : Int) = some true := by
 intro m
 induction m with
 | zero =>
  intro j k hj hk
  obtain ⟨k, rfl⟩ : ∃ q, k = q + 1 := ⟨k - 1, by omega⟩
  rw [laws_likeIns.l0, if_neg (by omega)]
 | succ m ih =>
  intro j k hj hk
  obtain ⟨k, rfl⟩ : ∃ q, k = q + 1 := ⟨k - 1, by omega⟩
  rw [laws_likeIns.l0, if_pos (by omega), if_pos (by omega), if_pos (by omega), if_neg (by simp), wrap_id (by omega) (by omega), show ((j : Int) + 1) = ((j + 1 : Nat) : Int) by omega]
  exact ih (j + 1) k (by omega) (by omega)
theorem like_same (l : List S37) (hl : l.length ≤ 1000) (k : Nat) (hk : l.length < k) : laws_likeIns.f k l l = some true := by
 unfold laws_likeIns.f
 rw [if_pos (by simp)]
 exact like_loop l hl l.length 0 k (by omega) hk
theorem insT_ne (o a b : Int) : insT o a b ≠ [] := by
 unfold insT
 simp
theorem progT_ne {l : List S37} (h : l ≠ []) : progT l ≠ [] := by
 cases l with
 | nil => exact absurd rfl h
 | cons x t =>
  unfold progT insTs
  rw [List.map_cons, Lib.join_cons]
  intro e
  exact insT_ne x.f0 x.f1 x.f2 (List.append_eq_nil_iff.1 e).1
theorem empty_as (l : List S37) : (((progT l) == ([] : List UInt8)) != ((l.length : Int) == 0)) = false := by
 cases l with
 | nil => rfl
 | cons x t =>
  have h1 : (progT (x :: t) == ([] : List UInt8)) = false := beq_eq_false_iff_ne.mpr (progT_ne (by simp))
  have h2 : ((((x :: t).length : Nat) : Int) == 0) = false := beq_eq_false_iff_ne.mpr (by rw [List.length_cons]; omega)
  rw [h1, h2]
  rfl
/-- What is read is shown as it was. -/
theorem second_ok (b : List Int) (hb : b.length ≤ 4096) : ∃ K, ∀ k, K ≤ k → laws_FnProgBack.j0 k b false = some true := by
 obtain ⟨t, K, ht, e⟩ := drawRead_ok b hb
 obtain ⟨K2, r1, r2⟩ := impl_read_prog t ht
 by_cases h : ∃ xs, progB xs = true ∧ t = progT xs
 ·obtain ⟨xs, hp, hx⟩ := h
  have hl := (progB_all hp).1
  obtain ⟨K3, e3⟩ := impl_showprog xs (by omega)
  obtain ⟨K4, e4⟩ := impl_prog xs (by omega)
  refine ⟨K + K2 + K3 + K4 + 2, fun k hk => ?_⟩
  obtain ⟨k, rfl⟩ : ∃ q, k = q + 1 := ⟨k - 1, by omega⟩
  rw [laws_FnProgBack.j0, if_neg (by simp), e k (by omega)]
  simp only [Option.bind_some]
  rw [r1 xs hp hx k (by omega)]
  simp only [Option.bind_some]
  rw [if_pos (by simp), e3 k (by omega)]
  simp only [Option.bind_some]
  rw [showB, if_pos hp, ← hx, if_pos (by simp), e4 k (by omega), hp]
  rfl
 ·refine ⟨K + K2 + 2, fun k hk => ?_⟩
  obtain ⟨k, rfl⟩ : ∃ q, k = q + 1 := ⟨k - 1, by omega⟩
  rw [laws_FnProgBack.j0, if_neg (by simp), e k (by omega)]
  simp only [Option.bind_some]
  rw [r2 h k (by omega)]
  rfl
theorem FnProgBack : ∀ (l0 : List Int), ∃ k, laws_FnProgBack.f k l0 = some true := by
 intro l0
 by_cases h : (l0.length : Int) > 4096
 ·refine ⟨0, ?_⟩
  unfold laws_FnProgBack.f laws_big.f
  rw [Option.bind_some, decide_eq_true h, if_pos (by simp)]
 ·have hb : l0.length ≤ 4096 := by omega
  obtain ⟨l, e1, hl⟩ := drawShow_ok l0 hb
  obtain ⟨K1, e2⟩ := impl_showprog l (by omega)
  obtain ⟨K2, e3⟩ := spec_prog l (by omega)
  obtain ⟨K3, e4⟩ := impl_prog l (by omega)
  obtain ⟨K4, e5⟩ := second_ok l0 hb
  cases hp : progB l with
  | false =>
   refine ⟨K1 + K2 + K3 + 5000, ?_⟩
   unfold laws_FnProgBack.f laws_big.f
   rw [Option.bind_some, decide_eq_false h, if_neg (by simp), e1 _ (by omega)]
   simp only [Option.bind_some]
   rw [e2 _ (by omega)]
   simp only [Option.bind_some]
   rw [e3 _ (by omega), show showB l = Bs [] from (by unfold showB; rw [hp]; rfl), hp]
   simp only [Option.bind_some]
   rw [if_neg (by simp), Bs_list, if_pos (by simp), e4 _ (by omega), hp]
   rfl
  | true =>
   have hs : (progT l).length ≤ 1048576 := by
    have := progT_len hp
    omega
   obtain ⟨K5, r1, _⟩ := impl_read_prog (progT l) hs
   refine ⟨K1 + K2 + K3 + K4 + K5 + 5000, ?_⟩
   unfold laws_FnProgBack.f laws_big.f
   rw [Option.bind_some, decide_eq_false h, if_neg (by simp), e1 _ (by omega)]
   simp only [Option.bind_some]
   rw [e2 _ (by omega)]
   simp only [Option.bind_some]
   rw [e3 _ (by omega), showB, hp]
   simp only [Option.bind_some]
   rw [if_pos (by simp), if_pos (by simp), r1 l hp rfl _ (by omega)]
   simp only [Option.bind_some]
   rw [if_pos (by simp), like_same l (by omega) _ (by omega)]
   simp only [Option.bind_some]
   rw [if_pos (by simp), Bs_list, empty_as]
   exact e5 _ (by omega)
end Go.Proofs.YtggajlaifoddeaaGreatDoor.Pure
