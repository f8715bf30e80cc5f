/- Texts of the claim of the law FnExactReadProg, made smaller by a program of this session: what the claim does not use is left out. No condition. -/
import Derived.Lib.AtoiTie
import Derived.Lib.AtoiAllCases
import Derived.Lib.ParseIntBTie
import Derived.Test.YtggajlaifoddeaaDoorZRWWords
import Derived.ChangeArms
import Derived.WideShapes
import Derived.DataReads
import Derived.Test.YtggajlaifoddeaaDoorZRPLib
import Derived.Test.YtggajlaifoddeaaDoorZRPFnExactReadProgx10
namespace Go.Proofs.YtggajlaifoddeaaDoor.Pure
open Go.Proofs.YtggajlaifoddeaaDoorStrs Go.RowKit Go.Proofs.YtggajlaifoddeaaDoorPLib Go.Proofs.YtggajlaifoddeaaDoor.PFnExactReadProg Go.Proofs.YtggajlaifoddeaaDoorW.PrintWords Go.Proofs.YtggajlaifoddeaaDoorW.PrintLast
set_option linter.unusedVariables false
set_option linter.unusedSimpArgs false
theorem l1In_eq (a b c : Int) : spec_l1In.f a b c = some (btw a b c) := by
 unfold spec_l1In.f btw
 by_cases h : b ≤ a
 ·rw [if_pos h]; simp [h]
 ·rw [if_neg h]; simp [h]
theorem within_eq (a b c : Int) : impl_within.f a b c = some (btw a b c) := by
 unfold impl_within.f btw
 by_cases h : b ≤ a
 ·rw [if_pos h]; simp [h]
 ·rw [if_neg h]; simp [h]
/-- What the document asks of an instruction. -/
def insB (op a b : Int) : Bool :=
 if op = 0 then btw a 0 90 && b == 0
 else if op = 1 ∨ op = 2 ∨ op = 9 then btw a (-1) 59 && b == 0
 else if op = 3 then btw a (-1) 59 && btw b 0 1000
 else if op = 4 then btw a (-1) 59 && btw b 0 999
 else if op = 5 then btw a 0 12 && b == 0
 else if op = 6 ∨ op = 7 then btw a 0 7 && btw b 0 7
 else if op = 8 then btw a 0 7 && b == 0
 else if op = 10 then btw a (-1) 59 && btw b 1 9
 else false
theorem spec_ins (k : Nat) (op a b : Int) : spec_InsOk.f (k + 3) op a b = some (insB op a b) := by
 by_cases h0 : op = 0
 ·subst h0
  cases hA : btw a 0 90 <;> simp [spec_InsOk.f, l1In_eq, insB, hA] <;> simp_all
 by_cases h1 : op = 1
 ·subst h1
  cases hA : btw a (-1) 59 <;> simp_all [spec_InsOk.f, spec_InsOk.j0, spec_l9Leash.f, l1In_eq, insB]
 by_cases h2 : op = 2
 ·subst h2
  cases hA : btw a (-1) 59 <;> simp_all [spec_InsOk.f, spec_InsOk.j0, spec_l9Leash.f, l1In_eq, insB]
 by_cases h9 : op = 9
 ·subst h9
  cases hA : btw a (-1) 59 <;> simp_all [spec_InsOk.f, spec_InsOk.j0, spec_l9Leash.f, l1In_eq, insB]
 by_cases h3 : op = 3
 ·subst h3
  cases hA : btw a (-1) 59 <;> simp_all [spec_InsOk.f, spec_InsOk.j0, spec_l9Leash.f, l1In_eq, insB]
 by_cases h4 : op = 4
 ·subst h4
  cases hA : btw a (-1) 59 <;> simp_all [spec_InsOk.f, spec_InsOk.j0, spec_l9Leash.f, l1In_eq, insB]
 by_cases h5 : op = 5
 ·subst h5
  cases hA : btw a 0 12 <;> simp_all [spec_InsOk.f, spec_InsOk.j0, l1In_eq, insB]
 by_cases h6 : op = 6
 ·subst h6
  cases hA : btw a 0 7 <;> simp_all [spec_InsOk.f, spec_InsOk.j0, spec_InsOk.j1, l1In_eq, insB]
 by_cases h7 : op = 7
 ·subst h7
  cases hA : btw a 0 7 <;> simp_all [spec_InsOk.f, spec_InsOk.j0, spec_InsOk.j1, l1In_eq, insB]
 by_cases h8 : op = 8
 ·subst h8
  cases hA : btw a 0 7 <;> simp_all [spec_InsOk.f, spec_InsOk.j0, spec_InsOk.j1, l1In_eq, insB]
 by_cases h10 : op = 10
 ·subst h10
  cases hA : btw a (-1) 59 <;> simp_all [spec_InsOk.f, spec_InsOk.j0, spec_InsOk.j1, spec_l9Leash.f, l1In_eq, insB]
 simp [spec_InsOk.f, spec_InsOk.j0, spec_InsOk.j1, insB, *]
theorem impl_ins (k : Nat) (op a b : Int) : impl_InsOk.f (k + 3) op a b = some (insB op a b) := by
 by_cases h0 : op = 0
 ·subst h0
  have hn : impl_hasNode.f 0 = some false := by decide
  cases hA : btw a 0 90 <;> by_cases hb : b = 0 <;> simp_all [impl_InsOk.f, impl_InsOk.j0, impl_hasB.f, within_eq, insB]
 by_cases h1 : op = 1
 ·subst h1
  have hn : impl_hasNode.f 1 = some true := by decide
  cases hA : btw a (-1) 59 <;> by_cases hb : b = 0 <;> simp_all [impl_InsOk.f, impl_InsOk.j0, impl_InsOk.j1, impl_hasB.f, within_eq, insB]
 by_cases h2 : op = 2
 ·subst h2
  have hn : impl_hasNode.f 2 = some true := by decide
  cases hA : btw a (-1) 59 <;> by_cases hb : b = 0 <;> simp_all [impl_InsOk.f, impl_InsOk.j0, impl_InsOk.j1, impl_hasB.f, within_eq, insB]
 by_cases h9 : op = 9
 ·subst h9
  have hn : impl_hasNode.f 9 = some true := by decide
  cases hA : btw a (-1) 59 <;> by_cases hb : b = 0 <;> simp_all [impl_InsOk.f, impl_InsOk.j0, impl_InsOk.j1, impl_hasB.f, within_eq, insB]
 by_cases h3 : op = 3
 ·subst h3
  have hn : impl_hasNode.f 3 = some true := by decide
  cases hA : btw a (-1) 59 <;> simp_all [impl_InsOk.f, impl_InsOk.j0, impl_InsOk.j1, impl_hasB.f, within_eq, insB]
 by_cases h4 : op = 4
 ·subst h4
  have hn : impl_hasNode.f 4 = some true := by decide
  cases hA : btw a (-1) 59 <;> simp_all [impl_InsOk.f, impl_InsOk.j0, impl_InsOk.j1, impl_hasB.f, within_eq, insB]
 by_cases h5 : op = 5
 ·subst h5
  have hn : impl_hasNode.f 5 = some false := by decide
  by_cases hb : b = 0 <;> simp_all [impl_InsOk.f, impl_InsOk.j0, impl_InsOk.j1, impl_hasB.f, within_eq, insB]
 by_cases h6 : op = 6
 ·subst h6
  have hn : impl_hasNode.f 6 = some false := by decide
  cases hA : btw a 0 7 <;> simp_all [impl_InsOk.f, impl_InsOk.j0, impl_InsOk.j1, impl_InsOk.j2, impl_hasB.f, within_eq, insB]
 by_cases h7 : op = 7
 ·subst h7
  have hn : impl_hasNode.f 7 = some false := by decide
  cases hA : btw a 0 7 <;> simp_all [impl_InsOk.f, impl_InsOk.j0, impl_InsOk.j1, impl_InsOk.j2, impl_hasB.f, within_eq, insB]
 by_cases h8 : op = 8
 ·subst h8
  have hn : impl_hasNode.f 8 = some false := by decide
  by_cases hb : b = 0 <;> simp_all [impl_InsOk.f, impl_InsOk.j0, impl_InsOk.j1, impl_InsOk.j2, impl_hasB.f, within_eq, insB]
 by_cases h10 : op = 10
 ·subst h10
  have hn : impl_hasNode.f 10 = some true := by decide
  cases hA : btw a (-1) 59 <;> simp_all [impl_InsOk.f, impl_InsOk.j0, impl_InsOk.j1, impl_InsOk.j2, impl_hasB.f, within_eq, insB]
 have hn : impl_hasNode.f op = some false := by
  unfold impl_hasNode.f
  rw [within_eq]
  have : btw op 1 4 = false := by
   rw [Bool.eq_false_iff]
   intro h
   have := btw_iff.1 h
   omega
  simp [h9, h10, this]
 have hb : impl_hasB.f op = some false := by simp [impl_hasB.f, *]
 by_cases hb0 : b = 0 <;> simp [impl_InsOk.f, hn, hb, impl_InsOk.j0, impl_InsOk.j1, impl_InsOk.j2, insB, *]
/-- The mark of an element. -/
def mkInsS (c : Int) : S34 := ⟨c, wrap64 (c + 1), wrap64 ((wrap64 (c + 1)) + 1)⟩
def nxInsS (c : Int) : Int := wrap64 ((wrap64 ((wrap64 (c + 1)) + 1)) + 1)
theorem nxInsS_add (c : Int) (h0 : 0 ≤ c) (h1 : c ≤ 4611686018427387904) : nxInsS c = c + 3 := by
 unfold nxInsS wrap64
 omega
theorem mark_InsS (l : List S34) (c : Int) (hc0 : 0 ≤ c) (hc : c ≤ 1000000000) (hn : l.length ≤ 2000000) : ∃ K, ∀ k, K ≤ k → laws_markInsS.f k l c = some (c + 3 * (l.length : Int), marks mkInsS nxInsS l.length c) := by
 obtain ⟨K, e⟩ := ev_mark (fun k x0 c i => laws_markInsS.l0 k x0 c i) mkInsS nxInsS (fun k x0 c i => by
  show laws_markInsS.l0 (k + 1) x0 c i = _
  rw [laws_markInsS.l0]
  by_cases h : i < (x0.length : Int)
  ·by_cases h0 : 0 ≤ i
   ·have hr : ∀ v, rd_T34 (x0.set i.toNat v) i = v := fun v => by
     unfold rd_T34
     rw [getD_lt _ (by rw [List.length_set]; omega), List.getElem_set_self]
    rw [if_pos h, if_pos h0, if_pos h, if_pos h0]
    try simp only [Option.bind_some, hr, List.set_set]
    rfl
   ·rw [if_pos h, if_neg h0, if_pos h, if_neg h0]
  ·rw [if_neg h, if_neg h]) l c (by omega)
 refine ⟨K, fun k hk => ?_⟩
 unfold laws_markInsS.f
 rw [← endOf_add nxInsS 3 (by omega) (by omega) (fun c h0 h1 => nxInsS_add c h0 h1) l.length c (by omega) (by omega)]
 exact e k hk
theorem held_InsS (n : Nat) (c : Int) (hc0 : 0 ≤ c) (hc : c ≤ 1000000000) (hn : n ≤ 2000000) : ∃ K, ∀ k, K ≤ k → laws_heldInsS.f k (marks mkInsS nxInsS n c) c = some (c + 3 * (n : Int)) := by
 obtain ⟨K, e⟩ := ev_held (fun k x0 c i => laws_heldInsS.l0 k x0 c i) mkInsS nxInsS z34 (fun k x0 c i h0 h1 he => by
  show laws_heldInsS.l0 (k + 1) x0 c i = _
  have hr : rd_T34 x0 i = mkInsS c := he
  rw [laws_heldInsS.l0, if_pos h1, if_pos h0, hr]
  unfold mkInsS nxInsS
  simp) (fun k x0 c i h => by
  show laws_heldInsS.l0 (k + 1) x0 c i = _
  rw [laws_heldInsS.l0, if_neg h]) n c (by omega)
 refine ⟨K, fun k hk => ?_⟩
 unfold laws_heldInsS.f
 rw [← endOf_add nxInsS 3 (by omega) (by omega) (fun c h0 h1 => nxInsS_add c h0 h1) n c (by omega) (by omega)]
 exact e k hk
theorem eq_InsS (l : List S34) (hn : l.length ≤ 4611686018427387904) : ∃ K, ∀ k, K ≤ k → laws_eqInsS.f k l l = some true := by
 obtain ⟨K, e⟩ := ev_same (fun k a b i => laws_eqInsS.l0 k a b i) l (fun k i h0 h1 => by
  show laws_eqInsS.l0 (k + 1) l l i = laws_eqInsS.l0 k l l (wrap64 (i + 1))
  generalize hw : laws_eqInsS.l0 k l l (wrap64 (i + 1)) = R
  rw [laws_eqInsS.l0, hw]
  simp [laws_eqIns.f, h0, h1]) (fun k i h => by
  show laws_eqInsS.l0 (k + 1) l l i = _
  rw [laws_eqInsS.l0, if_neg h]) hn
 refine ⟨K, fun k hk => ?_⟩
 unfold laws_eqInsS.f
 rw [if_pos rfl]
 exact e k hk
/-- What the document asks of a program. -/
def insAt (l : List S34) (i : Int) : Bool := insB (rd_T34 l i).f0 (rd_T34 l i).f1 (rd_T34 l i).f2
def progB (l : List S34) : Bool := decide ((l.length : Int) ≤ 12) && allFrom (insAt l) l.length 0
theorem impl_ins3 (k : Nat) (h : 3 ≤ k) (op a b : Int) : impl_InsOk.f k op a b = some (insB op a b) := by
 obtain ⟨m, rfl⟩ : ∃ m, k = m + 3 := ⟨k - 3, by omega⟩
 exact impl_ins m op a b
theorem impl_badins (l : List S34) (hl : l.length ≤ 1048576) : ∃ K, ∀ k, K ≤ k → impl_Ins_33.f k l = some (!allFrom (insAt l) l.length 0) := by
 obtain ⟨K, e⟩ := ev_all (fun k i => (impl_Ins_47.l0 k l (l.length : Int) i).bind fun t => some (!decide (t ≥ 0))) (insAt l) l.length 3 (fun k i hk h0 h1 => by
  show (impl_Ins_47.l0 (k + 1) l (l.length : Int) i).bind (fun t => some (!decide (t ≥ 0))) = if insAt l i = true then (impl_Ins_47.l0 k l (l.length : Int) (wrap64 (i + 1))).bind (fun t => some (!decide (t ≥ 0))) else some false
  rw [impl_Ins_47.l0, if_pos h1, if_pos h0, if_pos h1]
  unfold impl_ProgOk_1.f
  rw [impl_ins3 k hk]
  show ((some (!insAt l i)).bind _).bind _ = _
  cases h : insAt l i
  ·simp [h0]
  ·simp) (fun k i h => by
  show (impl_Ins_47.l0 (k + 1) l (l.length : Int) i).bind (fun t => some (!decide (t ≥ 0))) = _
  rw [impl_Ins_47.l0, if_neg h]
  rfl) (by omega)
 refine ⟨K, fun k hk => ?_⟩
 have q := e k hk
 simp only at q
 unfold impl_Ins_33.f impl_Ins_47.f
 cases h : impl_Ins_47.l0 k l (l.length : Int) 0 with
 | none => rw [h] at q; simp at q
 | some t =>
  rw [h] at q
  simp only [Option.bind_some, Option.some.injEq] at q ⊢
  rw [← q, Bool.not_not]
theorem impl_prog (l : List S34) (hl : l.length ≤ 1048576) : ∃ K, ∀ k, K ≤ k → impl_ProgOk.f k l = some (progB l) := by
 obtain ⟨K, e⟩ := impl_badins l hl
 refine ⟨K, fun k hk => ?_⟩
 unfold impl_ProgOk.f progB
 rw [e k hk]
 by_cases h : (l.length : Int) ≤ 12
 ·rw [if_pos h]
  simp [h]
 ·rw [if_neg h]
  simp [h]
/-- The bytes as a text. -/
def Bs (l : List UInt8) : ByteArray := ⟨l.toArray⟩
theorem Bs_app (a b : List UInt8) : Bs a ++ Bs b = Bs (a ++ b) := by
 apply ByteArray.ext
 rw [ByteArray.data_append]
 show a.toArray ++ b.toArray = (a ++ b).toArray
 simp
theorem Bs_size (l : List UInt8) : (Bs l).size = l.length := by
 show l.toArray.size = l.length
 simp
theorem Bs_data (l : List UInt8) : (Bs l).data.toList = l := by
 show l.toArray.toList = l
 simp
theorem Bs_list (l : List UInt8) : (Bs l).toList = l := by rw [Lib.toList_data, Bs_data]
theorem Bs_eta (s : ByteArray) : Bs s.data.toList = s := Lib.mk_data s
theorem dec_len : ∀ (u : Nat), (Lib.decDigits u).length ≤ u + 1 := by
 intro u
 induction u using Nat.strongRecOn with
 | _ u ih =>
  by_cases h : u < 10
  ·rw [Lib.decDigits, dif_pos h]; simp
  ·rw [Lib.decDigits, dif_neg h]
   have := ih (u / 10) (by omega)
   rw [List.length_append]
   simp
   omega
theorem dec_ne (u : Nat) : Lib.decDigits u ≠ [] := by
 by_cases h : u < 10
 ·rw [Lib.decDigits, dif_pos h]; simp
 ·rw [Lib.decDigits, dif_neg h]; simp
/-- The word of an instruction. -/
def nameL (op : Int) : List UInt8 := [[101, 110, 100], [101, 114, 114], [119, 97, 105, 116], [115, 108, 101, 101, 112], [99, 97, 110, 99, 101, 108], [105, 102], [103, 111], [116, 114, 121], [106, 111, 105, 110], [99, 104, 105, 108, 100], [107, 101, 121]].getD op.toNat []
def twoB (op : Int) : Bool := op == 3 || (op == 4 || (op == 6 || (op == 7 || op == 10)))
def nodeB (op : Int) : Bool := btw op 1 4 || (op == 9 || op == 10)
theorem name_len (op : Int) : (nameL op).length ≤ 6 := by
 unfold nameL
 rcases Nat.lt_or_ge op.toNat 11 with h | h
 ·generalize op.toNat = n at h
  rcases (by omega : n = 0 ∨ n = 1 ∨ n = 2 ∨ n = 3 ∨ n = 4 ∨ n = 5 ∨ n = 6 ∨ n = 7 ∨ n = 8 ∨ n = 9 ∨ n = 10) with rfl | rfl | rfl | rfl | rfl | rfl | rfl | rfl | rfl | rfl | rfl <;> simp
 ·rw [List.getD_eq_getElem?_getD, List.getElem?_eq_none (by simpa using h)]
  simp
theorem ops_cases {op : Int} (h0 : 0 ≤ op) (h1 : op ≤ 10) : op = 0 ∨ op = 1 ∨ op = 2 ∨ op = 3 ∨ op = 4 ∨ op = 5 ∨ op = 6 ∨ op = 7 ∨ op = 8 ∨ op = 9 ∨ op = 10 := by omega
theorem spec_name {op : Int} (h0 : 0 ≤ op) (h1 : op ≤ 10) : spec_l9Name.f op = some (Bs (nameL op)) := by
 rcases ops_cases h0 h1 with rfl | rfl | rfl | rfl | rfl | rfl | rfl | rfl | rfl | rfl | rfl <;> rfl
theorem impl_word {op : Int} (h0 : 0 ≤ op) (h1 : op ≤ 10) : ∃ W, impl_opWords.f = some W ∧ op < (W.length : Int) ∧ rdOf ByteArray.empty W op = Bs (nameL op) := by
 refine ⟨_, rfl, ?_, ?_⟩
 ·simp; omega
 ·rcases ops_cases h0 h1 with rfl | rfl | rfl | rfl | rfl | rfl | rfl | rfl | rfl | rfl | rfl <;> rfl
theorem spec_two (op : Int) : spec_l9Two.f op = some (twoB op) := by
 unfold spec_l9Two.f twoB
 by_cases h3 : op = 3
 ·rw [if_pos h3, h3]; rfl
 rw [if_neg h3, beq_eq_false_iff_ne.mpr h3, Bool.false_or]
 by_cases h4 : op = 4
 ·rw [if_pos h4, h4]; rfl
 rw [if_neg h4, beq_eq_false_iff_ne.mpr h4, Bool.false_or]
 by_cases h6 : op = 6
 ·rw [if_pos h6, h6]; rfl
 rw [if_neg h6, beq_eq_false_iff_ne.mpr h6, Bool.false_or]
 by_cases h7 : op = 7
 ·rw [if_pos h7, h7]; rfl
 rw [if_neg h7, beq_eq_false_iff_ne.mpr h7, Bool.false_or]
theorem impl_two (op : Int) : impl_hasB.f op = some (twoB op) := by
 unfold impl_hasB.f twoB
 by_cases h3 : op = 3
 ·rw [if_pos h3, h3]; rfl
 rw [if_neg h3, beq_eq_false_iff_ne.mpr h3, Bool.false_or]
 by_cases h4 : op = 4
 ·rw [if_pos h4, h4]; rfl
 rw [if_neg h4, beq_eq_false_iff_ne.mpr h4, Bool.false_or]
 by_cases h6 : op = 6
 ·rw [if_pos h6, h6]; rfl
 rw [if_neg h6, beq_eq_false_iff_ne.mpr h6, Bool.false_or]
 by_cases h7 : op = 7
 ·rw [if_pos h7, h7]; rfl
 rw [if_neg h7, beq_eq_false_iff_ne.mpr h7, Bool.false_or]
theorem impl_node (op : Int) : impl_hasNode.f op = some (nodeB op) := by
 unfold impl_hasNode.f nodeB
 rw [within_eq, Option.bind_some]
 cases btw op 1 4
 ·by_cases h9 : op = 9 <;> simp [h9]
 ·simp
/-- The numbers of an instruction are small. -/
theorem insB_span {op a b : Int} (h : insB op a b = true) : 0 ≤ op ∧ op ≤ 10 ∧ -1 ≤ a ∧ a ≤ 90 ∧ 0 ≤ b ∧ b ≤ 1000 ∧ (a < 0 → nodeB op = true) := by
 unfold insB at h
 have eb : ∀ {p q : Bool}, (p && q) = true → p = true ∧ q = true := fun h => by simpa using h
 by_cases h0 : op = 0
 ·rw [if_pos h0] at h
  obtain ⟨h1, h2⟩ := eb h
  have h1 := btw_iff.1 h1
  have h2 : b = 0 := by simpa using h2
  exact ⟨by omega, by omega, by omega, by omega, by omega, by omega, fun hh => by omega⟩
 rw [if_neg h0] at h
 by_cases h1 : op = 1 ∨ op = 2 ∨ op = 9
 ·rw [if_pos h1] at h
  obtain ⟨h3, h2⟩ := eb h
  have h3 := btw_iff.1 h3
  have h2 : b = 0 := by simpa using h2
  refine ⟨by omega, by omega, by omega, by omega, by omega, by omega, fun _ => ?_⟩
  rcases h1 with rfl | rfl | rfl <;> rfl
 rw [if_neg h1] at h
 by_cases h3 : op = 3
 ·rw [if_pos h3] at h
  obtain ⟨h4, h2⟩ := eb h
  have h4 := btw_iff.1 h4
  have h2 := btw_iff.1 h2
  exact ⟨by omega, by omega, by omega, by omega, by omega, by omega, fun _ => by rw [h3]; rfl⟩
 rw [if_neg h3] at h
 by_cases h4 : op = 4
 ·rw [if_pos h4] at h
  obtain ⟨h5, h2⟩ := eb h
  have h5 := btw_iff.1 h5
  have h2 := btw_iff.1 h2
  exact ⟨by omega, by omega, by omega, by omega, by omega, by omega, fun _ => by rw [h4]; rfl⟩
 rw [if_neg h4] at h
 by_cases h5 : op = 5
 ·rw [if_pos h5] at h
  obtain ⟨h6, h2⟩ := eb h
  have h6 := btw_iff.1 h6
  have h2 : b = 0 := by simpa using h2
  exact ⟨by omega, by omega, by omega, by omega, by omega, by omega, fun hh => by omega⟩
 rw [if_neg h5] at h
 by_cases h6 : op = 6 ∨ op = 7
 ·rw [if_pos h6] at h
  obtain ⟨h7, h2⟩ := eb h
  have h7 := btw_iff.1 h7
  have h2 := btw_iff.1 h2
  exact ⟨by omega, by omega, by omega, by omega, by omega, by omega, fun hh => by omega⟩
 rw [if_neg h6] at h
 by_cases h8 : op = 8
 ·rw [if_pos h8] at h
  obtain ⟨h7, h2⟩ := eb h
  have h7 := btw_iff.1 h7
  have h2 : b = 0 := by simpa using h2
  exact ⟨by omega, by omega, by omega, by omega, by omega, by omega, fun hh => by omega⟩
 rw [if_neg h8] at h
 by_cases h10 : op = 10
 ·rw [if_pos h10] at h
  obtain ⟨h7, h2⟩ := eb h
  have h7 := btw_iff.1 h7
  have h2 := btw_iff.1 h2
  exact ⟨by omega, by omega, by omega, by omega, by omega, by omega, fun _ => by rw [h10]; rfl⟩
 rw [if_neg h10] at h
 cases h
/-- The text of an instruction. -/
def insT (op a b : Int) : List UInt8 := (nameL op ++ [32]) ++ (if a < 0 then [105, 116] else Lib.decDigits a.toNat) ++ (if twoB op = true then [32] ++ Lib.decDigits b.toNat else [])
theorem insT_len {op a b : Int} (h : insB op a b = true) : (insT op a b).length ≤ 1200 := by
 obtain ⟨_, _, _, ha, _, hb, _⟩ := insB_span h
 have := name_len op
 have h1 := dec_len a.toNat
 have h2 := dec_len b.toNat
 unfold insT
 rw [List.length_append, List.length_append, List.length_append]
 split <;> split <;> simp <;> omega
theorem impl_textOf {a : Int} (h0 : -1 ≤ a) (h1 : a ≤ 100000) : impl_text.f a = some (Bs (Lib.itoa a)) := by
 unfold impl_text.f textF
 rw [if_pos ⟨by omega, by omega⟩]
 rfl
theorem itoa_len {a : Int} (h0 : -1 ≤ a) : (Lib.itoa a).length ≤ a.toNat + 3 := by
 unfold Lib.itoa
 have h1 := dec_len a.toNat
 have h2 := dec_len a.natAbs
 split
 ·simp; omega
 ·omega
theorem itoa_nat {a : Int} (h0 : ¬ a < 0) : Lib.itoa a = Lib.decDigits a.toNat := by
 unfold Lib.itoa
 rw [if_neg h0]
theorem impl_show {op a b : Int} (h : insB op a b = true) (k : Nat) (hk : 3 ≤ k) : impl_insText.f k op a b = some (Bs (insT op a b)) := by
 obtain ⟨h0, h1, ha0, ha, hb0, hb, hnode⟩ := insB_span h
 have hn := name_len op
 have l1 := itoa_len ha0
 have l2 := itoa_len (show -1 ≤ b by omega)
 have d1 := dec_len a.toNat
 have e32 : (⟨#[32]⟩ : ByteArray) = Bs [32] := rfl
 have eit : (⟨#[32, 105, 116]⟩ : ByteArray) = Bs [32, 105, 116] := rfl
 obtain ⟨W, hW, hlt, hrd⟩ := impl_word h0 h1
 have tail : ∀ s : List UInt8, s.length ≤ 200 → ∀ k, 1 ≤ k → impl_insText.j1 k (Bs s) op a b = some (Bs (s ++ (if twoB op = true then [32] ++ Lib.decDigits b.toNat else []))) := by
  intro s hs k hk
  obtain ⟨k, rfl⟩ : ∃ q, k = q + 1 := ⟨k - 1, by omega⟩
  rw [impl_insText.j1, impl_two, Option.bind_some]
  cases twoB op
  ·rw [if_neg (by simp), if_neg (by simp), List.append_nil]
  ·rw [if_pos rfl, if_pos rfl, impl_textOf (by omega) (by omega), Option.bind_some, Bs_size, if_pos (by omega), e32, Bs_app, Bs_size, Bs_size, if_pos (by rw [List.length_append]; simp; omega), Bs_app, itoa_nat (by omega)]
 obtain ⟨k, rfl⟩ : ∃ q, k = q + 1 := ⟨k - 1, by omega⟩
 have mid : ∀ y : Bool, impl_insText.j0 (k + 1) (Bs ((nameL op ++ [32]) ++ Lib.itoa a)) y op a b = impl_insText.j1 k (Bs (if y = true then (nameL op ++ [32]) ++ [105, 116] else (nameL op ++ [32]) ++ Lib.itoa a)) op a b := by
  intro y
  rw [impl_insText.j0]
  cases y
  ·rw [if_neg (by simp), if_neg (by simp)]
  ·rw [if_pos rfl, if_pos rfl, hW, Option.bind_some, if_pos h0, if_pos hlt, hrd, Bs_size, if_pos (by omega), eit, Bs_app, List.append_assoc]
   rfl
 unfold impl_insText.f insT
 rw [hW, Option.bind_some, if_pos h0, if_pos hlt, hrd, Bs_size, if_pos (by omega), impl_textOf ha0 (by omega), Option.bind_some, e32, Bs_app, Bs_size, Bs_size, if_pos (by rw [List.length_append]; simp; omega), impl_node, Option.bind_some, Bs_app]
 by_cases hneg : a < 0
 ·have ha1 : a = -1 := by omega
  have hb1 : (a == -1) = true := by rw [ha1]; rfl
  rw [hnode hneg, if_pos rfl, hb1, mid true, if_pos rfl, if_pos hneg]
  exact tail _ (by rw [List.length_append, List.length_append]; simp; omega) k (by omega)
 ·have hb1 : (a == -1) = false := by rw [beq_eq_false_iff_ne]; omega
  have fin : impl_insText.j0 (k + 1) (Bs ((nameL op ++ [32]) ++ Lib.itoa a)) false op a b = some (Bs ((nameL op ++ [32]) ++ (if a < 0 then [105, 116] else Lib.decDigits a.toNat) ++ (if twoB op = true then [32] ++ Lib.decDigits b.toNat else []))) := by
   rw [mid false, if_neg (by simp), if_neg hneg, itoa_nat hneg]
   exact tail _ (by rw [List.length_append, List.length_append]; simp; omega) k (by omega)
  cases nodeB op
  ·rw [if_neg (by simp)]; exact fin
  ·rw [if_pos rfl, hb1]; exact fin
/-- The texts of instructions. -/
def insTs (l : List S34) : List (List UInt8) := l.map fun x => insT x.f0 x.f1 x.f2
def sepL : List UInt8 := [59, 32]
theorem join_len (M : Nat) (sep : List UInt8) : ∀ xs : List (List UInt8), (∀ x ∈ xs, x.length ≤ M) → (Lib.joinTail sep xs).length ≤ xs.length * (M + sep.length) := by
 intro xs
 induction xs with
 | nil => intro _; simp [Lib.joinTail]
 | cons x r ih =>
  intro h
  have h1 := ih (fun y hy => h y (List.mem_cons_of_mem _ hy))
  have h2 := h x (List.mem_cons_self ..)
  unfold Lib.joinTail at h1 ⊢
  rw [List.map_cons, List.flatten_cons, List.length_append, List.length_append, List.length_cons, Nat.add_mul]
  omega
theorem joined_len (M : Nat) (xs : List (List UInt8)) (sep : List UInt8) (h : ∀ x ∈ xs, x.length ≤ M) : (Lib.join xs sep).length ≤ xs.length * (M + sep.length) := by
 cases xs with
 | nil => simp [Lib.join_nil]
 | cons x r =>
  have h1 := join_len M sep r (fun y hy => h y (List.mem_cons_of_mem _ hy))
  have h2 := h x (List.mem_cons_self ..)
  rw [Lib.join_cons, List.length_append, List.length_cons, Nat.add_mul]
  omega
theorem join_impl (xs : List (List UInt8)) (sep : List UInt8) (hx : xs.length ≤ 1000) (hs : (Lib.join xs sep).length ≤ 100000000) : strings_Join.f (xs.map Bs) (Bs sep) = some (Bs (Lib.join xs sep)) := by
 unfold strings_Join.f joinF
 have hm : (xs.map Bs).map (fun y => y.data.toList) = xs := by
  rw [List.map_map]
  have : ((fun y : ByteArray => y.data.toList) ∘ Bs) = id := by
   funext l
   exact Bs_data l
  rw [this, List.map_id]
 rw [hm, Bs_data, List.length_map, if_pos ⟨by omega, by omega⟩]
 rfl
/-- The text of a program. -/
def progT (l : List S34) : List UInt8 := Lib.join (insTs l) sepL
theorem insTs_len (l : List S34) : (insTs l).length = l.length := by unfold insTs; rw [List.length_map]
theorem progB_at {l : List S34} (h : progB l = true) : l.length ≤ 12 ∧ ∀ j : Nat, (hj : j < l.length) → insB l[j].f0 l[j].f1 l[j].f2 = true := by
 unfold progB at h
 rw [Bool.and_eq_true, allFrom_iff] at h
 refine ⟨by have := of_decide_eq_true h.1; omega, fun j hj => ?_⟩
 have := h.2 (j : Int) (by omega) (by omega)
 unfold insAt at this
 have e : rd_T34 l (j : Int) = l[j] := by unfold rd_T34; rw [Int.toNat_natCast, getD_lt _ hj]
 rw [e] at this
 exact this
theorem progT_len {l : List S34} (h : progB l = true) : (progT l).length ≤ 12 * 1202 := by
 obtain ⟨h1, h2⟩ := progB_at h
 have := joined_len 1200 (insTs l) sepL (fun x hx => by
  unfold insTs at hx
  obtain ⟨y, hy, rfl⟩ := List.mem_map.1 hx
  obtain ⟨j, hj, rfl⟩ := List.mem_iff_getElem.1 hy
  exact insT_len (h2 j hj))
 rw [insTs_len] at this
 have e : sepL.length = 2 := rfl
 rw [e] at this
 unfold progT
 exact Nat.le_trans this (Nat.mul_le_mul_right _ h1)
theorem impl_ptext_loop {l : List S34} (h : progB l = true) : ∀ (m j k : Nat), j + m = l.length → m + 3 < k → impl_progText.l0 k ((insTs (l.take j)).map Bs) l (l.length : Int) (j : Int) = some (Bs (progT l)) := by
 obtain ⟨h1, h2⟩ := progB_at h
 have hlen := progT_len h
 intro m
 induction m with
 | zero =>
  intro j k hj hk
  obtain ⟨k, rfl⟩ : ∃ q, k = q + 1 := ⟨k - 1, by omega⟩
  rw [impl_progText.l0, if_neg (by omega), List.take_of_length_le (by omega), show (⟨#[59, 32]⟩ : ByteArray) = Bs sepL from rfl, join_impl _ _ (by rw [insTs_len]; omega) (by show (progT l).length ≤ _; omega)]
  rfl
 | succ m ih =>
  intro j k hj hk
  obtain ⟨k, rfl⟩ : ∃ q, k = q + 1 := ⟨k - 1, by omega⟩
  have hlt : j < l.length := by omega
  have e : rd_T34 l (j : Int) = l[j] := by unfold rd_T34; rw [Int.toNat_natCast, getD_lt _ hlt]
  have et : (insTs (l.take j)).map Bs ++ [Bs (insT l[j].f0 l[j].f1 l[j].f2)] = (insTs (l.take (j + 1))).map Bs := by
   rw [List.take_succ_eq_append_getElem hlt, insTs, insTs, List.map_append, List.map_append]
   rfl
  rw [impl_progText.l0, if_pos (by omega), if_pos (by omega), if_pos (by omega), e, impl_show (h2 j hlt) k (by omega), Option.bind_some, if_pos (by rw [List.length_map, insTs_len, List.length_take]; omega), et, wrap_id (by omega) (by omega), show ((j : Int) + 1) = ((j + 1 : Nat) : Int) by omega]
  exact ih (j + 1) k (by omega) (by omega)
theorem impl_ptext {l : List S34} (h : progB l = true) (k : Nat) (hk : l.length + 3 < k) : impl_progText.f k l = some (Bs (progT l)) := by
 have := impl_ptext_loop h l.length 0 k (by omega) hk
 unfold impl_progText.f
 simpa [insTs] using this
def go1 (c0 : UInt8) : List UInt8 → List UInt8 → List (List UInt8)
 | cur, [] => [cur]
 | cur, c :: r => if c = c0 then cur :: go1 c0 [] r else go1 c0 (cur ++ [c]) r
def go2 : List UInt8 → List UInt8 → List (List UInt8)
 | cur, [] => [cur]
 | cur, [c] => [cur ++ [c]]
 | cur, c :: d :: r => if c = 59 ∧ d = 32 then cur :: go2 [] r else go2 (cur ++ [c]) (d :: r)
theorem go1_ne (c0 : UInt8) : ∀ (r cur : List UInt8), go1 c0 cur r ≠ [] := by
 intro r
 induction r with
 | nil => intro cur; simp [go1]
 | cons c r ih =>
  intro cur
  unfold go1
  split
  ·simp
  ·exact ih _
theorem go2_ne : ∀ (n : Nat) (r cur : List UInt8), r.length ≤ n → go2 cur r ≠ [] := by
 intro n
 induction n with
 | zero =>
  intro r cur h
  obtain rfl := List.eq_nil_of_length_eq_zero (Nat.le_zero.1 h)
  simp [go2]
 | succ n ih =>
  intro r cur h
  match r, h with
  | [], _ => simp [go2]
  | [c], _ => simp [go2]
  | c :: d :: r, h =>
   unfold go2
   split
   ·simp
   ·exact ih _ _ (by simp at h ⊢; omega)
theorem go2_hit (cur r : List UInt8) : go2 cur (59 :: 32 :: r) = cur :: go2 [] r := by
 rw [go2, if_pos ⟨rfl, rfl⟩]
theorem go2_step (cur r : List UInt8) (c : UInt8) (h : ∀ d t, r = d :: t → ¬ (c = 59 ∧ d = 32)) : go2 cur (c :: r) = go2 (cur ++ [c]) r := by
 cases r with
 | nil => simp [go2]
 | cons d t => rw [go2, if_neg (h d t rfl)]
theorem go2_plain (cur r : List UInt8) (c : UInt8) (h : c ≠ 59) : go2 cur (c :: r) = go2 (cur ++ [c]) r := go2_step cur r c (fun _ _ _ q => h q.1)
theorem go2_len : ∀ (n : Nat) (r cur : List UInt8), r.length ≤ n → 2 * (go2 cur r).length ≤ r.length + 2 := by
 intro n
 induction n with
 | zero =>
  intro r cur h
  obtain rfl := List.eq_nil_of_length_eq_zero (Nat.le_zero.1 h)
  simp [go2]
 | succ n ih =>
  intro r cur h
  match r, h with
  | [], _ => simp [go2]
  | [c], _ => simp [go2]
  | c :: d :: r, h =>
   unfold go2
   split
   ·have := ih r [] (by simp at h; omega)
    simp
    omega
   ·have := ih (d :: r) (cur ++ [c]) (by simp at h ⊢; omega)
    simp at this ⊢
    omega
theorem join_more (x : List UInt8) (r : List (List UInt8)) (sep : List UInt8) (h : r ≠ []) : Lib.join (x :: r) sep = x ++ sep ++ Lib.join r sep := by
 cases r with
 | nil => exact absurd rfl h
 | cons y t =>
  rw [Lib.join_cons, Lib.join_cons]
  unfold Lib.joinTail
  rw [List.map_cons, List.flatten_cons]
  simp only [List.append_assoc]
theorem go1_join (c0 : UInt8) : ∀ (r cur : List UInt8), Lib.join (go1 c0 cur r) [c0] = cur ++ r := by
 intro r
 induction r with
 | nil => intro cur; simp [go1, Lib.join_one]
 | cons c r ih =>
  intro cur
  unfold go1
  split
  ·rename_i h
   rw [join_more _ _ _ (go1_ne _ _ _), ih, h]
   simp
  ·rw [ih]
   simp
theorem go2_join : ∀ (n : Nat) (r cur : List UInt8), r.length ≤ n → Lib.join (go2 cur r) sepL = cur ++ r := by
 intro n
 induction n with
 | zero =>
  intro r cur h
  obtain rfl := List.eq_nil_of_length_eq_zero (Nat.le_zero.1 h)
  simp [go2, Lib.join_one]
 | succ n ih =>
  intro r cur h
  match r, h with
  | [], _ => simp [go2, Lib.join_one]
  | [c], _ => simp [go2, Lib.join_one]
  | c :: d :: r, h =>
   unfold go2
   split
   ·rename_i q
    rw [join_more _ _ _ (go2_ne r.length r [] (Nat.le_refl _)), ih r [] (by simp at h; omega), q.1, q.2]
    simp [sepL]
   ·rw [ih (d :: r) (cur ++ [c]) (by simp at h ⊢; omega)]
    simp
theorem go1_word (c0 : UInt8) : ∀ (t cur r : List UInt8), c0 ∉ t → go1 c0 cur (t ++ r) = go1 c0 (cur ++ t) r := by
 intro t
 induction t with
 | nil => intro cur r _; simp
 | cons c t ih =>
  intro cur r h
  rw [List.cons_append, go1, if_neg (fun e => h (by rw [e]; exact List.mem_cons_self ..)), ih _ _ (fun q => h (List.mem_cons_of_mem _ q))]
  simp
theorem go2_word : ∀ (t cur r : List UInt8), (59 : UInt8) ∉ t → go2 cur (t ++ r) = go2 (cur ++ t) r := by
 intro t
 induction t with
 | nil => intro cur r _; simp
 | cons c t ih =>
  intro cur r h
  rw [List.cons_append, go2_plain _ _ _ (fun e => h (by rw [e]; exact List.mem_cons_self ..)), ih _ _ (fun q => h (List.mem_cons_of_mem _ q))]
  simp
theorem go2_of_join : ∀ (ts : List (List UInt8)) (t cur : List UInt8), (∀ x ∈ t :: ts, (59 : UInt8) ∉ x) → go2 cur (Lib.join (t :: ts) sepL) = (cur ++ t) :: ts := by
 intro ts
 induction ts with
 | nil =>
  intro t cur h
  rw [Lib.join_one]
  have := go2_word t cur [] (h t (List.mem_cons_self ..))
  rw [List.append_nil] at this
  rw [this]
  simp [go2]
 | cons u ts ih =>
  intro t cur h
  rw [join_more _ _ _ (by simp), List.append_assoc, go2_word t cur _ (h t (List.mem_cons_self ..))]
  show go2 (cur ++ t) (59 :: 32 :: Lib.join (u :: ts) sepL) = _
  rw [go2_hit, ih u [] (fun x hx => h x (List.mem_cons_of_mem _ hx))]
  simp
theorem index_here {s sub : List UInt8} (h : sub.isPrefixOf s = true) (hs : s ≠ []) : Lib.index s sub = 0 := by
 cases s with
 | nil => exact absurd rfl hs
 | cons b l => rw [Lib.index, if_pos h]
theorem index_next {b : UInt8} {l sub : List UInt8} (h : sub.isPrefixOf (b :: l) = false) : Lib.index (b :: l) sub = if Lib.index l sub == -1 then -1 else Lib.index l sub + 1 := by
 rw [Lib.index, if_neg (by rw [h]; simp)]
theorem split2_at : ∀ (n : Nat) (s cur : List UInt8), s.length ≤ n → (Lib.index s sepL = -1 ∧ go2 cur s = [cur ++ s]) ∨ (∃ i : Nat, Lib.index s sepL = i ∧ i + 2 ≤ s.length ∧ go2 cur s = (cur ++ s.take i) :: go2 [] (s.drop (i + 2))) := by
 intro n
 induction n with
 | zero =>
  intro s cur h
  obtain rfl := List.eq_nil_of_length_eq_zero (Nat.le_zero.1 h)
  exact Or.inl ⟨rfl, by simp [go2]⟩
 | succ n ih =>
  intro s cur h
  match s, h with
  | [], _ => exact Or.inl ⟨rfl, by simp [go2]⟩
  | c :: l, h =>
   by_cases hp : sepL.isPrefixOf (c :: l) = true
   ·have he : ∃ r, c :: l = 59 :: 32 :: r := by
     rw [List.isPrefixOf_iff_prefix] at hp
     obtain ⟨r, hr⟩ := hp
     exact ⟨r, by rw [← hr]; rfl⟩
    obtain ⟨r, hr⟩ := he
    rw [hr]
    refine Or.inr ⟨0, index_here (by rfl) (by simp), by simp, ?_⟩
    rw [go2_hit]
    simp
   ·have hp := Bool.eq_false_iff.mpr hp
    have hn := index_next hp
    have hst : go2 cur (c :: l) = go2 (cur ++ [c]) l := go2_step cur l c (fun d t e q => by
     subst e
     rw [q.1, q.2] at hp
     simp [sepL, List.isPrefixOf] at hp)
    rcases ih l (cur ++ [c]) (by simp at h; omega) with ⟨h1, h2⟩ | ⟨i, h1, h2, h3⟩
    ·refine Or.inl ⟨by rw [hn, h1]; rfl, ?_⟩
     rw [hst, h2]
     simp
    ·refine Or.inr ⟨i + 1, ?_, by simp; omega, ?_⟩
     ·rw [hn, h1]
      have : ¬ (((i : Int)) == -1) = true := by rw [beq_iff_eq]; omega
      rw [if_neg this]
      omega
     ·rw [hst, h3]
      simp [Nat.add_right_comm]
theorem split1_at (c0 : UInt8) : ∀ (s cur : List UInt8), (Lib.index s [c0] = -1 ∧ go1 c0 cur s = [cur ++ s]) ∨ (∃ i : Nat, Lib.index s [c0] = i ∧ i + 1 ≤ s.length ∧ go1 c0 cur s = (cur ++ s.take i) :: go1 c0 [] (s.drop (i + 1))) := by
 intro s
 induction s with
 | nil => intro cur; exact Or.inl ⟨rfl, by simp [go1]⟩
 | cons c l ih =>
  intro cur
  by_cases hc : c = c0
  ·subst hc
   refine Or.inr ⟨0, index_here (by simp [List.isPrefixOf]) (by simp), by simp, ?_⟩
   rw [go1, if_pos rfl]
   simp
  ·have hp : [c0].isPrefixOf (c :: l) = false := by
    have : (c0 == c) = false := beq_eq_false_iff_ne.mpr (fun e => hc e.symm)
    simp [List.isPrefixOf, this]
   have hn := index_next hp
   rw [go1, if_neg hc]
   rcases ih (cur ++ [c]) with ⟨h1, h2⟩ | ⟨i, h1, h2, h3⟩
   ·refine Or.inl ⟨by rw [hn, h1]; rfl, ?_⟩
    rw [h2]
    simp
   ·refine Or.inr ⟨i + 1, ?_, by simp; omega, ?_⟩
    ·rw [hn, h1]
     have : ¬ (((i : Int)) == -1) = true := by rw [beq_iff_eq]; omega
     rw [if_neg this]
     omega
    ·rw [h3]
     simp
theorem splitK_two : ∀ (n : Nat) (s : List UInt8), s.length ≤ n → Lib.splitK sepL 0 (Lib.count s sepL) s = go2 [] s := by
 intro n
 induction n with
 | zero =>
  intro s h
  obtain rfl := List.eq_nil_of_length_eq_zero (Nat.le_zero.1 h)
  rw [Lib.count_miss (by rfl)]
  simp [Lib.splitK, go2]
 | succ n ih =>
  intro s h
  rcases split2_at s.length s [] (Nat.le_refl _) with ⟨h1, h2⟩ | ⟨i, h1, h2, h3⟩
  ·rw [Lib.count_miss h1, h2]
   rfl
  ·rw [Lib.count_hit (by simp [sepL]) h1, Nat.add_comm, Lib.splitK, h1]
   have : ¬ (((i : Int)) == -1) = true := by rw [beq_iff_eq]; omega
   rw [if_neg this, Int.toNat_natCast, h3]
   have e : sepL.length = 2 := rfl
   rw [e, ih _ (by rw [List.length_drop]; omega)]
   simp
theorem splitK_one (c0 : UInt8) : ∀ (n : Nat) (s : List UInt8), s.length ≤ n → Lib.splitK [c0] 0 (Lib.count s [c0]) s = go1 c0 [] s := by
 intro n
 induction n with
 | zero =>
  intro s h
  obtain rfl := List.eq_nil_of_length_eq_zero (Nat.le_zero.1 h)
  rw [Lib.count_miss (by rfl)]
  simp [Lib.splitK, go1]
 | succ n ih =>
  intro s h
  rcases split1_at c0 s [] with ⟨h1, h2⟩ | ⟨i, h1, h2, h3⟩
  ·rw [Lib.count_miss h1, h2]
   rfl
  ·rw [Lib.count_hit (by simp) h1, Nat.add_comm, Lib.splitK, h1]
   have : ¬ (((i : Int)) == -1) = true := by rw [beq_iff_eq]; omega
   rw [if_neg this, Int.toNat_natCast, h3]
   have e : [c0].length = 1 := rfl
   rw [e, ih _ (by rw [List.length_drop]; omega)]
   simp
theorem map_eta : ∀ (l : List ByteArray) (xs : List (List UInt8)), l.map (·.data.toList) = xs → l = xs.map Bs := by
 intro l
 induction l with
 | nil => intro xs h; simp at h; subst h; rfl
 | cons x l ih =>
  intro xs h
  cases xs with
  | nil => simp at h
  | cons y ys =>
   rw [List.map_cons] at h
   obtain ⟨h1, h2⟩ := List.cons.inj h
   rw [List.map_cons, ← ih ys h2, ← h1, Bs_eta]
theorem split_two (s : List UInt8) (h : s.length < 4294967281) : strings_Split.f (Bs s) (Bs sepL) = some ((go2 [] s).map Bs) := by
 unfold strings_Split.f splitF
 have hn : 1 ≤ (Bs sepL).size := by rw [Bs_size]; decide
 rw [if_pos ⟨by rw [Bs_size]; exact h, hn⟩]
 refine congrArg some (map_eta _ _ ?_)
 rw [Lib.splitB_data]
 have : Lib.countB (Bs s) (Bs sepL) = Lib.count s sepL := by unfold Lib.countB; rw [Bs_data, Bs_data]
 rw [this, Bs_data, Bs_data, splitK_two s.length s (Nat.le_refl _)]
theorem split_one (s : List UInt8) (h : s.length < 4294967281) : strings_Split.f (Bs s) (Bs [32]) = some ((go1 32 [] s).map Bs) := by
 unfold strings_Split.f splitF
 have hn : 1 ≤ (Bs [32]).size := by rw [Bs_size]; decide
 rw [if_pos ⟨by rw [Bs_size]; exact h, hn⟩]
 refine congrArg some (map_eta _ _ ?_)
 rw [Lib.splitB_data]
 have : Lib.countB (Bs s) (Bs [32]) = Lib.count s [32] := by unfold Lib.countB; rw [Bs_data, Bs_data]
 rw [this, Bs_data, Bs_data, splitK_one 32 s.length s (Nat.le_refl _)]
theorem digitVal_some {c : UInt8} {d : Nat} (h : Lib.digitVal c = some d) : 48 ≤ c.toNat ∧ c.toNat ≤ 57 ∧ d = c.toNat - 48 := by
 unfold Lib.digitVal at h
 split at h
 ·rename_i q
  have := Option.some.inj h
  omega
 ·cases h
theorem digitVal_in {c : UInt8} (h0 : 48 ≤ c.toNat) (h1 : c.toNat ≤ 57) : Lib.digitVal c = some (c.toNat - 48) := by
 unfold Lib.digitVal
 rw [if_pos (by omega)]
theorem digitVal_out {c : UInt8} (h : c.toNat < 48 ∨ 57 < c.toNat) : Lib.digitVal c = none := by
 unfold Lib.digitVal
 rw [if_neg (by omega)]
theorem byte_nat {u : Nat} (h : u < 10) : (UInt8.ofNat (48 + u)).toNat = 48 + u := by
 rw [UInt8.toNat_ofNat']
 omega
theorem digitVal_byte {u : Nat} (h : u < 10) : Lib.digitVal (UInt8.ofNat (48 + u)) = some u := by
 rw [digitVal_in (by rw [byte_nat h]; omega) (by rw [byte_nat h]; omega), byte_nat h]
 congr 1
 omega
theorem byte_of_digit {c : UInt8} {d : Nat} (h : Lib.digitVal c = some d) : d < 10 ∧ c = UInt8.ofNat (48 + d) := by
 obtain ⟨h0, h1, rfl⟩ := digitVal_some h
 refine ⟨by omega, ?_⟩
 apply UInt8.toNat_inj.1
 rw [byte_nat (by omega)]
 omega
theorem decFrom_snoc : ∀ (l : List UInt8) (acc : Nat) (c : UInt8), Lib.decFrom acc (l ++ [c]) = (Lib.decFrom acc l).bind fun n => (Lib.digitVal c).map fun d => n * 10 + d := by
 intro l
 induction l with
 | nil =>
  intro acc c
  rw [List.nil_append]
  simp only [Lib.decFrom]
  cases Lib.digitVal c <;> rfl
 | cons b l ih =>
  intro acc c
  rw [List.cons_append]
  simp only [Lib.decFrom]
  cases Lib.digitVal b with
  | none => rfl
  | some d => exact ih _ _
theorem decFrom_dec : ∀ u : Nat, Lib.decFrom 0 (Lib.decDigits u) = some u := by
 intro u
 induction u using Nat.strongRecOn with
 | _ u ih =>
  by_cases h : u < 10
  ·rw [Lib.decDigits, dif_pos h]
   simp only [Lib.decFrom, digitVal_byte h]
   simp
  ·rw [Lib.decDigits, dif_neg h, decFrom_snoc, ih (u / 10) (by omega), Option.bind_some, digitVal_byte (by omega)]
   show some (u / 10 * 10 + u % 10) = some u
   congr 1
   omega
theorem dec_inv : ∀ (n : Nat) (l : List UInt8) (v : Nat), l.length = n → l ≠ [] → Lib.decFrom 0 l = some v → (l.head? ≠ some 48 ∨ l.length = 1) → l = Lib.decDigits v := by
 intro n
 induction n with
 | zero => intro l v h hne; exact absurd (List.eq_nil_of_length_eq_zero h) hne
 | succ n ih =>
  intro l v hl hne hd hh
  obtain ⟨l', c, rfl⟩ : ∃ l' c, l = l' ++ [c] := ⟨l.dropLast, l.getLast hne, (List.dropLast_concat_getLast hne).symm⟩
  rw [decFrom_snoc] at hd
  cases hp : Lib.decFrom 0 l' with
  | none => rw [hp] at hd; cases hd
  | some m =>
   rw [hp, Option.bind_some] at hd
   cases hc : Lib.digitVal c with
   | none => rw [hc] at hd; cases hd
   | some d =>
    rw [hc] at hd
    have hv : m * 10 + d = v := Option.some.inj hd
    obtain ⟨hd10, hcb⟩ := byte_of_digit hc
    by_cases h0 : l' = []
    ·subst h0
     have hm : m = 0 := by
      have : Lib.decFrom 0 [] = some 0 := rfl
      rw [this] at hp
      exact (Option.some.inj hp).symm
     rw [Lib.decDigits, dif_pos (by omega), hcb, ← hv, hm]
     simp
    ·have hlen : (l' ++ [c]).length ≠ 1 := by
      have := List.length_pos_iff.2 h0
      rw [List.length_append]
      simp
      omega
     have hh2 : l'.head? ≠ some 48 := by
      rcases hh with hh | hh
      ·cases l' with
       | nil => exact absurd rfl h0
       | cons a t => simpa using hh
      ·exact absurd hh hlen
     have e := ih l' m (by rw [List.length_append] at hl; simpa using hl) h0 hp (Or.inl hh2)
     have hm : 0 < m := by
      rcases Nat.eq_zero_or_pos m with q | q
      ·exfalso
       subst q
       rw [Lib.decDigits, dif_pos (by omega)] at e
       rw [e] at hh2
       exact hh2 rfl
      ·exact q
     rw [Lib.decDigits, dif_neg (by omega), hcb, ← hv, show (m * 10 + d) / 10 = m by omega, show (m * 10 + d) % 10 = d by omega, ← e]
theorem dec_head : ∀ u : Nat, 0 < u → (Lib.decDigits u).head? ≠ some 48 := by
 intro u
 induction u using Nat.strongRecOn with
 | _ u ih =>
  intro h0
  by_cases h : u < 10
  ·rw [Lib.decDigits, dif_pos h]
   intro e
   have e2 : UInt8.ofNat (48 + u) = 48 := by simpa using e
   have := congrArg UInt8.toNat e2
   rw [byte_nat h] at this
   have h48 : (48 : UInt8).toNat = 48 := rfl
   omega
  ·rw [Lib.decDigits, dif_neg h]
   have := ih (u / 10) (by omega) (by omega)
   have hne := dec_ne (u / 10)
   cases hd : Lib.decDigits (u / 10) with
   | nil => exact absurd hd hne
   | cons a t => rw [hd] at this; simpa using this
theorem dec_digit : ∀ (u : Nat) (c : UInt8), c ∈ Lib.decDigits u → 48 ≤ c.toNat ∧ c.toNat ≤ 57 := by
 intro u
 induction u using Nat.strongRecOn with
 | _ u ih =>
  intro c hc
  by_cases h : u < 10
  ·rw [Lib.decDigits, dif_pos h, List.mem_singleton] at hc
   rw [hc, byte_nat h]
   omega
  ·rw [Lib.decDigits, dif_neg h, List.mem_append, List.mem_singleton] at hc
   rcases hc with hc | hc
   ·exact ih (u / 10) (by omega) c hc
   ·rw [hc, byte_nat (by omega)]
    omega
theorem dec_short {u : Nat} (h : u < 10000) : (Lib.decDigits u).length ≤ 4 := by
 have one : ∀ v : Nat, v < 10 → (Lib.decDigits v).length = 1 := fun v hv => by rw [Lib.decDigits, dif_pos hv]; rfl
 have step : ∀ v : Nat, ¬ v < 10 → (Lib.decDigits v).length = (Lib.decDigits (v / 10)).length + 1 := fun v hv => by
  conv => lhs; rw [Lib.decDigits, dif_neg hv]
  rw [List.length_append]
  rfl
 by_cases h1 : u < 10
 ·rw [one u h1]; omega
 rw [step u h1]
 by_cases h2 : u / 10 < 10
 ·rw [one _ h2]; omega
 rw [step _ h2]
 by_cases h3 : u / 10 / 10 < 10
 ·rw [one _ h3]; omega
 rw [step _ h3, one _ (by omega)]
 omega
theorem bt_Bs (q : List UInt8) (j : Nat) (h : j < q.length) : bt (Bs q) (j : Int) = (q[j].toNat : Int) := by
 unfold bt
 have hs : ((j : Int)).toNat < (Bs q).size := by rw [Bs_size, Int.toNat_natCast]; exact h
 rw [dif_pos hs]
 rfl
/-- How the reading of a number ends: i is where its digits begin, v what they spell. -/
def finR (q : List UInt8) (i : Nat) (neg : Bool) (v : Nat) : Int × Bool := if q[i]? = some 48 ∧ (neg = true ∨ 1 < q.length) then (0, false) else if neg = true then (-(v : Int), true) else ((v : Int), true)
theorem read_loop (q : List UInt8) (i : Nat) (neg : Bool) (hi : i < q.length) (hq : q.length ≤ 100) : ∀ (m j n : Nat), j + m = q.length → (n + 1) * 10 ^ m ≤ 10 ^ 13 →
  (Lib.decFrom n (q.drop j) = none ∧ ∀ k, m + 3 ≤ k → spec_l1Read.l0 k (Bs q) (i : Int) neg (n : Int) (j : Int) = some (0, false)) ∨
  (∃ v, Lib.decFrom n (q.drop j) = some v ∧ ∀ k, m + 3 ≤ k → spec_l1Read.l0 k (Bs q) (i : Int) neg (n : Int) (j : Int) = some (finR q i neg v)) := by
 intro m
 induction m with
 | zero =>
  intro j n hj hn
  refine Or.inr ⟨n, by rw [List.drop_of_length_le (by omega)]; rfl, fun k hk => ?_⟩
  obtain ⟨k, rfl⟩ : ∃ t, k = t + 2 := ⟨k - 2, by omega⟩
  have hn2 : n + 1 ≤ 10000000000000 := by simpa using hn
  have wn : wrap64 (-(n : Int)) = -(n : Int) := wrap_id (by omega) (by omega)
  have hqi : q[i]? = some q[i] := List.getElem?_eq_getElem hi
  rw [spec_l1Read.l0, Bs_size, if_neg (by omega), if_pos (by omega), if_pos (by omega), bt_Bs q i hi]
  unfold finR
  rw [hqi]
  have j4 : ∀ y : Bool, spec_l1Read.j4 (k + 1) neg (n : Int) y = some (if y = true then (0, false) else if neg = true then (-(n : Int), true) else ((n : Int), true)) := fun y => by
   rw [spec_l1Read.j4, wn]
   cases y
   ·cases neg <;> rfl
   ·rfl
  by_cases h48 : q[i].toNat = 48
  ·have e48 : q[i] = 48 := UInt8.toNat_inj.1 h48
   rw [if_pos (by omega)]
   cases neg
   ·rw [if_neg (by simp), j4]
    by_cases hl : 1 < q.length
    ·have hz : (q.length : Int) > 1 := by omega
     rw [decide_eq_true hz, if_pos rfl, if_pos ⟨by rw [e48], Or.inr hl⟩]
    ·have hz : ¬ (q.length : Int) > 1 := by omega
     have hc : ¬ (some q[i] = some 48 ∧ (false = true ∨ 1 < q.length)) := fun hh => hh.2.elim (fun h => by cases h) hl
     rw [decide_eq_false hz, if_neg (by simp), if_neg (by simp), if_neg hc]
   ·rw [if_pos rfl, j4, if_pos rfl, if_pos ⟨by rw [e48], Or.inl rfl⟩]
  ·have hc : ¬ (some q[i] = some 48 ∧ (neg = true ∨ 1 < q.length)) := by
    intro hh
    exact h48 (by rw [Option.some.inj hh.1]; rfl)
   rw [if_neg (by omega), j4, if_neg (by simp), if_neg hc]
 | succ m ih =>
  intro j n hj hn
  have hlt : j < q.length := by omega
  have hd : q.drop j = q[j] :: q.drop (j + 1) := List.drop_eq_getElem_cons hlt
  by_cases h0 : q[j].toNat < 48
  ·refine Or.inl ⟨by rw [hd]; simp only [Lib.decFrom, digitVal_out (Or.inl h0)], fun k hk => ?_⟩
   obtain ⟨k, rfl⟩ : ∃ t, k = t + 1 := ⟨k - 1, by omega⟩
   rw [spec_l1Read.l0, Bs_size, if_pos (by omega), if_pos (by omega), bt_Bs q j hlt, if_pos (by omega)]
  by_cases h1 : 57 < q[j].toNat
  ·refine Or.inl ⟨by rw [hd]; simp only [Lib.decFrom, digitVal_out (Or.inr h1)], fun k hk => ?_⟩
   obtain ⟨k, rfl⟩ : ∃ t, k = t + 1 := ⟨k - 1, by omega⟩
   rw [spec_l1Read.l0, Bs_size, if_pos (by omega), if_pos (by omega), bt_Bs q j hlt, if_neg (by omega), if_pos (by omega)]
  have hpow : 10 ^ (m + 1) = 10 ^ m * 10 := Nat.pow_succ ..
  have hn2 : (n * 10 + (q[j].toNat - 48) + 1) * 10 ^ m ≤ 10 ^ 13 := by
   refine Nat.le_trans ?_ hn
   rw [hpow, ← Nat.mul_assoc, Nat.mul_right_comm]
   exact Nat.mul_le_mul_right _ (by omega)
  have hp1 : 1 ≤ 10 ^ m := Nat.one_le_pow _ _ (by decide)
  have hn3 : n * 10 + (q[j].toNat - 48) + 1 ≤ 10000000000000 := by
   have e13 : (10 : Nat) ^ 13 = 10000000000000 := by decide
   rw [e13] at hn2
   exact Nat.le_trans (Nat.le_mul_of_pos_right _ hp1) hn2
  have hdf : Lib.decFrom n (q.drop j) = Lib.decFrom (n * 10 + (q[j].toNat - 48)) (q.drop (j + 1)) := by
   rw [hd]
   simp only [Lib.decFrom, digitVal_in (by omega : 48 ≤ q[j].toNat) (by omega)]
  have step : ∀ k, spec_l1Read.l0 (k + 1) (Bs q) (i : Int) neg (n : Int) (j : Int) = spec_l1Read.l0 k (Bs q) (i : Int) neg ((n * 10 + (q[j].toNat - 48) : Nat) : Int) ((j + 1 : Nat) : Int) := fun k => by
   rw [spec_l1Read.l0, Bs_size, if_pos (by omega), if_pos (by omega), bt_Bs q j hlt, if_neg (by omega), if_neg (by omega), wrap_id (x := (n : Int) * 10) (by omega) (by omega), wrap_id (x := (j : Int) + 1) (by omega) (by omega)]
   have e1 : ((q[j].toNat : Int) - 48) % 256 = ((q[j].toNat - 48 : Nat) : Int) := by omega
   have e2 : wrap64 ((n : Int) * 10 + ((q[j].toNat - 48 : Nat) : Int)) = ((n * 10 + (q[j].toNat - 48) : Nat) : Int) := by rw [wrap_id (by omega) (by omega)]; omega
   have e3 : (j : Int) + 1 = ((j + 1 : Nat) : Int) := by omega
   rw [e1, e2, e3]
  rcases ih (j + 1) _ (by omega) hn2 with ⟨e1, e2⟩ | ⟨v, e1, e2⟩
  ·refine Or.inl ⟨by rw [hdf]; exact e1, fun k hk => ?_⟩
   obtain ⟨k, rfl⟩ : ∃ t, k = t + 1 := ⟨k - 1, by omega⟩
   rw [step]
   exact e2 k (by omega)
  ·refine Or.inr ⟨v, by rw [hdf]; exact e1, fun k hk => ?_⟩
   obtain ⟨k, rfl⟩ : ∃ t, k = t + 1 := ⟨k - 1, by omega⟩
   rw [step]
   exact e2 k (by omega)
/-- What the reference reads: a number from 0 on is read of its own text alone. -/
theorem spec_read (q : List UInt8) (hq : q.length ≤ 1048576) : ∃ v ok, (∀ k, 30 ≤ k → spec_l1Read.f k (Bs q) = some (v, ok)) ∧ (ok = true → 0 ≤ v → q = Lib.decDigits v.toNat) := by
 have bad : ∀ (i : Nat) (neg : Bool), i ≤ 1 → (∀ k, 3 ≤ k → spec_l1Read.j1 k (Bs q) (i : Int) neg = some (0, false)) ∨ (i < q.length ∧ q.length - i ≤ 12) := by
  intro i neg hi1
  by_cases h : i < q.length ∧ q.length - i ≤ 12
  ·exact Or.inr h
  ·refine Or.inl fun k hk => ?_
   obtain ⟨k, rfl⟩ : ∃ t, k = t + 2 := ⟨k - 2, by omega⟩
   rw [spec_l1Read.j1, Bs_size]
   by_cases hw : wrap64 ((q.length : Int) - (i : Int)) < 1
   ·rw [if_pos hw, spec_l1Read.j2, if_pos rfl]
   ·have : wrap64 ((q.length : Int) - (i : Int)) > 12 := by
     unfold wrap64 at hw ⊢
     omega
    rw [if_neg hw, decide_eq_true this, spec_l1Read.j2, if_pos rfl]
 have good : ∀ (i : Nat) (neg : Bool), i ≤ 1 → i < q.length → q.length - i ≤ 12 → ∃ v ok, (∀ k, 20 ≤ k → spec_l1Read.j1 k (Bs q) (i : Int) neg = some (v, ok)) ∧ (ok = true → ∃ u, Lib.decFrom 0 (q.drop i) = some u ∧ ¬ (q[i]? = some 48 ∧ (neg = true ∨ 1 < q.length)) ∧ v = if neg = true then -(u : Int) else (u : Int)) := by
  intro i neg hi1 hi hl
  have hj : ∀ k, spec_l1Read.j1 (k + 2) (Bs q) (i : Int) neg = spec_l1Read.l0 k (Bs q) (i : Int) neg ((0 : Nat) : Int) (i : Int) := fun k => by
   rw [spec_l1Read.j1, Bs_size, wrap_id (by omega) (by omega), if_neg (by omega), decide_eq_false (by omega), spec_l1Read.j2, if_neg (by simp)]
   rfl
  have hb : (0 + 1) * 10 ^ (q.length - i) ≤ 10 ^ 13 := by
   rw [Nat.zero_add, Nat.one_mul]
   exact Nat.pow_le_pow_right (by decide) (by omega)
  rcases read_loop q i neg hi (by omega) (q.length - i) i 0 (by omega) hb with ⟨e1, e2⟩ | ⟨u, e1, e2⟩
  ·refine ⟨0, false, fun k hk => ?_, fun h => by cases h⟩
   obtain ⟨k, rfl⟩ : ∃ t, k = t + 2 := ⟨k - 2, by omega⟩
   rw [hj]
   exact e2 k (by omega)
  ·refine ⟨(finR q i neg u).1, (finR q i neg u).2, fun k hk => ?_, fun h => ?_⟩
   ·obtain ⟨k, rfl⟩ : ∃ t, k = t + 2 := ⟨k - 2, by omega⟩
    rw [hj]
    exact e2 k (by omega)
   ·refine ⟨u, e1, ?_⟩
    unfold finR at h ⊢
    by_cases hc : q[i]? = some 48 ∧ (neg = true ∨ 1 < q.length)
    ·rw [if_pos hc] at h; cases h
    ·rw [if_neg hc]
     refine ⟨hc, ?_⟩
     cases neg <;> rfl
 cases hqq : q with
 | nil =>
  refine ⟨0, false, fun k hk => ?_, fun h => by cases h⟩
  obtain ⟨k, rfl⟩ : ∃ t, k = t + 3 := ⟨k - 3, by omega⟩
  unfold spec_l1Read.f
  rw [Bs_list, if_pos rfl, spec_l1Read.j0, if_neg (by simp), spec_l1Read.j1, Bs_size]
  have hw : wrap64 ((([] : List UInt8).length : Int) - 0) < 1 := by rw [wrap_id (by simp) (by simp)]; simp
  rw [if_pos hw, spec_l1Read.j2, if_pos rfl]
 | cons c r =>
  rw [← hqq]
  have hlen : 0 < q.length := by rw [hqq]; simp
  have hf : ∀ k, spec_l1Read.f (k + 1) (Bs q) = if c.toNat = 45 then spec_l1Read.j1 k (Bs q) ((1 : Nat) : Int) true else spec_l1Read.j1 k (Bs q) ((0 : Nat) : Int) false := fun k => by
   have hb : bt (Bs q) 0 = (c.toNat : Int) := by
    have := bt_Bs q 0 hlen
    simp only [hqq] at this ⊢
    exact this
   unfold spec_l1Read.f
   rw [Bs_list, if_neg (by rw [hqq]; simp), Bs_size, if_pos (by omega), hb, spec_l1Read.j0]
   by_cases h45 : c.toNat = 45
   ·have : ((c.toNat : Int) == 45) = true := by rw [beq_iff_eq]; omega
    rw [this, if_pos rfl, if_pos h45]
    rfl
   ·have : ((c.toNat : Int) == 45) = false := by rw [beq_eq_false_iff_ne]; omega
    rw [this, if_neg (by simp), if_neg h45]
    rfl
  by_cases h45 : c.toNat = 45
  ·rcases bad 1 true (by omega) with hbad | ⟨g1, g2⟩
   ·refine ⟨0, false, fun k hk => ?_, fun h => by cases h⟩
    obtain ⟨k, rfl⟩ : ∃ t, k = t + 1 := ⟨k - 1, by omega⟩
    rw [hf, if_pos h45]
    exact hbad k (by omega)
   ·obtain ⟨v, ok, e, p⟩ := good 1 true (by omega) g1 g2
    refine ⟨v, ok, fun k hk => ?_, fun h h0 => ?_⟩
    ·obtain ⟨k, rfl⟩ : ∃ t, k = t + 1 := ⟨k - 1, by omega⟩
     rw [hf, if_pos h45]
     exact e k (by omega)
    ·exfalso
     obtain ⟨u, hu, hn, hv⟩ := p h
     rw [if_pos rfl] at hv
     have hu0 : u = 0 := by omega
     subst hu0
     have hne : q.drop 1 ≠ [] := by
      intro e0
      have := congrArg List.length e0
      rw [List.length_drop] at this
      simp at this
      omega
     have hh : (q.drop 1).head? = q[1]? := by rw [List.head?_drop]
     have hq1 : q[1]? ≠ some 48 := fun e0 => hn ⟨e0, Or.inl rfl⟩
     have := dec_inv _ (q.drop 1) 0 rfl hne hu (Or.inl (by rw [hh]; exact hq1))
     rw [Lib.decDigits, dif_pos (by omega)] at this
     rw [this] at hh
     exact hq1 (by rw [← hh]; rfl)
  ·rcases bad 0 false (by omega) with hbad | ⟨g1, g2⟩
   ·refine ⟨0, false, fun k hk => ?_, fun h => by cases h⟩
    obtain ⟨k, rfl⟩ : ∃ t, k = t + 1 := ⟨k - 1, by omega⟩
    rw [hf, if_neg h45]
    exact hbad k (by omega)
   ·obtain ⟨v, ok, e, p⟩ := good 0 false (by omega) g1 g2
    refine ⟨v, ok, fun k hk => ?_, fun h h0 => ?_⟩
    ·obtain ⟨k, rfl⟩ : ∃ t, k = t + 1 := ⟨k - 1, by omega⟩
     rw [hf, if_neg h45]
     exact e k (by omega)
    ·obtain ⟨u, hu, hn, hv⟩ := p h
     rw [if_neg (by simp)] at hv
     rw [hv, Int.toNat_natCast]
     refine dec_inv _ q u rfl (by rw [hqq]; simp) (by simpa using hu) ?_
     by_cases h48 : q.head? = some 48
     ·refine Or.inr ?_
      have : ¬ 1 < q.length := fun hl => hn ⟨by rw [← List.head?_eq_getElem?]; exact h48, Or.inr hl⟩
      omega
     ·exact Or.inl h48
theorem spec_read_dec {u : Nat} (h : u < 10000) (k : Nat) (hk : 30 ≤ k) : spec_l1Read.f k (Bs (Lib.decDigits u)) = some ((u : Int), true) := by
 have hl := dec_short h
 generalize hq : Lib.decDigits u = q at hl
 have hne : q ≠ [] := by rw [← hq]; exact dec_ne u
 have hlen : 0 < q.length := List.length_pos_iff.2 hne
 have hd : Lib.decFrom 0 q = some u := by rw [← hq]; exact decFrom_dec u
 have hb : (0 + 1) * 10 ^ q.length ≤ 10 ^ 13 := by
  rw [Nat.zero_add, Nat.one_mul]
  exact Nat.pow_le_pow_right (by decide) (by omega)
 have h0 : q[0].toNat ≠ 45 := by
  have := dec_digit u q[0] (by rw [hq]; exact List.getElem_mem hlen)
  omega
 obtain ⟨k, rfl⟩ : ∃ t, k = t + 3 := ⟨k - 3, by omega⟩
 have hbt := bt_Bs q 0 hlen
 have h45 : (bt (Bs q) 0 == 45) = false := by
  rw [beq_eq_false_iff_ne]
  have e0 : bt (Bs q) 0 = (q[0].toNat : Int) := hbt
  rw [e0]
  omega
 unfold spec_l1Read.f
 rw [Bs_list, if_neg hne, Bs_size, if_pos (by omega), h45, spec_l1Read.j0, if_neg (by simp), spec_l1Read.j1, Bs_size, wrap_id (by omega) (by omega), if_neg (by omega), decide_eq_false (by omega), spec_l1Read.j2, if_neg (by simp)]
 rcases read_loop q 0 false hlen (by omega) q.length 0 0 (by omega) hb with ⟨e1, e2⟩ | ⟨v, e1, e2⟩
 ·rw [List.drop_zero, hd] at e1; cases e1
 ·rw [List.drop_zero, hd] at e1
  obtain rfl := Option.some.inj e1
  have e3 := e2 k (by omega)
  have hfin : finR q 0 false u = ((u : Int), true) := by
   unfold finR
   rw [if_neg, if_neg (by simp)]
   rintro ⟨h48, h1 | h1⟩
   ·cases h1
   ·rcases Nat.eq_zero_or_pos u with hz | hz
    ·rw [← hq, hz, Lib.decDigits, dif_pos (by omega)] at h1
     simp at h1
    ·have := dec_head u hz
     rw [hq, List.head?_eq_getElem?] at this
     exact this h48
  rw [hfin] at e3
  exact e3
theorem ext_Bs (s : List UInt8) (a b : Nat) : (Bs s).extract a b = Bs ((s.drop a).take (b - a)) := by
 rw [Lib.extract_eq, Bs_data]
 rfl
theorem bt_is (s : List UInt8) (j : Nat) (h : j < s.length) (c : UInt8) : (bt (Bs s) (j : Int) = (c.toNat : Int)) ↔ s[j] = c := by
 rw [bt_Bs s j h]
 constructor
 ·intro e
  apply UInt8.toNat_inj.1
  omega
 ·intro e
  rw [e]
theorem cur_more (s : List UInt8) (fr j : Nat) (h : fr ≤ j) (hj : j < s.length) : (s.drop fr).take (j + 1 - fr) = (s.drop fr).take (j - fr) ++ [s[j]] := by
 have e : j + 1 - fr = (j - fr) + 1 := by omega
 have hl : j - fr < (s.drop fr).length := by rw [List.length_drop]; omega
 rw [e, List.take_succ_eq_append_getElem hl]
 congr 2
 rw [List.getElem_drop]
 congr 1
 omega
theorem spec_split_loop (s : List UInt8) (hs : s.length ≤ 4294967296) : ∀ (m j fr k : Nat) (out : List ByteArray), j + m = s.length → fr ≤ j → out.length + m ≤ 4294967296 → m + 3 ≤ k → spec_l1Split.l0 k (Bs s) 32 out (fr : Int) (j : Int) = some (out ++ (go1 32 ((s.drop fr).take (j - fr)) (s.drop j)).map Bs) := by
 intro m
 induction m with
 | zero =>
  intro j fr k out hj hf ho hk
  obtain ⟨k, rfl⟩ : ∃ q, k = q + 2 := ⟨k - 2, by omega⟩
  rw [spec_l1Split.l0, Bs_size, if_pos (by omega), if_pos (by omega), if_pos (by omega), if_pos (by omega), if_pos (by omega), wrap_id (by omega) (by omega), spec_l1Split.l0, Bs_size, if_neg (by omega), Int.toNat_natCast, Int.toNat_natCast, ext_Bs, List.drop_of_length_le (show s.length ≤ j by omega), go1]
  rfl
 | succ m ih =>
  intro j fr k out hj hf ho hk
  obtain ⟨k, rfl⟩ : ∃ q, k = q + 1 := ⟨k - 1, by omega⟩
  have hlt : j < s.length := by omega
  have hd : s.drop j = s[j] :: s.drop (j + 1) := List.drop_eq_getElem_cons hlt
  have nx : wrap64 ((j : Int) + 1) = ((j + 1 : Nat) : Int) := by rw [wrap_id (by omega) (by omega)]; omega
  rw [spec_l1Split.l0, Bs_size, if_pos (by omega), if_neg (by omega), if_pos (by omega), if_pos (by omega), hd, go1, nx]
  by_cases h32 : s[j] = 32
  ·have hb : bt (Bs s) (j : Int) = 32 := (bt_is s j hlt 32).2 h32
   rw [if_pos hb, if_pos h32, if_pos (by omega), if_pos (by omega), if_pos (by omega), Int.toNat_natCast, Int.toNat_natCast, ext_Bs, ih (j + 1) (j + 1) k _ (by omega) (Nat.le_refl _) (by rw [List.length_append]; simp; omega) (by omega)]
   simp
  ·have hb : ¬ bt (Bs s) (j : Int) = 32 := fun e => h32 ((bt_is s j hlt 32).1 e)
   rw [if_neg hb, if_neg h32, ih (j + 1) fr k _ (by omega) (by omega) (by omega) (by omega), cur_more s fr j hf hlt]
theorem spec_split (s : List UInt8) (hs : s.length ≤ 1048576) (k : Nat) (hk : s.length + 3 ≤ k) : spec_l1Split.f k (Bs s) 32 = some ((go1 32 [] s).map Bs) := by
 have := spec_split_loop s (by omega) s.length 0 0 k [] (by omega) (by omega) (by simp; omega) (by omega)
 unfold spec_l1Split.f
 simpa using this
/-- The words of an instruction. -/
def wordsT (op a b : Int) : List (List UInt8) := nameL op :: (if a < 0 then [105, 116] else Lib.decDigits a.toNat) :: (if twoB op = true then [Lib.decDigits b.toNat] else [])
theorem nft : ¬ (false = true) := by simp
theorem tit : true = true := rfl
theorem words_text (op a b : Int) : Lib.join (wordsT op a b) [32] = insT op a b := by
 unfold wordsT insT
 generalize (if a < 0 then ([105, 116] : List UInt8) else Lib.decDigits a.toNat) = A
 cases twoB op
 ·rw [if_neg nft, if_neg nft, join_more _ _ _ (by simp), Lib.join_one]
  simp
 ·rw [if_pos tit, if_pos tit, join_more _ _ _ (by simp), join_more _ _ _ (by simp), Lib.join_one]
  simp
theorem names_fine : ∀ n : Nat, n < 11 → (32 : UInt8) ∉ nameL (n : Int) ∧ (59 : UInt8) ∉ nameL (n : Int) := by decide
theorem names_apart : ∀ n : Nat, n < 11 → ∀ m : Nat, m < 11 → nameL (n : Int) = nameL (m : Int) → n = m := by decide
theorem name_inj {o p : Int} (h0 : 0 ≤ o) (h1 : o ≤ 10) (h2 : 0 ≤ p) (h3 : p ≤ 10) (h : nameL o = nameL p) : o = p := by
 have e1 : o = ((o.toNat : Nat) : Int) := by omega
 have e2 : p = ((p.toNat : Nat) : Int) := by omega
 rw [e1, e2] at h
 have := names_apart o.toNat (by omega) p.toNat (by omega) h
 omega
theorem not_in_dec {c : UInt8} (u : Nat) (h : c.toNat < 48 ∨ 57 < c.toNat) : c ∉ Lib.decDigits u := fun hc => by
 have := dec_digit u c hc
 omega
theorem go1_of_words {op a b : Int} (h : insB op a b = true) : go1 32 [] (insT op a b) = wordsT op a b := by
 obtain ⟨h0, h1, _⟩ := insB_span h
 have e1 : op = ((op.toNat : Nat) : Int) := by omega
 have hn := (names_fine op.toNat (by omega)).1
 rw [← e1] at hn
 have ha : (32 : UInt8) ∉ (if a < 0 then ([105, 116] : List UInt8) else Lib.decDigits a.toNat) := by
  split
  ·decide
  ·exact not_in_dec _ (Or.inl (by decide))
 have hb : (32 : UInt8) ∉ Lib.decDigits b.toNat := not_in_dec _ (Or.inl (by decide))
 have step : ∀ (t cur r : List UInt8), (32 : UInt8) ∉ t → go1 32 cur (t ++ (32 :: r)) = (cur ++ t) :: go1 32 [] r := fun t cur r ht => by
  rw [go1_word 32 t cur _ ht, go1, if_pos rfl]
 have last : ∀ (t cur : List UInt8), (32 : UInt8) ∉ t → go1 32 cur t = [cur ++ t] := fun t cur ht => by
  have := go1_word 32 t cur [] ht
  rw [List.append_nil] at this
  rw [this, go1]
 unfold insT wordsT
 generalize (if a < 0 then ([105, 116] : List UInt8) else Lib.decDigits a.toNat) = A at ha ⊢
 cases twoB op
 ·rw [if_neg nft, if_neg nft, List.append_nil, List.append_assoc]
  show go1 32 [] (nameL op ++ (32 :: A)) = _
  rw [step _ _ _ hn, last _ _ ha]
  rfl
 ·rw [if_pos tit, if_pos tit, List.append_assoc, List.append_assoc]
  show go1 32 [] (nameL op ++ (32 :: (A ++ (32 :: Lib.decDigits b.toNat)))) = _
  rw [step _ _ _ hn, step _ _ _ ha, last _ _ hb]
  rfl
theorem no59 {op a b : Int} (h : insB op a b = true) : (59 : UInt8) ∉ insT op a b := by
 obtain ⟨h0, h1, _⟩ := insB_span h
 have e1 : op = ((op.toNat : Nat) : Int) := by omega
 have hn := (names_fine op.toNat (by omega)).2
 rw [← e1] at hn
 have ha : (59 : UInt8) ∉ (if a < 0 then ([105, 116] : List UInt8) else Lib.decDigits a.toNat) := by
  split
  ·decide
  ·exact not_in_dec _ (Or.inr (by decide))
 have hb : (59 : UInt8) ∉ (if twoB op = true then [32] ++ Lib.decDigits b.toNat else []) := by
  split
  ·rw [List.mem_append]
   rintro (q | q)
   ·exact absurd q (by decide)
   ·exact not_in_dec _ (Or.inr (by decide)) q
  ·simp
 unfold insT
 rw [List.mem_append, List.mem_append, List.mem_append]
 rintro (((q | q) | q) | q)
 ·exact hn q
 ·exact absurd q (by decide)
 ·exact ha q
 ·exact hb q
theorem rdW (W : List (List UInt8)) (j : Nat) (h : j < W.length) : rdOf ByteArray.empty (W.map Bs) (j : Int) = Bs W[j] := by
 unfold rdOf
 rw [Int.toNat_natCast, getD_lt _ (by rw [List.length_map]; exact h), List.getElem_map]
theorem word_len (c : UInt8) : ∀ (r cur : List UInt8), ∀ x ∈ go1 c cur r, x.length ≤ cur.length + r.length := by
 intro r
 induction r with
 | nil => intro cur x hx; simp [go1] at hx; rw [hx]; omega
 | cons d r ih =>
  intro cur x hx
  unfold go1 at hx
  split at hx
  ·rcases List.mem_cons.1 hx with rfl | hx
   ·omega
   ·have := ih [] x hx
    simp at this ⊢
    omega
  ·have := ih (cur ++ [d]) x hx
   simp at this ⊢
   omega
/-- Whether the words are those of an instruction of this kind. -/
def fitsW (W : List (List UInt8)) (o : Int) : Bool := decide (nameL o = W.headD []) && (W.length == if twoB o = true then 3 else 2)
theorem no_second {o a b : Int} (h : insB o a b = true) (ht : twoB o = false) : b = 0 := by
 unfold insB at h
 unfold twoB at ht
 simp only [Bool.or_eq_false_iff, beq_eq_false_iff_ne] at ht
 obtain ⟨t3, t4, t6, t7, t10⟩ := ht
 by_cases c0 : o = 0
 ·rw [if_pos c0] at h; simp at h; exact h.2
 rw [if_neg c0] at h
 by_cases c1 : o = 1 ∨ o = 2 ∨ o = 9
 ·rw [if_pos c1] at h; simp at h; exact h.2
 rw [if_neg c1, if_neg t3, if_neg t4] at h
 by_cases c5 : o = 5
 ·rw [if_pos c5] at h; simp at h; exact h.2
 rw [if_neg c5, if_neg (by omega)] at h
 by_cases c8 : o = 8
 ·rw [if_pos c8] at h; simp at h; exact h.2
 rw [if_neg c8, if_neg t10] at h
 cases h
/-- The word of a context or a number. -/
def aT (a : Int) : List UInt8 := if a < 0 then [105, 116] else Lib.decDigits a.toNat
theorem words_one {o a b : Int} (h : twoB o = false) : wordsT o a b = [nameL o, aT a] := by unfold wordsT aT; rw [h, if_neg nft]
theorem words_two {o a b : Int} (h : twoB o = true) : wordsT o a b = [nameL o, aT a, Lib.decDigits b.toNat] := by unfold wordsT aT; rw [h, if_pos tit]
theorem fits_shape {W : List (List UInt8)} {o : Int} (h : fitsW W o = true) : (twoB o = false ∧ ∃ y, W = [nameL o, y]) ∨ (twoB o = true ∧ ∃ y z, W = [nameL o, y, z]) := by
 unfold fitsW at h
 rw [Bool.and_eq_true] at h
 have hname : nameL o = W.headD [] := of_decide_eq_true h.1
 have hlen := h.2
 cases ht : twoB o with
 | false =>
  rw [ht, if_neg nft] at hlen
  have hl : W.length = 2 := by simpa using hlen
  match W, hl, hname with
  | [x, y], _, hname => exact Or.inl ⟨rfl, y, by rw [hname]; rfl⟩
 | true =>
  rw [ht, if_pos tit] at hlen
  have hl : W.length = 3 := by simpa using hlen
  match W, hl, hname with
  | [x, y, z], _, hname => exact Or.inr ⟨rfl, y, z, by rw [hname]; rfl⟩
theorem spec_third (o a : Int) (is : Bool) (W : List (List UInt8)) (y : List UInt8) (hW : (twoB o = false ∧ W = [nameL o, y]) ∨ (twoB o = true ∧ ∃ z, z.length ≤ 1048576 ∧ W = [nameL o, y, z])) (hA : is = true → y = aT a) :
  ∃ r : Int × Int × Int × Bool, (∀ k, 36 ≤ k → spec_l9Read.j2 k (W.map Bs) o is o a 0 = some r) ∧ (r.2.2.2 = true → insB r.1 r.2.1 r.2.2.1 = true ∧ W = wordsT r.1 r.2.1 r.2.2.1) ∧ (is = true → ∀ b, insB o a b = true → W = wordsT o a b → r = (o, a, b, true)) := by
 have ins3 : ∀ k a b, 3 ≤ k → spec_InsOk.f k o a b = some (insB o a b) := fun k a b hk => by
  obtain ⟨m, rfl⟩ : ∃ m, k = m + 3 := ⟨k - 3, by omega⟩
  exact spec_ins m o a b
 cases is with
 | false =>
  refine ⟨(o, a, 0, false), fun k hk => ?_, fun h => (by cases h), fun h => (by cases h)⟩
  obtain ⟨k, rfl⟩ : ∃ q, k = q + 2 := ⟨k - 2, by omega⟩
  rw [spec_l9Read.j2, if_neg nft, spec_l9Read.j3, if_neg nft, if_neg nft]
 | true =>
  have hy := hA rfl
  rcases hW with ⟨htw, hWe⟩ | ⟨htw, z, hz, hWe⟩
  ·refine ⟨(o, a, 0, insB o a 0), fun k hk => ?_, fun h => ⟨h, ?_⟩, fun _ b hb hw => ?_⟩
   ·obtain ⟨k, rfl⟩ : ∃ q, k = q + 2 := ⟨k - 2, by omega⟩
    rw [spec_l9Read.j2, if_pos tit, spec_two, Option.bind_some, htw, spec_l9Read.j3, if_neg nft, if_pos tit, ins3 k a 0 (by omega)]
    rfl
   ·rw [words_one htw, ← hy]
    exact hWe
   ·have hb0 := no_second hb htw
    rw [hb0] at hb ⊢
    rw [hb]
  ·obtain ⟨v, ok, e, p⟩ := spec_read z hz
   have hr : rdOf ByteArray.empty (W.map Bs) 2 = Bs z := by rw [hWe]; rfl
   have hj : ∀ k, spec_l9Read.j2 (k + 32) (W.map Bs) o true o a 0 = (if ok = true then some (o, a, v, insB o a v) else some (o, a, v, false)) := fun k => by
    rw [spec_l9Read.j2, if_pos tit, spec_two, Option.bind_some, htw, spec_l9Read.j3, if_pos tit, if_pos (by rw [hWe]; simp), hr, e (k + 30) (by omega), Option.bind_some]
    cases ok
    ·rfl
    ·rw [if_pos tit, ins3 _ a v (by omega)]
     rfl
   refine ⟨(if ok = true then (o, a, v, insB o a v) else (o, a, v, false)), fun k hk => ?_, fun h => ?_, fun _ b hb hw => ?_⟩
   ·obtain ⟨k, rfl⟩ : ∃ q, k = q + 32 := ⟨k - 32, by omega⟩
    rw [hj]
    cases ok <;> rfl
   ·cases ok with
    | false => cases h
    | true =>
     rw [if_pos tit] at h ⊢
     simp only at h ⊢
     obtain ⟨_, _, _, _, hv0, _, _⟩ := insB_span h
     refine ⟨h, ?_⟩
     rw [words_two htw, ← hy, ← p rfl hv0]
     exact hWe
   ·obtain ⟨_, _, _, _, hb0, hb1, _⟩ := insB_span hb
    rw [hWe, words_two htw] at hw
    have hw2 : z = Lib.decDigits b.toNat := by
     injection hw with _ hw
     injection hw with _ hw
     injection hw
    have e2 := e 30 (by omega)
    rw [hw2, spec_read_dec (by omega) 30 (by omega)] at e2
    obtain ⟨e3, e4⟩ := Prod.mk.inj (Option.some.inj e2)
    rw [← e4, if_pos tit, ← e3, show ((b.toNat : Nat) : Int) = b by omega, hb]
theorem spec_tail (W : List (List UInt8)) (hl : ∀ x ∈ W, x.length ≤ 1048576) (o : Int) (h0 : 0 ≤ o) (h1 : o ≤ 10) (hf : fitsW W o = true) :
  ∃ r : Int × Int × Int × Bool, (∀ k, 40 ≤ k → spec_l9Read.j1 k (W.map Bs) o false = some r) ∧ (r.2.2.2 = true → insB r.1 r.2.1 r.2.2.1 = true ∧ W = wordsT r.1 r.2.1 r.2.2.1) ∧ (∀ a b, insB o a b = true → W = wordsT o a b → r = (o, a, b, true)) := by
 obtain ⟨y, hy, hW⟩ : ∃ y, y.length ≤ 1048576 ∧ ((twoB o = false ∧ W = [nameL o, y]) ∨ (twoB o = true ∧ ∃ z, z.length ≤ 1048576 ∧ W = [nameL o, y, z])) := by
  rcases fits_shape hf with ⟨ht, y, e⟩ | ⟨ht, y, z, e⟩
  ·exact ⟨y, hl y (by rw [e]; simp), Or.inl ⟨ht, e⟩⟩
  ·exact ⟨y, hl y (by rw [e]; simp), Or.inr ⟨ht, z, hl z (by rw [e]; simp), e⟩⟩
 have hl1 : 1 < W.length := by rcases hW with ⟨_, e⟩ | ⟨_, z, _, e⟩ <;> rw [e] <;> simp
 have hr1 : rdOf ByteArray.empty (W.map Bs) 1 = Bs y := by rcases hW with ⟨_, e⟩ | ⟨_, z, _, e⟩ <;> rw [e] <;> rfl
 have hWa : ∀ a b, W = wordsT o a b → y = aT a := fun a b hw => by
  rcases hW with ⟨ht, e⟩ | ⟨ht, z, _, e⟩
  ·rw [e, words_one ht] at hw
   injection hw with _ hw
   injection hw
  ·rw [e, words_two ht] at hw
   injection hw with _ hw
   injection hw
 by_cases hit : y = [105, 116]
 ·obtain ⟨r, e, p, q⟩ := spec_third o (-1) true W y hW (fun _ => by rw [hit]; rfl)
  refine ⟨r, fun k hk => ?_, p, fun a b hb hw => ?_⟩
  ·obtain ⟨k, rfl⟩ : ∃ q, k = q + 1 := ⟨k - 1, by omega⟩
   rw [spec_l9Read.j1, if_neg nft, if_pos (by rw [List.length_map]; omega), hr1, Bs_list, if_pos hit]
   exact e k (by omega)
  ·obtain ⟨_, _, ha0, _, _, _, _⟩ := insB_span hb
   have ha : a < 0 := by
    rcases Int.lt_or_le a 0 with h | h
    ·exact h
    ·exfalso
     have := hWa a b hw
     unfold aT at this
     rw [if_neg (by omega), hit] at this
     have h105 := dec_digit a.toNat 105 (by rw [← this]; simp)
     have e105 : (105 : UInt8).toNat = 105 := rfl
     omega
   have ha1 : a = -1 := by omega
   subst ha1
   exact q rfl b hb hw
 ·obtain ⟨v, ok, e1, p1⟩ := spec_read y hy
  have hr1b : ∀ k, 40 ≤ k → spec_l9Read.j1 k (W.map Bs) o false = if ok = true then spec_l9Read.j2 (k - 1) (W.map Bs) o (decide (v ≥ 0)) o v 0 else spec_l9Read.j2 (k - 1) (W.map Bs) o false o v 0 := fun k hk => by
   obtain ⟨k, rfl⟩ : ∃ q, k = q + 1 := ⟨k - 1, by omega⟩
   rw [spec_l9Read.j1, if_neg nft, if_pos (by rw [List.length_map]; omega), hr1, Bs_list, if_neg hit, e1 k (by omega), Option.bind_some]
   rfl
  have num : ∀ a b, insB o a b = true → W = wordsT o a b → ok = true ∧ v = a := fun a b hb hw => by
   obtain ⟨_, _, ha0, ha1, _, _, _⟩ := insB_span hb
   have h1w := hWa a b hw
   unfold aT at h1w
   have hneg : ¬ a < 0 := fun h => hit (by rw [h1w, if_pos h])
   rw [if_neg hneg] at h1w
   have e2 := e1 30 (by omega)
   rw [h1w, spec_read_dec (by omega) 30 (by omega)] at e2
   obtain ⟨e3, e4⟩ := Prod.mk.inj (Option.some.inj e2)
   exact ⟨e4.symm, by omega⟩
  have pos : ∀ a b, insB o a b = true → W = wordsT o a b → 0 ≤ a := fun a b hb hw => by
   rcases Int.lt_or_le a 0 with h | h
   ·exfalso
    have h1w := hWa a b hw
    unfold aT at h1w
    exact hit (by rw [h1w, if_pos h])
   ·exact h
  cases hok : (ok && decide (v ≥ 0)) with
  | false =>
   obtain ⟨r, e, p, _⟩ := spec_third o v false W y hW (fun h => (by cases h))
   refine ⟨r, fun k hk => ?_, p, fun a b hb hw => ?_⟩
   ·rw [hr1b k hk]
    cases ok with
    | false => rw [if_neg nft]; exact e _ (by omega)
    | true =>
     rw [Bool.true_and] at hok
     rw [if_pos tit, hok]
     exact e _ (by omega)
   ·exfalso
    obtain ⟨e4, e3⟩ := num a b hb hw
    have := pos a b hb hw
    rw [e4, decide_eq_true (by omega : v ≥ 0)] at hok
    cases hok
  | true =>
   rw [Bool.and_eq_true] at hok
   have hv : v ≥ 0 := of_decide_eq_true hok.2
   obtain ⟨r, e, p, q⟩ := spec_third o v true W y hW (fun _ => by unfold aT; rw [if_neg (by omega)]; exact p1 hok.1 hv)
   refine ⟨r, fun k hk => ?_, p, fun a b hb hw => ?_⟩
   ·rw [hr1b k hk, if_pos hok.1, hok.2]
    exact e _ (by omega)
   ·obtain ⟨_, hva⟩ := num a b hb hw
    subst hva
    exact q rfl b hb hw
theorem fits_words {op a b : Int} : fitsW (wordsT op a b) op = true := by
 unfold fitsW wordsT
 cases twoB op <;> simp
theorem spec_find (W : List (List UInt8)) (hne : W ≠ []) (hl : ∀ x ∈ W, x.length ≤ 1048576) : ∀ (m : Nat) (op : Int), op + m = 11 → 0 ≤ op →
  ∃ r : Int × Int × Int × Bool, (∀ k, 2 * m + 50 ≤ k → spec_l9Read.l0 k (W.map Bs) op = some r) ∧ (r.2.2.2 = true → insB r.1 r.2.1 r.2.2.1 = true ∧ W = wordsT r.1 r.2.1 r.2.2.1) ∧ (∀ o a b, op ≤ o → insB o a b = true → W = wordsT o a b → r = (o, a, b, true)) := by
 intro m
 induction m with
 | zero =>
  intro op ho h0
  refine ⟨(0, 0, 0, false), fun k hk => ?_, fun h => (by cases h), fun o a b h hb => ?_⟩
  ·obtain ⟨k, rfl⟩ : ∃ q, k = q + 1 := ⟨k - 1, by omega⟩
   rw [spec_l9Read.l0, if_neg (by omega)]
  ·obtain ⟨_, h1, _⟩ := insB_span hb
   omega
 | succ m ih =>
  intro op ho h0
  have h1 : op ≤ 10 := by omega
  have hr0 : rdOf ByteArray.empty (W.map Bs) 0 = Bs (W.headD []) := by
   cases W with
   | nil => exact absurd rfl hne
   | cons x t => rfl
  have hl0 : 0 < W.length := List.length_pos_iff.2 hne
  have hj : ∀ k, spec_l9Read.l0 (k + 1) (W.map Bs) op = spec_l9Read.j1 k (W.map Bs) op (!fitsW W op) := fun k => by
   rw [spec_l9Read.l0, if_pos h1, spec_name h0 h1, Option.bind_some, if_pos (by rw [List.length_map]; omega), hr0, Bs_list, Bs_list, List.length_map, spec_two]
   unfold fitsW
   by_cases hn : nameL op = W.headD []
   ·rw [if_pos hn, decide_eq_true hn, Bool.true_and]
    by_cases h2 : W.length = 2
    ·rw [if_pos (by omega), if_neg (by omega), Option.bind_some, h2]
     cases twoB op <;> rfl
    ·rw [if_neg (by omega), Option.bind_some]
     cases twoB op
     ·rw [if_neg (by simp), if_neg (by simp)]
      have : (W.length == 2) = false := beq_eq_false_iff_ne.mpr h2
      rw [this]
      rfl
     ·rw [if_pos rfl, if_pos rfl, Option.bind_some]
      by_cases h3 : W.length = 3
      ·rw [if_pos (by omega), h3]
       rfl
      ·have : (W.length == 3) = false := beq_eq_false_iff_ne.mpr h3
       rw [if_neg (by omega), this]
       rfl
   ·rw [if_neg hn, decide_eq_false hn]
    rfl
  cases hf : fitsW W op with
  | true =>
   obtain ⟨r, e, p, q⟩ := spec_tail W hl op h0 h1 hf
   refine ⟨r, fun k hk => ?_, p, fun o a b hoo hb hw => ?_⟩
   ·obtain ⟨k, rfl⟩ : ∃ q, k = q + 1 := ⟨k - 1, by omega⟩
    rw [hj, hf]
    exact e k (by omega)
   ·have hno : nameL o = nameL op := by
     unfold fitsW at hf
     rw [Bool.and_eq_true] at hf
     have := of_decide_eq_true hf.1
     rw [this, hw]
     rfl
    obtain ⟨g0, g1, _⟩ := insB_span hb
    have := name_inj g0 g1 h0 h1 hno
    subst this
    exact q a b hb hw
  | false =>
   obtain ⟨r, e, p, q⟩ := ih (op + 1) (by omega) (by omega)
   refine ⟨r, fun k hk => ?_, p, fun o a b hoo hb hw => ?_⟩
   ·obtain ⟨k, rfl⟩ : ∃ q, k = q + 2 := ⟨k - 2, by omega⟩
    rw [hj, hf, Bool.not_false, spec_l9Read.j1, if_pos rfl, wrap_id (by omega) (by omega)]
    exact e k (by omega)
   ·have : o ≠ op := fun h => by
     subst h
     rw [hw, fits_words] at hf
     cases hf
    exact q o a b (by omega) hb hw
/-- What the reference reads of a text as an instruction. -/
theorem spec_ins_read (p : List UInt8) (hp : p.length ≤ 1048576) : ∃ r : Int × Int × Int × Bool, (∀ k, p.length + 100 ≤ k → spec_l9Read.f k (Bs p) = some r) ∧ (r.2.2.2 = true → insB r.1 r.2.1 r.2.2.1 = true ∧ p = insT r.1 r.2.1 r.2.2.1) ∧ (∀ o a b, insB o a b = true → p = insT o a b → r = (o, a, b, true)) := by
 obtain ⟨r, e, h1, h2⟩ := spec_find (go1 32 [] p) (go1_ne _ _ _) (fun x hx => by have := word_len 32 p [] x hx; simp at this; omega) 11 0 (by omega) (by omega)
 refine ⟨r, fun k hk => ?_, fun h => ?_, fun o a b hb hw => ?_⟩
 ·unfold spec_l9Read.f
  rw [spec_split p hp k (by omega), Option.bind_some]
  exact e k (by omega)
 ·obtain ⟨q1, q2⟩ := h1 h
  refine ⟨q1, ?_⟩
  have := go1_join 32 p []
  rw [q2, words_text, List.nil_append] at this
  exact this.symm
 ·obtain ⟨g0, _⟩ := insB_span hb
  exact h2 o a b g0 hb (by rw [hw, go1_of_words hb])
theorem number_any (w : List UInt8) (hw : w.length ≤ 1048576) : ∃ v ok, impl_number.f (Bs w) = some (v, ok) ∧ (∀ u : Nat, u < 10000 → w = Lib.decDigits u → v = (u : Int)) := by
 unfold impl_number.f numberF
 rw [Bs_size, if_pos (by omega), Bs_data, Lib.parseIntB_64]
 have dec : ∀ u : Nat, u < 10000 → Lib.atoiAll (Lib.decDigits u) = .ok (u : Int) := by
  intro u hu
  have hs := dec_short hu
  have hd := dec_digit u
  have hf := decFrom_dec u
  have hne := dec_ne u
  generalize Lib.decDigits u = l at hs hd hf hne
  cases l with
  | nil => exact absurd rfl hne
  | cons c r =>
   have hc := hd c (List.mem_cons_self ..)
   rw [Lib.atoiAll_plain c r (by omega) (by omega)]
   have hm : Lib.parseMag (c :: r) = .ok u := by
    unfold Lib.parseMag
    rw [if_neg (by simp), Lib.parseUint10_short (c :: r) 0 0 (by decide) (by omega), hf]
    rfl
   rw [hm]
   show (if 9223372036854775808 ≤ u then Lib.NumEnd.range else Lib.NumEnd.ok (u : Int)) = _
   rw [if_neg (by omega)]
 cases he : Lib.atoiAll w with
 | range => exact ⟨_, _, rfl, fun u hu hq => by rw [hq, dec u hu] at he; cases he⟩
 | ok v =>
  have hb := Lib.atoiAll_bounds he
  simp only
  rw [if_pos hb]
  exact ⟨_, _, rfl, fun u hu hq => by rw [hq, dec u hu] at he; injection he with he; exact he.symm⟩
 | _ => exact ⟨_, _, rfl, fun u hu hq => by rw [hq, dec u hu] at he; cases he⟩
theorem index_words : ∃ W, impl_opWords.f = some W ∧ (W.length : Int) = 11 ∧ ∀ op : Int, 0 ≤ op → op ≤ 10 → rdOf ByteArray.empty W op = Bs (nameL op) := by
 refine ⟨_, rfl, rfl, fun op h0 h1 => ?_⟩
 rcases ops_cases h0 h1 with rfl | rfl | rfl | rfl | rfl | rfl | rfl | rfl | rfl | rfl | rfl <;> rfl
theorem index_any (W : List ByteArray) (hW : (W.length : Int) = 11) (hn : ∀ op : Int, 0 ≤ op → op ≤ 10 → rdOf ByteArray.empty W op = Bs (nameL op)) (w : List UInt8) : ∀ (m : Nat) (i : Int), i + m = 11 → 0 ≤ i → ∃ r, (∀ k, m + 1 ≤ k → slices_Index_string_string.l0 k W (Bs w) 11 i = some r) ∧ (∀ op, i ≤ op → op ≤ 10 → w = nameL op → r = op) := by
 intro m
 induction m with
 | zero =>
  intro i hi h0
  refine ⟨-1, fun k hk => ?_, fun op h1 h2 => by omega⟩
  obtain ⟨k, rfl⟩ : ∃ q, k = q + 1 := ⟨k - 1, by omega⟩
  rw [slices_Index_string_string.l0, if_neg (by omega)]
 | succ m ih =>
  intro i hi h0
  by_cases h : w = nameL i
  ·refine ⟨i, fun k hk => ?_, fun op h1 h2 hq => ?_⟩
   ·obtain ⟨k, rfl⟩ : ∃ q, k = q + 1 := ⟨k - 1, by omega⟩
    rw [slices_Index_string_string.l0, if_pos (by omega), if_pos h0, if_pos (by omega), hn i h0 (by omega), Bs_list, Bs_list, if_pos h]
   ·exact name_inj h0 (by omega) (by omega) h2 (h.symm.trans hq)
  ·obtain ⟨r, e, p⟩ := ih (i + 1) (by omega) (by omega)
   refine ⟨r, fun k hk => ?_, fun op h1 h2 hq => ?_⟩
   ·obtain ⟨k, rfl⟩ : ∃ q, k = q + 1 := ⟨k - 1, by omega⟩
    rw [slices_Index_string_string.l0, if_pos (by omega), if_pos h0, if_pos (by omega), hn i h0 (by omega), Bs_list, Bs_list, if_neg h, wrap_id (by omega) (by omega)]
    exact e k (by omega)
   ·have : op ≠ i := fun e => h (by rw [hq, e])
    exact p op (by omega) h2 hq
/-- What the program reads of a text as an instruction: of an instruction's own text that instruction. -/
theorem impl_ins_read (p : List UInt8) (hp : p.length ≤ 1048576) : ∃ r : Int × Int × Int, (∀ k, 40 ≤ k → impl_readIns.f k (Bs p) = some r) ∧ (∀ o a b, insB o a b = true → p = insT o a b → r = (o, a, b)) := by
 obtain ⟨NW, hN, hNl, hNn⟩ := index_words
 have hw1 := split_one p (by omega)
 have hwl : ∀ x ∈ go1 32 [] p, x.length ≤ 1048576 := fun x hx => by have := word_len 32 p [] x hx; simp at this; omega
 have hback : ∀ o a b, insB o a b = true → p = insT o a b → go1 32 [] p = wordsT o a b := fun o a b hb hw => by rw [hw, go1_of_words hb]
 generalize hG : go1 32 [] p = W at hw1 hwl hback
 have hne : W ≠ [] := by rw [← hG]; exact go1_ne _ _ _
 have hl0 : 0 < W.length := List.length_pos_iff.2 hne
 obtain ⟨ix, eix, pix⟩ := index_any NW hNl hNn W[0] 11 0 (by omega) (by omega)
 have hr0 : rdOf ByteArray.empty (W.map Bs) 0 = Bs W[0] := rdW W 0 hl0
 have eI : ∀ k, 40 ≤ k → slices_Index_string_string.f k NW (rdOf ByteArray.empty (W.map Bs) 0) = some ix := fun k hk => by
  unfold slices_Index_string_string.f
  rw [hNl, hr0]
  exact eix k (by omega)
 have hop : ∀ o a b, insB o a b = true → p = insT o a b → ix = o := fun o a b hb hw => by
  obtain ⟨g0, g1, _⟩ := insB_span hb
  refine pix o (by omega) g1 ?_
  have h2 : W[0]? = some (nameL o) := by rw [hback o a b hb hw]; rfl
  rw [List.getElem?_eq_getElem hl0] at h2
  exact Option.some.inj h2
 have two : ∀ (A : Int), 2 < W.length → ∃ B, impl_number.f (rdOf ByteArray.empty (W.map Bs) 2) = some B ∧ (∀ o a b, insB o a b = true → p = insT o a b → B.1 = b) := fun A h2 => by
  obtain ⟨v, ok, e, q⟩ := number_any W[2] (hwl _ (List.getElem_mem h2))
  refine ⟨(v, ok), by rw [show (2 : Int) = ((2 : Nat) : Int) from rfl, rdW W 2 h2]; exact e, fun o a b hb hw => ?_⟩
  obtain ⟨_, _, _, _, hb0, hb1, _⟩ := insB_span hb
  have hW := hback o a b hb hw
  have htw : twoB o = true := by
   cases h : twoB o with
   | true => rfl
   | false =>
    have h9 : 2 < [nameL o, aT a].length := by
     have h8 := h2
     rw [hW, words_one h] at h8
     exact h8
    simp at h9
  have h3 : W[2]? = some (Lib.decDigits b.toNat) := by rw [hW]; unfold wordsT; rw [htw, if_pos rfl]; rfl
  rw [List.getElem?_eq_getElem h2] at h3
  have := q b.toNat (by omega) (Option.some.inj h3)
  show v = b
  omega
 have nob : ¬ 2 < W.length → ∀ o a b, insB o a b = true → p = insT o a b → b = 0 := fun h2 o a b hb hw => by
  have hW := hback o a b hb hw
  cases h : twoB o with
  | true =>
   exfalso
   apply h2
   rw [hW]
   unfold wordsT
   rw [h, if_pos rfl]
   simp
  | false =>
   unfold insB at hb
   unfold twoB at h
   simp only [Bool.or_eq_false_iff, beq_eq_false_iff_ne] at h
   obtain ⟨t3, t4, t6, t7, t10⟩ := h
   by_cases c0 : o = 0
   ·rw [if_pos c0] at hb; simp at hb; exact hb.2
   rw [if_neg c0] at hb
   by_cases c1 : o = 1 ∨ o = 2 ∨ o = 9
   ·rw [if_pos c1] at hb; simp at hb; exact hb.2
   rw [if_neg c1, if_neg t3, if_neg t4] at hb
   by_cases c5 : o = 5
   ·rw [if_pos c5] at hb; simp at hb; exact hb.2
   rw [if_neg c5, if_neg (by omega)] at hb
   by_cases c8 : o = 8
   ·rw [if_pos c8] at hb; simp at hb; exact hb.2
   rw [if_neg c8, if_neg t10] at hb
   cases hb
 have many : ∀ o a b, insB o a b = true → p = insT o a b → 1 < W.length := fun o a b hb hw => by
  rw [hback o a b hb hw]
  unfold wordsT
  simp
 have hmap : ((W.map Bs).length : Int) = (W.length : Int) := by rw [List.length_map]
 have fin : ∀ (A : Int), (∀ o a b, insB o a b = true → p = insT o a b → A = a) → ∃ r : Int × Int × Int, (if (W.length : Int) > 2 then (if 2 < (W.length : Int) then ((impl_number.f (rdOf ByteArray.empty (W.map Bs) 2)).bind fun bt => (some (ix, A, bt.1))) else (none)) else (some (ix, A, 0))) = some r ∧ (∀ o a b, insB o a b = true → p = insT o a b → r = (o, a, b)) := fun A hA => by
  by_cases h2 : 2 < W.length
  ·obtain ⟨B, e, q⟩ := two A h2
   refine ⟨(ix, A, B.1), ?_, fun o a b hb hw => ?_⟩
   ·rw [if_pos (by omega), if_pos (by omega), e]
    rfl
   ·rw [hop o a b hb hw, hA o a b hb hw, q o a b hb hw]
  ·refine ⟨(ix, A, 0), ?_, fun o a b hb hw => ?_⟩
   ·rw [if_neg (by omega)]
   ·rw [hop o a b hb hw, hA o a b hb hw, nob h2 o a b hb hw]
 by_cases h1 : 1 < W.length
 ·have hr1 : rdOf ByteArray.empty (W.map Bs) 1 = Bs W[1] := rdW W 1 h1
  obtain ⟨v, ok, e, q⟩ := number_any W[1] (hwl _ (List.getElem_mem h1))
  have hWa : ∀ o a b, insB o a b = true → p = insT o a b → W[1] = (if a < 0 then ([105, 116] : List UInt8) else Lib.decDigits a.toNat) := fun o a b hb hw => by
   have h2 : W[1]? = some (if a < 0 then ([105, 116] : List UInt8) else Lib.decDigits a.toNat) := by rw [hback o a b hb hw]; rfl
   rw [List.getElem?_eq_getElem h1] at h2
   exact Option.some.inj h2
  by_cases hit : W[1] = [105, 116]
  ·obtain ⟨r, e2, q2⟩ := fin (-1) (fun o a b hb hw => by
    obtain ⟨_, _, ha0, _, _, _, _⟩ := insB_span hb
    rcases Int.lt_or_le a 0 with h | h
    ·omega
    ·exfalso
     have := hWa o a b hb hw
     rw [if_neg (by omega), hit] at this
     have h105 := dec_digit a.toNat 105 (by rw [← this]; simp)
     have e105 : (105 : UInt8).toNat = 105 := rfl
     omega)
   refine ⟨r, fun k hk => ?_, q2⟩
   unfold impl_readIns.f
   rw [show (⟨#[32]⟩ : ByteArray) = Bs [32] from rfl, hw1, Option.bind_some, hN, Option.bind_some, hmap, if_pos (by omega), eI k hk, Option.bind_some, if_pos (by omega), if_pos (by omega), hr1, e, Option.bind_some, Bs_list, if_pos hit]
   exact e2
  ·obtain ⟨r, e2, q2⟩ := fin v (fun o a b hb hw => by
    obtain ⟨_, _, ha0, ha1, _, _, _⟩ := insB_span hb
    have h1w := hWa o a b hb hw
    have hneg : ¬ a < 0 := fun h => hit (by rw [h1w, if_pos h])
    rw [if_neg hneg] at h1w
    have := q a.toNat (by omega) h1w
    omega)
   refine ⟨r, fun k hk => ?_, q2⟩
   unfold impl_readIns.f
   rw [show (⟨#[32]⟩ : ByteArray) = Bs [32] from rfl, hw1, Option.bind_some, hN, Option.bind_some, hmap, if_pos (by omega), eI k hk, Option.bind_some, if_pos (by omega), if_pos (by omega), hr1, e, Option.bind_some, Bs_list, if_neg hit]
   exact e2
 ·obtain ⟨r, e2, q2⟩ := fin 0 (fun o a b hb hw => absurd (many o a b hb hw) h1)
  refine ⟨r, fun k hk => ?_, q2⟩
  unfold impl_readIns.f
  rw [show (⟨#[32]⟩ : ByteArray) = Bs [32] from rfl, hw1, Option.bind_some, hN, Option.bind_some, hmap, if_pos (by omega), eI k hk, Option.bind_some, if_neg (by omega)]
  exact e2
/-- An instruction that the text is. -/
def rdS (p : List UInt8) (r : Int × Int × Int × Bool) : Prop := (r.2.2.2 = true → insB r.1 r.2.1 r.2.2.1 = true ∧ p = insT r.1 r.2.1 r.2.2.1) ∧ (∀ o a b, insB o a b = true → p = insT o a b → r = (o, a, b, true))
theorem progB_snoc {l : List S34} (h : l.length ≤ 12) (hl : ∀ x ∈ l, insB x.f0 x.f1 x.f2 = true) : progB l = true := by
 unfold progB
 rw [Bool.and_eq_true, allFrom_iff]
 refine ⟨decide_eq_true (by omega), fun j h0 h1 => ?_⟩
 unfold insAt
 have hj : j.toNat < l.length := by omega
 have e : rd_T34 l j = l[j.toNat] := by unfold rd_T34; rw [getD_lt _ hj]
 rw [e]
 exact hl _ (List.getElem_mem hj)
theorem progB_all {l : List S34} (h : progB l = true) : l.length ≤ 12 ∧ ∀ x ∈ l, insB x.f0 x.f1 x.f2 = true := by
 obtain ⟨h1, h2⟩ := progB_at h
 refine ⟨h1, fun x hx => ?_⟩
 obtain ⟨j, hj, rfl⟩ := List.mem_iff_getElem.1 hx
 exact h2 j hj
/-- The texts are those of instructions, at most 12 in all. -/
def allIns (n : Nat) : List (List UInt8) → List S34 → Prop
 | [], xs => xs = []
 | p :: ps, xs => ∃ x t, xs = x :: t ∧ insB x.f0 x.f1 x.f2 = true ∧ p = insT x.f0 x.f1 x.f2 ∧ n < 12 ∧ allIns (n + 1) ps t
theorem allIns_facts : ∀ (ps : List (List UInt8)) (n : Nat) (xs : List S34), allIns n ps xs → insTs xs = ps ∧ (∀ x ∈ xs, insB x.f0 x.f1 x.f2 = true) ∧ (n ≤ 12 → n + xs.length ≤ 12) := by
 intro ps
 induction ps with
 | nil =>
  intro n xs h
  have h : xs = [] := h
  subst h
  exact ⟨rfl, fun x hx => by simp at hx, fun h => by simpa using h⟩
 | cons p ps ih =>
  rintro n xs ⟨x, t, rfl, hb, hp, hn, ht⟩
  obtain ⟨e1, e2, e3⟩ := ih _ _ ht
  refine ⟨?_, ?_, fun _ => ?_⟩
  ·unfold insTs at e1 ⊢
   rw [List.map_cons, e1, ← hp]
  ·intro y hy
   rcases List.mem_cons.1 hy with rfl | hy
   ·exact hb
   ·exact e2 y hy
  ·have := e3 (by omega)
   rw [List.length_cons]
   omega
theorem allIns_of : ∀ (xs : List S34) (n : Nat), (∀ x ∈ xs, insB x.f0 x.f1 x.f2 = true) → n + xs.length ≤ 12 → allIns n (insTs xs) xs := by
 intro xs
 induction xs with
 | nil => intro n _ _; rfl
 | cons x t ih =>
  intro n hb hn
  rw [List.length_cons] at hn
  exact ⟨x, t, rfl, hb x (List.mem_cons_self ..), rfl, by omega, ih (n + 1) (fun y hy => hb y (List.mem_cons_of_mem _ hy)) (by omega)⟩
/-- What the reference reads of pieces, behind what it has. -/
theorem spec_prog_loop2 (s : List UInt8) (hs : s.length ≤ 1048576) : ∀ (m j fr : Nat) (out : List S34), j + m = s.length → fr ≤ j → out.length ≤ 12 →
  ∃ K, (∀ xs, allIns out.length (go2 ((s.drop fr).take (j - fr)) (s.drop j)) xs → ∀ k, K ≤ k → spec_ReadProg.l0 k (Bs s) out (fr : Int) (j : Int) = some (out ++ xs, true)) ∧ ((¬ ∃ xs, allIns out.length (go2 ((s.drop fr).take (j - fr)) (s.drop j)) xs) → ∀ k, K ≤ k → spec_ReadProg.l0 k (Bs s) out (fr : Int) (j : Int) = some ([], false)) := by
 intro m
 induction m using Nat.strongRecOn with
 | _ m ih =>
  intro j fr out hj hf ho
  have piece : ∀ x5 x6 : Nat, x5 ≤ x6 → x6 ≤ s.length → ∃ r : Int × Int × Int × Bool, rdS ((s.drop x5).take (x6 - x5)) r ∧ ∀ k, 1048676 ≤ k → spec_ReadProg.j1 (k + 1) (Bs s) out (x5 : Int) (x6 : Int) true = (if r.2.2.2 = true then (if (out.length : Int) = 12 then some ([], false) else spec_ReadProg.l0 k (Bs s) (out ++ [⟨r.1, r.2.1, r.2.2.1⟩]) ((x6 + 2 : Nat) : Int) ((x6 + 1 : Nat) : Int)) else some ([], false)) := by
   intro x5 x6 h56 h6
   have hpl : ((s.drop x5).take (x6 - x5)).length ≤ 1048576 := by rw [List.length_take, List.length_drop]; omega
   obtain ⟨r, e, p1, p2⟩ := spec_ins_read _ hpl
   refine ⟨r, ⟨p1, p2⟩, fun k hk => ?_⟩
   have w2 : wrap64 ((x6 : Int) + 2) = ((x6 + 2 : Nat) : Int) := by rw [wrap_id (by omega) (by omega)]; omega
   have w1 : wrap64 ((x6 : Int) + 1) = ((x6 + 1 : Nat) : Int) := by rw [wrap_id (by omega) (by omega)]; omega
   have c1 : (0 : Int) ≤ (x5 : Int) := Int.natCast_nonneg _
   have c2 : (x5 : Int) ≤ (x6 : Int) := Int.ofNat_le.2 h56
   have c3 : (x6 : Int) ≤ ((Bs s).size : Int) := by rw [Bs_size]; exact Int.ofNat_le.2 h6
   rw [spec_ReadProg.j1, if_pos rfl, if_pos c1, if_pos c2, if_pos c3, Int.toNat_natCast, Int.toNat_natCast, ext_Bs, e k (by omega), Option.bind_some, w2, w1, if_pos (show out.length < 5864062014805 by omega)]
  cases m with
  | zero =>
   obtain ⟨r, hr, e⟩ := piece fr j hf (by omega)
   have hd : s.drop j = [] := List.drop_of_length_le (by omega)
   have hgo : go2 ((s.drop fr).take (j - fr)) (s.drop j) = [(s.drop fr).take (j - fr)] := by rw [hd, go2]
   have hl : ∀ k, spec_ReadProg.l0 (k + 1) (Bs s) out (fr : Int) (j : Int) = spec_ReadProg.j1 k (Bs s) out (fr : Int) (j : Int) true := fun k => by
    rw [spec_ReadProg.l0, Bs_size, if_pos (by omega), if_pos (by omega)]
   rw [hgo]
   refine ⟨1048700, fun xs hx k hk => ?_, fun hno k hk => ?_⟩
   ·obtain ⟨x, t, rfl, hb, hp, hn, ht⟩ := hx
    have ht : t = [] := ht
    subst ht
    have hrr := hr.2 _ _ _ hb hp
    obtain ⟨k, rfl⟩ : ∃ q, k = q + 3 := ⟨k - 3, by omega⟩
    rw [hl, e (k + 1) (by omega), hrr, if_pos rfl, if_neg (by omega), spec_ReadProg.l0, Bs_size, if_neg (by omega)]
   ·obtain ⟨k, rfl⟩ : ∃ q, k = q + 2 := ⟨k - 2, by omega⟩
    rw [hl, e k (by omega)]
    cases hok : r.2.2.2 with
    | false => rw [if_neg (by simp)]
    | true =>
     obtain ⟨q1, q2⟩ := hr.1 hok
     rw [if_pos rfl]
     by_cases h12 : (out.length : Int) = 12
     ·rw [if_pos h12]
     ·exact absurd ⟨[⟨r.1, r.2.1, r.2.2.1⟩], _, _, rfl, q1, q2, by omega, rfl⟩ hno
  | succ m =>
   have hlt : j < s.length := by omega
   have hd : s.drop j = s[j] :: s.drop (j + 1) := List.drop_eq_getElem_cons hlt
   have w1 : wrap64 ((j : Int) + 1) = ((j + 1 : Nat) : Int) := by rw [wrap_id (by omega) (by omega)]; omega
   by_cases hhit : s[j] = 59 ∧ ∃ h : j + 1 < s.length, s[j + 1] = 32
   ·obtain ⟨h59, hj1, h32⟩ := hhit
    have hd2 : s.drop (j + 1) = s[j + 1] :: s.drop (j + 2) := List.drop_eq_getElem_cons hj1
    have hgo : go2 ((s.drop fr).take (j - fr)) (s.drop j) = (s.drop fr).take (j - fr) :: go2 [] (s.drop (j + 2)) := by rw [hd, hd2, h59, h32, go2_hit]
    obtain ⟨r, hr, e⟩ := piece fr j hf (by omega)
    have hl : ∀ k, spec_ReadProg.l0 (k + 1) (Bs s) out (fr : Int) (j : Int) = spec_ReadProg.j1 k (Bs s) out (fr : Int) (j : Int) true := fun k => by
     have b1 : bt (Bs s) (j : Int) = 59 := (bt_is s j hlt 59).2 h59
     have b2 : bt (Bs s) ((j + 1 : Nat) : Int) = 32 := (bt_is s (j + 1) hj1 32).2 h32
     rw [spec_ReadProg.l0, Bs_size, if_pos (by omega), if_neg (by omega), w1, if_pos (by omega), if_pos (by omega), if_pos (by omega), if_pos b1, if_pos (by omega), b2]
     rfl
    have skip : ∀ (out2 : List S34) k, spec_ReadProg.l0 (k + 2) (Bs s) out2 ((j + 2 : Nat) : Int) ((j + 1 : Nat) : Int) = spec_ReadProg.l0 k (Bs s) out2 ((j + 2 : Nat) : Int) ((j + 2 : Nat) : Int) := fun out2 k => by
     have b2 : ¬ bt (Bs s) ((j + 1 : Nat) : Int) = 59 := fun h => by
      have := (bt_is s (j + 1) hj1 59).1 h
      rw [h32] at this
      exact absurd this (by decide)
     have w3 : wrap64 (((j + 1 : Nat) : Int) + 1) = ((j + 2 : Nat) : Int) := by rw [wrap_id (by omega) (by omega)]; omega
     rw [spec_ReadProg.l0, Bs_size, if_pos (by omega), if_neg (by omega), w3]
     by_cases h2 : ((j + 2 : Nat) : Int) < (s.length : Int)
     ·rw [if_pos h2, if_pos (by omega), if_pos (by omega), if_neg b2, spec_ReadProg.j1, if_neg (by simp), w3]
     ·rw [if_neg h2, spec_ReadProg.j1, if_neg (by simp), w3]
    rw [hgo]
    cases hok : r.2.2.2 with
    | false =>
     refine ⟨1048700, fun xs hx k hk => ?_, fun hno k hk => ?_⟩
     ·obtain ⟨x, t, rfl, hb, hp, hn, ht⟩ := hx
      have hrr := hr.2 _ _ _ hb hp
      rw [hrr] at hok
      cases hok
     ·obtain ⟨k, rfl⟩ : ∃ q, k = q + 2 := ⟨k - 2, by omega⟩
      rw [hl, e k (by omega), hok, if_neg (by simp)]
    | true =>
     obtain ⟨q1, q2⟩ := hr.1 hok
     by_cases h12 : (out.length : Int) = 12
     ·refine ⟨1048700, fun xs hx k hk => ?_, fun hno k hk => ?_⟩
      ·obtain ⟨x, t, rfl, hb, hp, hn, ht⟩ := hx
       omega
      ·obtain ⟨k, rfl⟩ : ∃ q, k = q + 2 := ⟨k - 2, by omega⟩
       rw [hl, e k (by omega), hok, if_pos rfl, if_pos h12]
     ·obtain ⟨K, e1, e2⟩ := ih (m - 1) (by omega) (j + 2) (j + 2) (out ++ [⟨r.1, r.2.1, r.2.2.1⟩]) (by omega) (Nat.le_refl _) (by rw [List.length_append]; simp; omega)
      have hz : (s.drop (j + 2)).take (j + 2 - (j + 2)) = [] := by simp
      have hlo : (out ++ [(⟨r.1, r.2.1, r.2.2.1⟩ : S34)]).length = out.length + 1 := by simp
      rw [hz, hlo] at e1 e2
      have hstep : ∀ k, 1048700 ≤ k → spec_ReadProg.l0 (k + 4) (Bs s) out (fr : Int) (j : Int) = spec_ReadProg.l0 k (Bs s) (out ++ [⟨r.1, r.2.1, r.2.2.1⟩]) ((j + 2 : Nat) : Int) ((j + 2 : Nat) : Int) := fun k hk => by
       rw [hl, e (k + 2) (by omega), hok, if_pos rfl, if_neg h12, skip]
      refine ⟨K + 1048710, fun xs hx k hk => ?_, fun hno k hk => ?_⟩
      ·obtain ⟨x, t, rfl, hb, hp, hn, ht⟩ := hx
       have hrr := hr.2 _ _ _ hb hp
       obtain ⟨k, rfl⟩ : ∃ q, k = q + 4 := ⟨k - 4, by omega⟩
       rw [hstep k (by omega), e1 t ht k (by omega), hrr]
       simp
      ·obtain ⟨k, rfl⟩ : ∃ q, k = q + 4 := ⟨k - 4, by omega⟩
       rw [hstep k (by omega)]
       refine e2 (fun hx => ?_) k (by omega)
       obtain ⟨t, ht⟩ := hx
       exact hno ⟨⟨r.1, r.2.1, r.2.2.1⟩ :: t, _, _, rfl, q1, q2, by omega, ht⟩
   ·have hgo : go2 ((s.drop fr).take (j - fr)) (s.drop j) = go2 ((s.drop fr).take (j + 1 - fr)) (s.drop (j + 1)) := by
     rw [hd, go2_step _ _ _ (fun d t e q => hhit ⟨q.1, ?_⟩), cur_more s fr j hf hlt]
     have hj1 : j + 1 < s.length := by
      have := congrArg List.length e
      rw [List.length_drop, List.length_cons] at this
      omega
     refine ⟨hj1, ?_⟩
     have hd2 : s.drop (j + 1) = s[j + 1] :: s.drop (j + 2) := List.drop_eq_getElem_cons hj1
     rw [hd2] at e
     rw [← q.2]
     injection e
    obtain ⟨K, e1, e2⟩ := ih m (by omega) (j + 1) fr out (by omega) (by omega) ho
    have hstep : ∀ k, spec_ReadProg.l0 (k + 2) (Bs s) out (fr : Int) (j : Int) = spec_ReadProg.l0 k (Bs s) out (fr : Int) ((j + 1 : Nat) : Int) := fun k => by
     have go : spec_ReadProg.j1 (k + 1) (Bs s) out (fr : Int) (j : Int) false = spec_ReadProg.l0 k (Bs s) out (fr : Int) ((j + 1 : Nat) : Int) := by
      rw [spec_ReadProg.j1, if_neg (by simp), w1]
     rw [spec_ReadProg.l0, Bs_size, if_pos (by omega), if_neg (by omega), w1]
     by_cases hj1 : j + 1 < s.length
     ·rw [if_pos (by omega), if_pos (by omega), if_pos (by omega)]
      by_cases h59 : s[j] = 59
      ·have b1 : bt (Bs s) (j : Int) = 59 := (bt_is s j hlt 59).2 h59
       have b2 : ¬ bt (Bs s) ((j + 1 : Nat) : Int) = 32 := fun h => hhit ⟨h59, hj1, (bt_is s (j + 1) hj1 32).1 h⟩
       have b3 : (bt (Bs s) ((j + 1 : Nat) : Int) == 32) = false := beq_eq_false_iff_ne.mpr b2
       rw [if_pos b1, if_pos (by omega), b3]
       exact go
      ·have b1 : ¬ bt (Bs s) (j : Int) = 59 := fun h => h59 ((bt_is s j hlt 59).1 h)
       rw [if_neg b1]
       exact go
     ·rw [if_neg (by omega)]
      exact go
    rw [hgo]
    refine ⟨K + 2, fun xs hx k hk => ?_, fun hno k hk => ?_⟩
    ·obtain ⟨k, rfl⟩ : ∃ q, k = q + 2 := ⟨k - 2, by omega⟩
     rw [hstep]
     exact e1 xs hx k (by omega)
    ·obtain ⟨k, rfl⟩ : ∃ q, k = q + 2 := ⟨k - 2, by omega⟩
     rw [hstep]
     exact e2 hno k (by omega)
/-- What is read of a text: the program whose text it is. -/
theorem spec_read_prog (s : List UInt8) (hs : s.length ≤ 1048576) : ∃ K, (∀ xs, progB xs = true → s = progT xs → ∀ k, K ≤ k → spec_ReadProg.f k (Bs s) = some (xs, true)) ∧ ((¬ ∃ xs, progB xs = true ∧ s = progT xs) → ∀ k, K ≤ k → spec_ReadProg.f k (Bs s) = some ([], false)) := by
 by_cases hne : s = []
 ·subst hne
  refine ⟨0, fun xs hp hx k _ => ?_, fun hno => absurd ⟨[], by decide, rfl⟩ hno⟩
  have : xs = [] := by
   cases xs with
   | nil => rfl
   | cons x t =>
    exfalso
    have : ([] : List UInt8) = Lib.join (insT x.f0 x.f1 x.f2 :: insTs t) sepL := hx
    rw [Lib.join_cons] at this
    have h2 := congrArg List.length this
    rw [List.length_append] at h2
    unfold insT at h2
    simp at h2
    omega
  subst this
  unfold spec_ReadProg.f
  rw [Option.bind_some, Bs_list, if_pos rfl]
 ·obtain ⟨K, e1, e2⟩ := spec_prog_loop2 s hs s.length 0 0 [] (by omega) (by omega) (by simp)
  have hgo : go2 ((s.drop 0).take (0 - 0)) (s.drop 0) = go2 [] s := by simp
  rw [hgo] at e1 e2
  have hf : ∀ k, spec_ReadProg.f k (Bs s) = spec_ReadProg.l0 k (Bs s) [] ((0 : Nat) : Int) ((0 : Nat) : Int) := fun k => by
   unfold spec_ReadProg.f
   rw [Option.bind_some, Bs_list, if_neg hne]
   rfl
  have split : ∀ xs, progB xs = true → s = progT xs → go2 [] s = insTs xs := fun xs hp hx => by
   obtain ⟨_, hb⟩ := progB_all hp
   cases xs with
   | nil => exact absurd hx hne
   | cons x t =>
    rw [hx]
    show go2 [] (Lib.join (insT x.f0 x.f1 x.f2 :: insTs t) sepL) = _
    rw [go2_of_join]
    ·rfl
    ·intro y hy
     have : y ∈ insTs (x :: t) := hy
     unfold insTs at this
     obtain ⟨z, hz, rfl⟩ := List.mem_map.1 this
     exact no59 (hb z hz)
  refine ⟨K, fun xs hp hx k hk => ?_, fun hno k hk => ?_⟩
  ·obtain ⟨h12, hb⟩ := progB_all hp
   rw [hf]
   have := e1 xs (by rw [split xs hp hx]; exact allIns_of xs 0 hb (by omega)) k hk
   simpa using this
  ·rw [hf]
   refine e2 (fun hx => hno ?_) k hk
   obtain ⟨xs, hxs⟩ := hx
   obtain ⟨g1, g2, g3⟩ := allIns_facts _ _ _ hxs
   have h12 := g3 (by simp)
   refine ⟨xs, progB_snoc (by simpa using h12) g2, ?_⟩
   unfold progT
   rw [g1, go2_join s.length s [] (Nat.le_refl _)]
   rfl
theorem impl_prog_loop2 (s : List UInt8) : ∀ (ps : List (List UInt8)) (done : List (List UInt8)) (out : List S34), (∀ p ∈ ps, p.length ≤ 1048576) → (done ++ ps).length ≤ 1048576 → out.length = done.length →
  ∃ ys : List S34, ys.length = ps.length ∧ (∀ xs : List S34, (∀ x ∈ xs, insB x.f0 x.f1 x.f2 = true) → insTs xs = ps → ys = xs) ∧ ∀ k, 40 ≤ k → impl_ReadProg.l0 (k + ps.length) (Bs s) out ((done ++ ps).map Bs) (((done ++ ps).length : Nat) : Int) ((done.length : Nat) : Int) = impl_ReadProg.l0 k (Bs s) (out ++ ys) ((done ++ ps).map Bs) (((done ++ ps).length : Nat) : Int) (((done ++ ps).length : Nat) : Int) := by
 intro ps
 induction ps with
 | nil =>
  intro done out _ _ _
  refine ⟨[], rfl, fun xs _ h => ?_, fun k _ => by simp⟩
  cases xs with
  | nil => rfl
  | cons x t => unfold insTs at h; simp at h
 | cons p ps ih =>
  intro done out hp hl ho
  obtain ⟨r, e, q⟩ := impl_ins_read p (hp p (List.mem_cons_self ..))
  have hda : done ++ p :: ps = (done ++ [p]) ++ ps := by simp
  obtain ⟨ys, y1, y2, y3⟩ := ih (done ++ [p]) (out ++ [⟨r.1, r.2.1, r.2.2⟩]) (fun x hx => hp x (List.mem_cons_of_mem _ hx)) (by rw [← hda]; exact hl) (by simp; omega)
  refine ⟨⟨r.1, r.2.1, r.2.2⟩ :: ys, by simp [y1], fun xs hb hx => ?_, fun k hk => ?_⟩
  ·cases xs with
   | nil => unfold insTs at hx; simp at hx
   | cons x t =>
    unfold insTs at hx
    rw [List.map_cons] at hx
    injection hx with hx1 hx2
    have hr := q _ _ _ (hb x (List.mem_cons_self ..)) hx1.symm
    rw [hr, y2 t (fun z hz => hb z (List.mem_cons_of_mem _ hz)) hx2]
  ·have hll : (done ++ p :: ps).length = done.length + (ps.length + 1) := by simp
   have hr : rdOf ByteArray.empty ((done ++ p :: ps).map Bs) ((done.length : Nat) : Int) = Bs p := by
    rw [rdW _ _ (by rw [hll]; omega)]
    congr 1
    rw [List.getElem_append_right (by omega)]
    simp
   have hw : wrap64 (((done.length : Nat) : Int) + 1) = (((done ++ [p]).length : Nat) : Int) := by
    rw [wrap_id (by omega) (by omega)]
    simp
   rw [show k + (p :: ps).length = (k + ps.length) + 1 by simp; omega, impl_ReadProg.l0, if_pos (by rw [hll]; omega), if_pos (by omega), if_pos (by rw [List.length_map, hll]; omega), hr, e (k + ps.length) (by omega), Option.bind_some, if_pos (by omega), hw, hda]
   have := y3 k hk
   rw [this]
   simp
theorem impl_read_prog (s : List UInt8) (hs : s.length ≤ 1048576) : ∃ K, (∀ xs, progB xs = true → s = progT xs → ∀ k, K ≤ k → impl_ReadProg.f k (Bs s) = some (xs, true)) ∧ ((¬ ∃ xs, progB xs = true ∧ s = progT xs) → ∀ k, K ≤ k → impl_ReadProg.f k (Bs s) = some ([], false)) := by
 by_cases hne : s = []
 ·subst hne
  refine ⟨0, fun xs hp hx k _ => ?_, fun hno => absurd ⟨[], by decide, rfl⟩ hno⟩
  have : xs = [] := by
   cases xs with
   | nil => rfl
   | cons x t =>
    exfalso
    have : ([] : List UInt8) = Lib.join (insT x.f0 x.f1 x.f2 :: insTs t) sepL := hx
    rw [Lib.join_cons] at this
    have h2 := congrArg List.length this
    rw [List.length_append] at h2
    unfold insT at h2
    simp at h2
    omega
  subst this
  unfold impl_ReadProg.f
  rw [Bs_list, if_pos rfl]
 ·have hgl := go2_len s.length s [] (Nat.le_refl _)
  have hpl : ∀ p ∈ go2 [] s, p.length ≤ 1048576 := by
   have all : ∀ (n : Nat) (r cur : List UInt8), r.length ≤ n → ∀ x ∈ go2 cur r, x.length ≤ cur.length + r.length := by
    intro n
    induction n with
    | zero =>
     intro r cur h x hx
     obtain rfl := List.eq_nil_of_length_eq_zero (Nat.le_zero.1 h)
     simp [go2] at hx
     rw [hx]
     omega
    | succ n ih =>
     intro r cur h x hx
     match r, h, hx with
     | [], _, hx => simp [go2] at hx; rw [hx]; omega
     | [c], _, hx => simp [go2] at hx; rw [hx]; simp
     | c :: d :: r, h, hx =>
      unfold go2 at hx
      split at hx
      ·rcases List.mem_cons.1 hx with rfl | hx
       ·omega
       ·have := ih r [] (by simp at h; omega) x hx
        simp at this ⊢
        omega
      ·have := ih (d :: r) (cur ++ [c]) (by simp at h ⊢; omega) x hx
       simp at this ⊢
       omega
   intro p hp
   have := all s.length s [] (Nat.le_refl _) p hp
   simp at this
   omega
  obtain ⟨ys, y1, y2, y3⟩ := impl_prog_loop2 s (go2 [] s) [] [] hpl (by rw [List.nil_append]; omega) rfl
  rw [List.nil_append] at y3
  obtain ⟨K, eP⟩ := impl_prog ys (by omega)
  have hend : ∀ k, K + 12 + 50 ≤ k → impl_ReadProg.f (k + 1 + (go2 [] s).length) (Bs s) = some (if progB ys = true ∧ progT ys = s then (ys, true) else ([], false)) := fun k hk => by
   unfold impl_ReadProg.f
   rw [Bs_list, if_neg hne, show (⟨#[59, 32]⟩ : ByteArray) = Bs sepL from rfl, split_two s (by omega), Option.bind_some]
   have hml : (((go2 [] s).map Bs).length : Int) = (((go2 [] s).length : Nat) : Int) := by rw [List.length_map]
   rw [hml]
   have := y3 (k + 1) (by omega)
   simp only [List.length_nil] at this
   rw [show (0 : Int) = ((0 : Nat) : Int) from rfl, this, List.nil_append, impl_ReadProg.l0, if_neg (by omega), eP k (by omega), Option.bind_some]
   cases hp : progB ys with
   | false => rw [if_neg (by simp), if_neg (by simp)]
   | true =>
    have h12 := (progB_all hp).1
    rw [if_pos rfl, impl_ptext hp k (by omega), Option.bind_some, Bs_list, Bs_list]
    by_cases hq : progT ys = s
    ·rw [if_pos hq, if_pos ⟨rfl, hq⟩]
    ·rw [if_neg hq, if_neg (fun h => hq h.2)]
  refine ⟨K + 100 + (go2 [] s).length, fun xs hp hx k hk => ?_, fun hno k hk => ?_⟩
  ·obtain ⟨k, rfl⟩ : ∃ q, k = q + 1 + (go2 [] s).length := ⟨k - 1 - (go2 [] s).length, by omega⟩
   rw [hend k (by omega)]
   obtain ⟨_, hb⟩ := progB_all hp
   have hsp : insTs xs = go2 [] s := by
    cases xs with
    | nil => exact absurd hx hne
    | cons x t =>
     rw [hx]
     show _ = go2 [] (Lib.join (insT x.f0 x.f1 x.f2 :: insTs t) sepL)
     rw [go2_of_join]
     ·rfl
     ·intro y hy
      have : y ∈ insTs (x :: t) := hy
      unfold insTs at this
      obtain ⟨z, hz, rfl⟩ := List.mem_map.1 this
      exact no59 (hb z hz)
   have := y2 xs hb hsp
   rw [this, if_pos ⟨hp, hx.symm⟩]
  ·obtain ⟨k, rfl⟩ : ∃ q, k = q + 1 + (go2 [] s).length := ⟨k - 1 - (go2 [] s).length, by omega⟩
   rw [hend k (by omega), if_neg (fun h => hno ⟨ys, h.1, h.2.symm⟩)]
/-- What is read of a text, by both. -/
theorem read_both (s : List UInt8) (hs : s.length ≤ 1048576) : ∃ (xs : List S34) (ok : Bool) (K : Nat), xs.length ≤ 12 ∧ (∀ k, K ≤ k → spec_ReadProg.f k (Bs s) = some (xs, ok)) ∧ (∀ k, K ≤ k → impl_ReadProg.f k (Bs s) = some (xs, ok)) ∧ (ok = true → progB xs = true ∧ s = progT xs) ∧ (∀ ys, progB ys = true → s = progT ys → xs = ys ∧ ok = true) := by
 obtain ⟨K1, a1, a2⟩ := spec_read_prog s hs
 obtain ⟨K2, b1, b2⟩ := impl_read_prog s hs
 by_cases h : ∃ xs, progB xs = true ∧ s = progT xs
 ·obtain ⟨xs, hp, hx⟩ := h
  refine ⟨xs, true, K1 + K2, (progB_all hp).1, fun k hk => a1 xs hp hx k (by omega), fun k hk => b1 xs hp hx k (by omega), fun _ => ⟨hp, hx⟩, fun ys hy hz => ?_⟩
  have e1 := a1 xs hp hx K1 (Nat.le_refl _)
  have e2 := a1 ys hy hz K1 (Nat.le_refl _)
  rw [e1] at e2
  exact ⟨(Prod.mk.inj (Option.some.inj e2)).1, rfl⟩
 ·exact ⟨[], false, K1 + K2, by simp, fun k hk => a2 h k (by omega), fun k hk => b2 h k (by omega), fun e => (by cases e), fun ys hy hz => absurd ⟨ys, hy, hz⟩ h⟩
theorem FnExactReadProg : ∀ (a0 : ByteArray), a0.size ≤ 140737488351232 → ∃ k, laws_FnExactReadProg.f k a0 = some true := by
 intro a0 _
 by_cases h : (a0.size : Int) > 1048576
 ·refine ⟨0, ?_⟩
  unfold laws_FnExactReadProg.f
  rw [if_pos h]
 ·have hs : a0.data.toList.length ≤ 1048576 := by
   have := Bs_size a0.data.toList
   rw [Bs_eta] at this
   omega
  obtain ⟨xs, ok, K, hl, e1, e2, _, _⟩ := read_both a0.data.toList hs
  rw [Bs_eta] at e1 e2
  obtain ⟨K2, q⟩ := both (eq_InsS xs (by omega)) (both (mark_InsS xs 1 (by omega) (by omega) (by omega)) (held_InsS xs.length 1 (by omega) (by omega) (by omega)))
  obtain ⟨M, hM⟩ : ∃ M, M = K + K2 + 10 := ⟨_, rfl⟩
  refine ⟨M + 2, ?_⟩
  obtain ⟨q1, _, _⟩ := q (M + 2) (by omega)
  obtain ⟨q2, q3, q4⟩ := q (M + 1) (by omega)
  obtain ⟨q5, _, q6⟩ := q M (by omega)
  have nb : (ok != ok) = false := by simp
  unfold laws_FnExactReadProg.f
  rw [if_neg h, e1 _ (by omega), Option.bind_some, e2 _ (by omega), Option.bind_some, q1, Option.bind_some, if_pos rfl, nb, laws_FnExactReadProg.j0, if_neg (by simp), q3, Option.bind_some, q4, Option.bind_some, if_neg (by omega), if_pos rfl, e2 _ (by omega), Option.bind_some, q2, Option.bind_some, if_pos rfl, nb, laws_FnExactReadProg.j1, if_neg (by simp), q6, Option.bind_some, if_neg (by omega), if_pos rfl]
end Go.Proofs.YtggajlaifoddeaaDoor.Pure
