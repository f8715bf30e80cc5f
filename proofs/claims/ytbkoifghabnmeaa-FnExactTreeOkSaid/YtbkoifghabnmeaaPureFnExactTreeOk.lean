/- TreeOk of the program and of the reference return the same for all nodes, and the nodes stay as they were; no condition. -/
import Derived.Test.YtbkoifghabnmeaaOpen
import Derived.Test.YtbkoifghabnmeaaPLib
import Derived.Test.YtbkoifghabnmeaaPFnExactTreeOkx3
namespace Go.Proofs.Ytbkoifghabnmeaa.Pure
open Go.RowKit Go.Proofs.YtbkoifghabnmeaaOpen Go.Proofs.YtbkoifghabnmeaaPLib Go.Proofs.Ytbkoifghabnmeaa.PFnExactTreeOk Go.Proofs.YtbkoifghabnmeaaW.PrintWords Go.Proofs.YtbkoifghabnmeaaW.PrintLast
set_option linter.unusedVariables false
set_option linter.unusedSimpArgs false

theorem l1In_eq (a b c : Int) : spec_l1In.f a b c = some (btw a b c) := by
  unfold spec_l1In.f btw
  by_cases h : b ≤ a
  · rw [if_pos h]; simp [h]
  · rw [if_neg h]; simp [h]
theorem within_eq (a b c : Int) : impl_within.f a b c = some (btw a b c) := by
  unfold impl_within.f btw
  by_cases h : b ≤ a
  · rw [if_pos h]; simp [h]
  · rw [if_neg h]; simp [h]
/-- What the document asks of a node for itself. -/
def ownB (x : S70) : Bool := ((x.f0 == 2) || (x.f2 == 9223372036854775807)) && (if x.f0 = 3 then btw x.f3 1 9 && btw x.f4 0 999 else btw x.f0 0 4 && ((x.f3 == 0) && (x.f4 == 0)))
/-- What it asks of the node above it. -/
def upB (x : S70) (i : Int) : Bool := if x.f0 = 0 then x.f1 == -1 else btw x.f1 0 (i - 1)
def nodeAt (x : S70) (i : Int) : Bool := ownB x && upB x i
theorem spec_node (k : Nat) (x : S70) : spec_l5Node.f (k + 1) x.f0 x.f1 x.f2 x.f3 x.f4 = some (ownB x) := by
  unfold spec_l5Node.f ownB
  simp only [spec_l5Node.j0, l1In_eq, Option.bind_some]
  by_cases h2 : x.f0 = 2
  · have h3 : ¬ x.f0 = 3 := by omega
    cases hk : btw x.f0 0 4 <;> by_cases hf : x.f3 = 0 <;> simp_all
  · by_cases h3 : x.f0 = 3
    · cases hk : btw x.f3 1 9 <;> by_cases hd : x.f2 = 9223372036854775807 <;> simp_all
    · cases hk : btw x.f0 0 4 <;> by_cases hf : x.f3 = 0 <;> by_cases hd : x.f2 = 9223372036854775807 <;> simp_all
theorem impl_node (k : Nat) (x : S70) (i : Int) (h0 : 0 ≤ i) (h1 : i ≤ 9223372036854775807) : impl_Node_isNode.f (k + 2) x.f0 x.f1 x.f2 x.f3 x.f4 i = some (nodeAt x i) := by
  unfold impl_Node_isNode.f nodeAt ownB upB
  simp only [impl_Node_isNode.j0, impl_Node_isNode.j1, within_eq, Option.bind_some]
  rw [wrap_id (by omega) (by omega)]
  by_cases h2 : x.f0 = 2
  · have h3 : ¬ x.f0 = 3 := by omega
    have h0 : ¬ x.f0 = 0 := by omega
    have hk : btw x.f0 0 4 = true := btw_iff.2 (by omega)
    cases hu : btw x.f1 0 (i - 1) <;> by_cases hf : x.f3 = 0 <;> simp_all
  · by_cases h3 : x.f0 = 3
    · have h0 : ¬ x.f0 = 0 := by omega
      have hk : btw x.f0 0 4 = true := btw_iff.2 (by omega)
      cases hu : btw x.f1 0 (i - 1) <;> cases hk : btw x.f3 1 9 <;> by_cases hd : x.f2 = 9223372036854775807 <;> simp_all
    · cases hk : btw x.f0 0 4
      · simp_all
      · by_cases h0 : x.f0 = 0
        · by_cases hu : x.f1 = -1 <;> by_cases hf : x.f3 = 0 <;> by_cases hd : x.f2 = 9223372036854775807 <;> simp_all
        · cases hu : btw x.f1 0 (i - 1) <;> by_cases hf : x.f3 = 0 <;> by_cases hd : x.f2 = 9223372036854775807 <;> simp_all
/-- Nodes are a tree. -/
def treeB (t : List S70) : Bool := decide (t.length ≤ 60) && allFrom (fun i => nodeAt (rd_T70 t i) i) t.length 0
theorem spec_tree (t : List S70) (hn : t.length ≤ 9223372036854775807) : ∃ K, ∀ k, K ≤ k → spec_TreeOk.f k t = some (treeB t) := by
  unfold treeB
  by_cases h : t.length ≤ 60
  · obtain ⟨K, e⟩ := ev_all (fun k i => spec_TreeOk.l0 k t i) (fun i => nodeAt (rd_T70 t i) i) t.length 1
      (fun k i hk h0 h1 => by
        obtain ⟨k, rfl⟩ : ∃ q, k = q + 1 := ⟨k - 1, by omega⟩
        show spec_TreeOk.l0 (k + 1 + 1) t i = _
        unfold nodeAt upB
        simp only [spec_TreeOk.l0, spec_node k, l1In_eq, Option.bind_some]
        rw [if_pos h1, if_pos h0, wrap_id (x := i - 1) (by omega) (by omega)]
        cases ownB (rd_T70 t i) with
        | false => simp
        | true => by_cases hf : (rd_T70 t i).f0 = 0 <;> simp [hf])
      (fun k i h => by show spec_TreeOk.l0 (k + 1) t i = _; simp only [spec_TreeOk.l0]; rw [if_neg h]) hn
    refine ⟨K, fun k hk => ?_⟩
    unfold spec_TreeOk.f
    rw [if_neg (by omega), decide_eq_true h, Bool.true_and]
    exact e k hk
  · refine ⟨0, fun k _ => ?_⟩
    unfold spec_TreeOk.f
    rw [if_pos (by omega)]
    simp [h]
theorem impl_tree (t : List S70) (hn : t.length ≤ 9223372036854775807) : ∃ K, ∀ k, K ≤ k → impl_TreeOk.f k t = some (treeB t) := by
  have e := ev_all (fun k i => impl_TreeOk.l0 k t (t.length : Int) i) (fun i => !(i == 60) && nodeAt (rd_T70 t i) i) t.length 2
      (fun k i hk h0 h1 => by
        obtain ⟨k, rfl⟩ : ∃ q, k = q + 2 := ⟨k - 2, by omega⟩
        show impl_TreeOk.l0 (k + 2 + 1) t _ i = (if _ then impl_TreeOk.l0 (k + 2) t _ _ else _)
        generalize hw : impl_TreeOk.l0 (k + 2) t (t.length : Int) (wrap64 (i + 1)) = R
        rw [impl_TreeOk.l0, impl_node k _ i h0 (by omega), hw]
        simp only [Option.bind_some]
        rw [if_pos h1, if_pos h0, if_pos h1]
        by_cases h60 : i = 60 <;> simp [h60])
      (fun k i h => by show impl_TreeOk.l0 (k + 1) t _ i = _; simp only [impl_TreeOk.l0]; rw [if_neg h]) hn
  have hb : allFrom (fun i => !(i == 60) && nodeAt (rd_T70 t i) i) t.length 0 = treeB t := by
    unfold treeB
    rw [Bool.eq_iff_iff, Bool.and_eq_true, allFrom_iff, allFrom_iff, decide_eq_true_eq]
    constructor
    · intro h
      refine ⟨?_, fun j h0 h1 => by have := h j h0 h1; simp at this; exact this.2⟩
      apply Decidable.byContradiction
      intro hc
      have := h 60 (by omega) (by omega)
      simp at this
    · rintro ⟨hl, h⟩ j h0 h1
      have := h j h0 h1
      simp [this]
      omega
  rw [hb] at e
  exact e
theorem sz_nodes (l : List S72) (hn : l.length ≤ 9223372036854775807) : laws_szNodeS.f l 1048576 = some (if l.length ≤ 1048576 then 1048576 - (l.length : Int) else -1) := by
  unfold laws_szNodeS.f
  rw [wrap_id (by omega) (by omega)]
  by_cases h : l.length ≤ 1048576
  · rw [if_neg (by omega), if_pos h]
  · rw [if_pos (by omega), if_neg h]
/-- A node of the statements as one of the program. -/
def nodeOf (x : S72) : S70 := ⟨x.f0, x.f1, x.f2, x.f3, x.f4⟩
theorem to_nodes (l : List S72) (hn : l.length ≤ 1048576) : ∃ K, ∀ k, K ≤ k → laws_toNodeS.f k l = some (l.map nodeOf) := by
  obtain ⟨K, e⟩ := ev_copy (fun k a b i => laws_toNodeS.l0 k a b i) nodeOf z72 (fun k x0 x3 i => by
    show laws_toNodeS.l0 (k + 1) x0 x3 i = _
    simp only [laws_toNodeS.l0, laws_toNode.f, Option.bind_some]
    rfl) l z70 (by omega)
  refine ⟨K, fun k hk => ?_⟩
  unfold laws_toNodeS.f
  rw [if_pos (by omega), if_pos (by omega), Int.toNat_natCast]
  exact e k hk
theorem eq_nodes (l : List S70) (hn : l.length ≤ 1048576) : ∃ K, ∀ k, K ≤ k → laws_eqNodeS.f k l l = some true := by
  obtain ⟨K, e⟩ := ev_same (fun k a b i => laws_eqNodeS.l0 k a b i) l (fun k i h0 h1 => by
    show laws_eqNodeS.l0 (k + 1) l l i = _
    simp only [laws_eqNodeS.l0, laws_eqNode.f, Option.bind_some, if_true]
    rw [if_pos h1, if_pos h0, if_pos h1]) (fun k i h => by
    show laws_eqNodeS.l0 (k + 1) l l i = _
    simp only [laws_eqNodeS.l0]
    rw [if_neg h]) (by omega)
  refine ⟨K, fun k hk => ?_⟩
  unfold laws_eqNodeS.f
  rw [if_pos rfl]
  exact e k hk
theorem FnExactTreeOk : ∀ (l0 : List (S72)), l0.length ≤ 9223372036854775807 → (∀ x_ ∈ l0, (wf64 x_.f0 ∧ wf64 x_.f1 ∧ wf64 x_.f2 ∧ wf64 x_.f3 ∧ wf64 x_.f4)) → ∃ k, laws_FnExactTreeOk.f k l0 = some true := by
  intro l hn _
  by_cases h : l.length ≤ 1048576
  · obtain ⟨K1, h1⟩ := to_nodes l h
    obtain ⟨K2, h2⟩ := spec_tree (l.map nodeOf) (by simpa using hn)
    obtain ⟨K3, h3⟩ := impl_tree (l.map nodeOf) (by simpa using hn)
    obtain ⟨K4, h4⟩ := eq_nodes (l.map nodeOf) (by simpa using h)
    refine ⟨K1 + K2 + K3 + K4, ?_⟩
    unfold laws_FnExactTreeOk.f
    rw [sz_nodes l hn, if_pos h, h1 _ (by omega)]
    simp only [Option.bind_some]
    rw [if_neg (by omega), h2 _ (by omega)]
    simp only [Option.bind_some]
    rw [h3 _ (by omega)]
    simp only [Option.bind_some]
    rw [h4 _ (by omega)]
    simp
  · refine ⟨0, ?_⟩
    unfold laws_FnExactTreeOk.f
    rw [sz_nodes l hn, if_neg h]
    simp

end Go.Proofs.Ytbkoifghabnmeaa.Pure
