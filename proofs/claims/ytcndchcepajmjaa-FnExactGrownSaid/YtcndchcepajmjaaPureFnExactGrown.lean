/- Grown of the program and of the reference return the same for all nodes, the result is new memory and the nodes stay as they were; no condition. -/
import Derived.Test.YtcndchcepajmjaaOpen
import Derived.Test.YtcndchcepajmjaaPLib
import Derived.Test.YtcndchcepajmjaaPFnExactGrownx6
namespace Go.Proofs.Ytcndchcepajmjaa.Pure
open Go.RowKit Go.Proofs.YtcndchcepajmjaaOpen Go.Proofs.YtcndchcepajmjaaPLib Go.Proofs.Ytcndchcepajmjaa.PFnExactGrown Go.Proofs.YtcndchcepajmjaaW.PrintWords Go.Proofs.YtcndchcepajmjaaW.PrintLast
set_option linter.unusedVariables false
set_option linter.unusedSimpArgs false

theorem l1In_eq (a b c : Int) : spec_l1In.f a b c = some (btw a b c) := by
  unfold spec_l1In.f btw
  by_cases h : b ≤ a
  · rw [if_pos h]; simp [h]
  · rw [if_neg h]; simp [h]
theorem within_eq (a b c : Int) : impl_within.f a b c = some (btw a b c) := by
  unfold impl_within.f btw
  by_cases h : b ≤ a
  · rw [if_pos h]; simp [h]
  · rw [if_neg h]; simp [h]
/-- What the document asks of a node for itself. -/
def ownB (x : S30) : Bool := ((x.f0 == 2) || (x.f2 == 9223372036854775807)) && (if x.f0 = 3 then btw x.f3 1 9 && btw x.f4 0 999 else btw x.f0 0 4 && ((x.f3 == 0) && (x.f4 == 0)))
/-- What it asks of the node above it. -/
def upB (x : S30) (i : Int) : Bool := if x.f0 = 0 then x.f1 == -1 else btw x.f1 0 (i - 1)
def nodeAt (x : S30) (i : Int) : Bool := ownB x && upB x i
theorem spec_node (k : Nat) (x : S30) : spec_l5Node.f (k + 1) x.f0 x.f1 x.f2 x.f3 x.f4 = some (ownB x) := by
  unfold spec_l5Node.f ownB
  simp only [spec_l5Node.j0, l1In_eq, Option.bind_some]
  by_cases h2 : x.f0 = 2
  · have h3 : ¬ x.f0 = 3 := by omega
    cases hk : btw x.f0 0 4 <;> by_cases hf : x.f3 = 0 <;> simp_all
  · by_cases h3 : x.f0 = 3
    · cases hk : btw x.f3 1 9 <;> by_cases hd : x.f2 = 9223372036854775807 <;> simp_all
    · cases hk : btw x.f0 0 4 <;> by_cases hf : x.f3 = 0 <;> by_cases hd : x.f2 = 9223372036854775807 <;> simp_all
theorem impl_node (k : Nat) (x : S30) (i : Int) (h0 : 0 ≤ i) (h1 : i ≤ 9223372036854775807) : impl_Node_isNode.f (k + 2) x.f0 x.f1 x.f2 x.f3 x.f4 i = some (nodeAt x i) := by
  unfold impl_Node_isNode.f nodeAt ownB upB
  simp only [impl_Node_isNode.j0, impl_Node_isNode.j1, within_eq, Option.bind_some]
  rw [wrap_id (by omega) (by omega)]
  by_cases h2 : x.f0 = 2
  · have h3 : ¬ x.f0 = 3 := by omega
    have h0 : ¬ x.f0 = 0 := by omega
    have hk : btw x.f0 0 4 = true := btw_iff.2 (by omega)
    cases hu : btw x.f1 0 (i - 1) <;> by_cases hf : x.f3 = 0 <;> simp_all
  · by_cases h3 : x.f0 = 3
    · have h0 : ¬ x.f0 = 0 := by omega
      have hk : btw x.f0 0 4 = true := btw_iff.2 (by omega)
      cases hu : btw x.f1 0 (i - 1) <;> cases hk : btw x.f3 1 9 <;> by_cases hd : x.f2 = 9223372036854775807 <;> simp_all
    · cases hk : btw x.f0 0 4
      · simp_all
      · by_cases h0 : x.f0 = 0
        · by_cases hu : x.f1 = -1 <;> by_cases hf : x.f3 = 0 <;> by_cases hd : x.f2 = 9223372036854775807 <;> simp_all
        · cases hu : btw x.f1 0 (i - 1) <;> by_cases hf : x.f3 = 0 <;> by_cases hd : x.f2 = 9223372036854775807 <;> simp_all
/-- Nodes are a tree. -/
def treeB (t : List S30) : Bool := decide (t.length ≤ 60) && allFrom (fun i => nodeAt (rd_T30 t i) i) t.length 0
theorem spec_tree (t : List S30) (hn : t.length ≤ 9223372036854775807) : ∃ K, ∀ k, K ≤ k → spec_TreeOk.f k t = some (treeB t) := by
  unfold treeB
  by_cases h : t.length ≤ 60
  · obtain ⟨K, e⟩ := ev_all (fun k i => spec_TreeOk.l0 k t i) (fun i => nodeAt (rd_T30 t i) i) t.length 1
      (fun k i hk h0 h1 => by
        obtain ⟨k, rfl⟩ : ∃ q, k = q + 1 := ⟨k - 1, by omega⟩
        show spec_TreeOk.l0 (k + 1 + 1) t i = _
        unfold nodeAt upB
        simp only [spec_TreeOk.l0, spec_node k, l1In_eq, Option.bind_some]
        rw [if_pos h1, if_pos h0, wrap_id (x := i - 1) (by omega) (by omega)]
        cases ownB (rd_T30 t i) with
        | false => simp
        | true => by_cases hf : (rd_T30 t i).f0 = 0 <;> simp [hf])
      (fun k i h => by show spec_TreeOk.l0 (k + 1) t i = _; simp only [spec_TreeOk.l0]; rw [if_neg h]) hn
    refine ⟨K, fun k hk => ?_⟩
    unfold spec_TreeOk.f
    rw [if_neg (by omega), decide_eq_true h, Bool.true_and]
    exact e k hk
  · refine ⟨0, fun k _ => ?_⟩
    unfold spec_TreeOk.f
    rw [if_pos (by omega)]
    simp [h]
theorem impl_tree (t : List S30) (hn : t.length ≤ 9223372036854775807) : ∃ K, ∀ k, K ≤ k → impl_TreeOk.f k t = some (treeB t) := by
  have e := ev_all (fun k i => impl_TreeOk.l0 k t (t.length : Int) i) (fun i => !(i == 60) && nodeAt (rd_T30 t i) i) t.length 2
      (fun k i hk h0 h1 => by
        obtain ⟨k, rfl⟩ : ∃ q, k = q + 2 := ⟨k - 2, by omega⟩
        show impl_TreeOk.l0 (k + 2 + 1) t _ i = (if _ then impl_TreeOk.l0 (k + 2) t _ _ else _)
        generalize hw : impl_TreeOk.l0 (k + 2) t (t.length : Int) (wrap64 (i + 1)) = R
        rw [impl_TreeOk.l0, impl_node k _ i h0 (by omega), hw]
        simp only [Option.bind_some]
        rw [if_pos h1, if_pos h0, if_pos h1]
        by_cases h60 : i = 60 <;> simp [h60])
      (fun k i h => by show impl_TreeOk.l0 (k + 1) t _ i = _; simp only [impl_TreeOk.l0]; rw [if_neg h]) hn
  have hb : allFrom (fun i => !(i == 60) && nodeAt (rd_T30 t i) i) t.length 0 = treeB t := by
    unfold treeB
    rw [Bool.eq_iff_iff, Bool.and_eq_true, allFrom_iff, allFrom_iff, decide_eq_true_eq]
    constructor
    · intro h
      refine ⟨?_, fun j h0 h1 => by have := h j h0 h1; simp at this; exact this.2⟩
      apply Decidable.byContradiction
      intro hc
      have := h 60 (by omega) (by omega)
      simp at this
    · rintro ⟨hl, h⟩ j h0 h1
      have := h j h0 h1
      simp [this]
      omega
  rw [hb] at e
  exact e
theorem sz_nodes (l : List S24) (hn : l.length ≤ 9223372036854775807) : laws_szNodeS.f l 1048576 = some (if l.length ≤ 1048576 then 1048576 - (l.length : Int) else -1) := by
  unfold laws_szNodeS.f
  rw [wrap_id (by omega) (by omega)]
  by_cases h : l.length ≤ 1048576
  · rw [if_neg (by omega), if_pos h]
  · rw [if_pos (by omega), if_neg h]
/-- A node of the statements as one of the program. -/
def nodeOf (x : S24) : S30 := ⟨x.f0, x.f1, x.f2, x.f3, x.f4⟩
theorem to_nodes (l : List S24) (hn : l.length ≤ 1048576) : ∃ K, ∀ k, K ≤ k → laws_toNodeS.f k l = some (l.map nodeOf) := by
  obtain ⟨K, e⟩ := ev_copy (fun k a b i => laws_toNodeS.l0 k a b i) nodeOf z24 (fun k x0 x3 i => by
    show laws_toNodeS.l0 (k + 1) x0 x3 i = _
    simp only [laws_toNodeS.l0, laws_toNode.f, Option.bind_some]
    rfl) l z30 (by omega)
  refine ⟨K, fun k hk => ?_⟩
  unfold laws_toNodeS.f
  rw [if_pos (by omega), if_pos (by omega), Int.toNat_natCast]
  exact e k hk
theorem eq_nodes (l : List S30) (hn : l.length ≤ 1048576) : ∃ K, ∀ k, K ≤ k → laws_eqNodeS.f k l l = some true := by
  obtain ⟨K, e⟩ := ev_same (fun k a b i => laws_eqNodeS.l0 k a b i) l (fun k i h0 h1 => by
    show laws_eqNodeS.l0 (k + 1) l l i = _
    simp only [laws_eqNodeS.l0, laws_eqNode.f, Option.bind_some, if_true]
    rw [if_pos h1, if_pos h0, if_pos h1]) (fun k i h => by
    show laws_eqNodeS.l0 (k + 1) l l i = _
    simp only [laws_eqNodeS.l0]
    rw [if_neg h]) (by omega)
  refine ⟨K, fun k hk => ?_⟩
  unfold laws_eqNodeS.f
  rw [if_pos rfl]
  exact e k hk
theorem treeB_len {t : List S30} (h : treeB t = true) : t.length ≤ 60 := by
  unfold treeB at h
  simp at h
  exact h.1
theorem treeB_at {t : List S30} (h : treeB t = true) (i : Int) (h0 : 0 ≤ i) (h1 : i < (t.length : Int)) : ownB (rd_T30 t i) = true ∧ upB (rd_T30 t i) i = true := by
  unfold treeB at h
  rw [Bool.and_eq_true, allFrom_iff] at h
  have := h.2 i (by omega) (by omega)
  unfold nodeAt at this
  simpa using this
theorem treeB_up {t : List S30} (h : treeB t = true) (i : Int) (h0 : 0 ≤ i) (h1 : i < (t.length : Int)) : -1 ≤ (rd_T30 t i).f1 ∧ (rd_T30 t i).f1 < i ∧ (¬ (rd_T30 t i).f0 = 0 → 0 ≤ (rd_T30 t i).f1) := by
  have hu := (treeB_at h i h0 h1).2
  unfold upB at hu
  split at hu
  · rename_i hz
    have : (rd_T30 t i).f1 = -1 := by simpa using hu
    omega
  · have := btw_iff.1 hu
    omega
/-- The mark of an element. -/
def mkNodeS (c : Int) : S30 := ⟨c, wrap64 (c + 1), wrap64 ((wrap64 (c + 1)) + 1), wrap64 ((wrap64 ((wrap64 (c + 1)) + 1)) + 1), wrap64 ((wrap64 ((wrap64 ((wrap64 (c + 1)) + 1)) + 1)) + 1)⟩
def nxNodeS (c : Int) : Int := wrap64 ((wrap64 ((wrap64 ((wrap64 ((wrap64 (c + 1)) + 1)) + 1)) + 1)) + 1)
theorem nxNodeS_add (c : Int) (h0 : 0 ≤ c) (h1 : c ≤ 4611686018427387904) : nxNodeS c = c + 5 := by
  unfold nxNodeS wrap64
  omega
theorem mark_NodeS (l : List S30) (c : Int) (hc0 : 0 ≤ c) (hc : c ≤ 1000000000) (hn : l.length ≤ 1048576) : ∃ K, ∀ k, K ≤ k → laws_markNodeS.f k l c = some (c + 5 * (l.length : Int), marks mkNodeS nxNodeS l.length c) := by
  obtain ⟨K, e⟩ := ev_mark (fun k x0 c i => laws_markNodeS.l0 k x0 c i) mkNodeS nxNodeS (fun k x0 c i => by
    show laws_markNodeS.l0 (k + 1) x0 c i = _
    rw [laws_markNodeS.l0]
    by_cases h : i < (x0.length : Int)
    · by_cases h0 : 0 ≤ i
      · have hr : ∀ v, rd_T30 (x0.set i.toNat v) i = v := fun v => by
          unfold rd_T30
          rw [getD_lt _ (by rw [List.length_set]; omega), List.getElem_set_self]
        rw [if_pos h, if_pos h0, if_pos h, if_pos h0]
        try simp only [Option.bind_some, hr, List.set_set]
        rfl
      · rw [if_pos h, if_neg h0, if_pos h, if_neg h0]
    · rw [if_neg h, if_neg h]) l c (by omega)
  refine ⟨K, fun k hk => ?_⟩
  unfold laws_markNodeS.f
  rw [← endOf_add nxNodeS 5 (by omega) (by omega) (fun c h0 h1 => nxNodeS_add c h0 h1) l.length c (by omega) (by omega)]
  exact e k hk
theorem held_NodeS (n : Nat) (c : Int) (hc0 : 0 ≤ c) (hc : c ≤ 1000000000) (hn : n ≤ 1048576) : ∃ K, ∀ k, K ≤ k → laws_heldNodeS.f k (marks mkNodeS nxNodeS n c) c = some (c + 5 * (n : Int)) := by
  obtain ⟨K, e⟩ := ev_held (fun k x0 c i => laws_heldNodeS.l0 k x0 c i) mkNodeS nxNodeS z30 (fun k x0 c i h0 h1 he => by
    show laws_heldNodeS.l0 (k + 1) x0 c i = _
    have hr : rd_T30 x0 i = mkNodeS c := he
    rw [laws_heldNodeS.l0, if_pos h1, if_pos h0, hr]
    unfold mkNodeS nxNodeS
    simp) (fun k x0 c i h => by
    show laws_heldNodeS.l0 (k + 1) x0 c i = _
    rw [laws_heldNodeS.l0, if_neg h]) n c (by omega)
  refine ⟨K, fun k hk => ?_⟩
  unfold laws_heldNodeS.f
  rw [← endOf_add nxNodeS 5 (by omega) (by omega) (fun c h0 h1 => nxNodeS_add c h0 h1) n c (by omega) (by omega)]
  exact e k hk
theorem eqL_NodeS (l : List S30) (hn : l.length ≤ 4611686018427387904) : ∃ K, ∀ k, K ≤ k → laws_eqNodeS.f k l l = some true := by
  obtain ⟨K, e⟩ := ev_same (fun k a b i => laws_eqNodeS.l0 k a b i) l (fun k i h0 h1 => by
    show laws_eqNodeS.l0 (k + 1) l l i = laws_eqNodeS.l0 k l l (wrap64 (i + 1))
    generalize hw : laws_eqNodeS.l0 k l l (wrap64 (i + 1)) = R
    rw [laws_eqNodeS.l0, hw]
    simp [laws_eqNode.f, h0, h1]) (fun k i h => by
    show laws_eqNodeS.l0 (k + 1) l l i = _
    rw [laws_eqNodeS.l0, if_neg h]) hn
  refine ⟨K, fun k hk => ?_⟩
  unfold laws_eqNodeS.f
  rw [if_pos rfl]
  exact e k hk
theorem copy_eq (l : List S30) (hn : l.length ≤ 1048576) : spec_l5Copy.f l = some l := by
  unfold spec_l5Copy.f
  simp only [Option.bind_some, List.nil_append, List.length_nil]
  rw [if_pos (by omega)]
theorem clone_eq (l : List S30) (hn : l.length ≤ 1048576) : impl_Node_62.f l = some l := by
  unfold impl_Node_62.f
  simp only [Option.bind_some, List.nil_append, List.length_nil]
  rw [if_pos (by omega)]
/-- A node more. -/
def grownB (t : List S30) (n : S30) : List S30 × Int :=
  if treeB t = true then (if t.length < 60 ∧ nodeAt n (t.length : Int) = true then (t ++ [n], (t.length : Int)) else (t, -1)) else ([], -1)
theorem rd_snoc_lt (t : List S30) (n : S30) (i : Int) (h0 : 0 ≤ i) (h1 : i < (t.length : Int)) : rd_T30 (t ++ [n]) i = rd_T30 t i := by
  unfold rd_T30
  rw [getD_lt _ (by rw [List.length_append]; simp; omega), getD_lt _ (by omega), List.getElem_append_left]
theorem rd_snoc_eq (t : List S30) (n : S30) : rd_T30 (t ++ [n]) (t.length : Int) = n := by
  unfold rd_T30
  rw [getD_lt _ (by rw [List.length_append]; simp), List.getElem_append_right (by simp)]
  simp
theorem treeB_snoc (t : List S30) (n : S30) (h : treeB t = true) : treeB (t ++ [n]) = (decide (t.length < 60) && nodeAt n (t.length : Int)) := by
  have hl := treeB_len h
  rw [Bool.eq_iff_iff]
  unfold treeB at h ⊢
  rw [Bool.and_eq_true, allFrom_iff, decide_eq_true_eq] at h
  rw [Bool.and_eq_true, Bool.and_eq_true, allFrom_iff, decide_eq_true_eq, decide_eq_true_eq]
  have e : (t ++ [n]).length = t.length + 1 := by simp
  constructor
  · rintro ⟨h1, h2⟩
    refine ⟨by omega, ?_⟩
    have := h2 (t.length : Int) (by omega) (by rw [e]; omega)
    rwa [rd_snoc_eq] at this
  · rintro ⟨h1, h2⟩
    refine ⟨by omega, fun j h0 h3 => ?_⟩
    rw [e] at h3
    by_cases hj : j = (t.length : Int)
    · rw [hj, rd_snoc_eq]; exact h2
    · rw [rd_snoc_lt t n j h0 (by omega)]
      exact h.2 j h0 (by omega)
theorem grownB_length (t : List S30) (n : S30) : (grownB t n).1.length ≤ t.length + 1 := by
  unfold grownB
  split
  · split <;> simp
  · simp
theorem spec_grown (t : List S30) (n : S30) (hn : t.length ≤ 1048576) : ∃ K, ∀ k, K ≤ k → spec_Grown.f k t n.f0 n.f1 n.f2 n.f3 n.f4 = some (grownB t n) := by
  obtain ⟨K, h⟩ := spec_tree t (by omega)
  obtain ⟨K2, h2⟩ := spec_tree (t ++ [n]) (by simp; omega)
  refine ⟨K + K2, fun k hk => ?_⟩
  unfold spec_Grown.f grownB
  rw [h k (by omega)]
  simp only [Option.bind_some]
  cases ht : treeB t with
  | false => rfl
  | true =>
    rw [if_pos rfl, if_pos rfl, copy_eq t hn]
    simp only [Option.bind_some]
    rw [if_pos (by simp; omega), show (⟨n.f0, n.f1, n.f2, n.f3, n.f4⟩ : S30) = n from rfl, h2 k (by omega), treeB_snoc t n ht]
    simp only [Option.bind_some]
    by_cases hc : t.length < 60 ∧ nodeAt n (t.length : Int) = true
    · rw [if_pos (by simp [hc]), if_pos hc]
    · rw [if_neg (by simpa using hc), if_neg hc]
theorem impl_grown (t : List S30) (n : S30) (hn : t.length ≤ 1048576) : ∃ K, ∀ k, K ≤ k → impl_Grown.f k t n.f0 n.f1 n.f2 n.f3 n.f4 = some (grownB t n) := by
  obtain ⟨K, h⟩ := impl_tree t (by omega)
  refine ⟨K + 3, fun k hk => ?_⟩
  obtain ⟨k, rfl⟩ : ∃ q, k = q + 3 := ⟨k - 3, by omega⟩
  have jt : impl_Grown.j0 (k + 3) t true n.f0 n.f1 n.f2 n.f3 n.f4 = some (t, -1) := by
    rw [impl_Grown.j0, clone_eq t hn]
    rfl
  have jf : impl_Grown.j0 (k + 3) t false n.f0 n.f1 n.f2 n.f3 n.f4 = some (t ++ [n], (t.length : Int)) := by
    rw [impl_Grown.j0, clone_eq t hn]
    unfold impl_Node_63.f
    simp only [Option.bind_some, Bool.false_eq_true, if_false]
    rw [if_pos (by simp; omega)]
  unfold impl_Grown.f grownB
  rw [h (k + 3) (by omega), impl_node (k + 1) n (t.length : Int) (by omega) (by omega)]
  simp only [Option.bind_some]
  cases ht : treeB t with
  | false => rfl
  | true =>
    have hl := treeB_len ht
    rw [if_pos rfl, if_pos rfl]
    by_cases h60 : (t.length : Int) = 60
    · rw [if_pos h60, jt, if_neg (by omega)]
    · rw [if_neg h60]
      cases hc : nodeAt n (t.length : Int) with
      | false => rw [if_neg (by simp)]; exact jt
      | true => rw [if_pos (by simp; omega)]; exact jf
theorem FnExactGrown : ∀ (l0 : List (S24)) (a1_0 : Int) (a1_1 : Int) (a1_2 : Int) (a1_3 : Int) (a1_4 : Int), l0.length ≤ 9223372036854775807 → (∀ x_ ∈ l0, (wf64 x_.f0 ∧ wf64 x_.f1 ∧ wf64 x_.f2 ∧ wf64 x_.f3 ∧ wf64 x_.f4)) → (wf64 a1_0 ∧ wf64 a1_1 ∧ wf64 a1_2 ∧ wf64 a1_3 ∧ wf64 a1_4) → ∃ k, laws_FnExactGrown.f k l0 a1_0 a1_1 a1_2 a1_3 a1_4 = some true := by
  intro l x0 x1 x2 x3 x4 hn _ _
  by_cases h : l.length ≤ 1048576
  · have hL := grownB_length (l.map nodeOf) ⟨x0, x1, x2, x3, x4⟩
    have hL2 : (l.map nodeOf).length = l.length := List.length_map ..
    by_cases hbig : l.length < 1048576
    · obtain ⟨K, q⟩ := both (to_nodes l h) (both (spec_grown (l.map nodeOf) ⟨x0, x1, x2, x3, x4⟩ (by omega)) (both (impl_grown (l.map nodeOf) ⟨x0, x1, x2, x3, x4⟩ (by omega)) (both (eq_nodes (l.map nodeOf) (by omega)) (both (mark_NodeS (l.map nodeOf) 1 (by omega) (by omega) (by omega)) (both (eqL_NodeS (grownB (l.map nodeOf) ⟨x0, x1, x2, x3, x4⟩).1 (by omega)) (both (mark_NodeS (grownB (l.map nodeOf) ⟨x0, x1, x2, x3, x4⟩).1 1 (by omega) (by omega) (by omega)) (held_NodeS (grownB (l.map nodeOf) ⟨x0, x1, x2, x3, x4⟩).1.length 1 (by omega) (by omega) (by omega))))))))
      have a0 := q K (by omega)
      have a1 := q (K + 1) (by omega)
      have a2 := q (K + 2) (by omega)
      have a3 := q (K + 3) (by omega)
      have z1 : ¬ (1048576 - (l.length : Int) < 0) := by omega
      have z2 : ¬ (1 + 5 * ((l.map nodeOf).length : Int) < 0) := by omega
      have z3 : ¬ (1 + 5 * ((grownB (l.map nodeOf) ⟨x0, x1, x2, x3, x4⟩).1.length : Int) < 0) := by omega
      refine ⟨K + 3, ?_⟩
      clear q hL hL2
      dsimp only at a0 a1 a2 a3
      unfold laws_FnExactGrown.f laws_toNode.f
      rw [sz_nodes l hn, if_pos h]
      simp only [Option.bind_some, z1, if_false, a0, a1, a2, a3, if_true, bne_self_eq_false, laws_FnExactGrown.j0, laws_FnExactGrown.j1, laws_FnExactGrown.j2, laws_toNode.f, Bool.false_eq_true, z2, z3]
    · have hne : l.length = 1048576 := by omega
      have ht : treeB (l.map nodeOf) = false := by
        rw [Bool.eq_false_iff]
        intro hc
        have := treeB_len hc
        omega
      have hg : grownB (l.map nodeOf) ⟨x0, x1, x2, x3, x4⟩ = ([], -1) := by
        unfold grownB
        rw [ht]
        rfl
      obtain ⟨K, q⟩ := both (to_nodes l h) (both (spec_grown (l.map nodeOf) ⟨x0, x1, x2, x3, x4⟩ (by omega)) (both (impl_grown (l.map nodeOf) ⟨x0, x1, x2, x3, x4⟩ (by omega)) (both (eq_nodes (l.map nodeOf) (by omega)) (both (mark_NodeS (l.map nodeOf) 1 (by omega) (by omega) (by omega)) (both (eqL_NodeS ([] : List S30) (by simp)) (both (mark_NodeS ([] : List S30) 1 (by omega) (by omega) (by simp)) (held_NodeS 0 1 (by omega) (by omega) (by simp))))))))
      rw [hg] at q
      have a0 := q K (by omega)
      have a1 := q (K + 1) (by omega)
      have a2 := q (K + 2) (by omega)
      have a3 := q (K + 3) (by omega)
      have z1 : ¬ (1048576 - (l.length : Int) < 0) := by omega
      have z2 : ¬ (1 + 5 * ((l.map nodeOf).length : Int) < 0) := by omega
      have z3 : ¬ (1 + 5 * ((0 : Nat) : Int) < 0) := by omega
      refine ⟨K + 3, ?_⟩
      clear q hL hL2
      simp only [List.length_nil] at a0 a1 a2 a3
      unfold laws_FnExactGrown.f laws_toNode.f
      rw [sz_nodes l hn, if_pos h]
      simp only [Option.bind_some, z1, if_false, a0, a1, a2, a3, if_true, bne_self_eq_false, laws_FnExactGrown.j0, laws_FnExactGrown.j1, laws_FnExactGrown.j2, laws_toNode.f, Bool.false_eq_true, z2, z3]
  · refine ⟨0, ?_⟩
    unfold laws_FnExactGrown.f
    rw [sz_nodes l hn, if_neg h]
    simp

end Go.Proofs.Ytcndchcepajmjaa.Pure
