/- ValueIn of the program and of the reference return the same for all nodes and all numbers, and the nodes stay as they were; no condition. -/
import Derived.Test.YtggajlaifoddeaaOpen
import Derived.Test.YtggajlaifoddeaaPLib
import Derived.Test.YtggajlaifoddeaaPFnExactValueInx4
namespace Go.Proofs.Ytggajlaifoddeaa.Pure
open Go.RowKit Go.Proofs.YtggajlaifoddeaaOpen Go.Proofs.YtggajlaifoddeaaPLib Go.Proofs.Ytggajlaifoddeaa.PFnExactValueIn Go.Proofs.YtggajlaifoddeaaW.PrintWords Go.Proofs.YtggajlaifoddeaaW.PrintLast
set_option linter.unusedVariables false
set_option linter.unusedSimpArgs false

theorem l1In_eq (a b c : Int) : spec_l1In.f a b c = some (btw a b c) := by
  unfold spec_l1In.f btw
  by_cases h : b ≤ a
  · rw [if_pos h]; simp [h]
  · rw [if_neg h]; simp [h]
theorem within_eq (a b c : Int) : impl_within.f a b c = some (btw a b c) := by
  unfold impl_within.f btw
  by_cases h : b ≤ a
  · rw [if_pos h]; simp [h]
  · rw [if_neg h]; simp [h]
/-- What the document asks of a node for itself. -/
def ownB (x : S90) : Bool := ((x.f0 == 2) || (x.f2 == 9223372036854775807)) && (if x.f0 = 3 then btw x.f3 1 9 && btw x.f4 0 999 else btw x.f0 0 4 && ((x.f3 == 0) && (x.f4 == 0)))
/-- What it asks of the node above it. -/
def upB (x : S90) (i : Int) : Bool := if x.f0 = 0 then x.f1 == -1 else btw x.f1 0 (i - 1)
def nodeAt (x : S90) (i : Int) : Bool := ownB x && upB x i
theorem spec_node (k : Nat) (x : S90) : spec_l5Node.f (k + 1) x.f0 x.f1 x.f2 x.f3 x.f4 = some (ownB x) := by
  unfold spec_l5Node.f ownB
  simp only [spec_l5Node.j0, l1In_eq, Option.bind_some]
  by_cases h2 : x.f0 = 2
  · have h3 : ¬ x.f0 = 3 := by omega
    cases hk : btw x.f0 0 4 <;> by_cases hf : x.f3 = 0 <;> simp_all
  · by_cases h3 : x.f0 = 3
    · cases hk : btw x.f3 1 9 <;> by_cases hd : x.f2 = 9223372036854775807 <;> simp_all
    · cases hk : btw x.f0 0 4 <;> by_cases hf : x.f3 = 0 <;> by_cases hd : x.f2 = 9223372036854775807 <;> simp_all
theorem impl_node (k : Nat) (x : S90) (i : Int) (h0 : 0 ≤ i) (h1 : i ≤ 9223372036854775807) : impl_Node_isNode.f (k + 2) x.f0 x.f1 x.f2 x.f3 x.f4 i = some (nodeAt x i) := by
  unfold impl_Node_isNode.f nodeAt ownB upB
  simp only [impl_Node_isNode.j0, impl_Node_isNode.j1, within_eq, Option.bind_some]
  rw [wrap_id (by omega) (by omega)]
  by_cases h2 : x.f0 = 2
  · have h3 : ¬ x.f0 = 3 := by omega
    have h0 : ¬ x.f0 = 0 := by omega
    have hk : btw x.f0 0 4 = true := btw_iff.2 (by omega)
    cases hu : btw x.f1 0 (i - 1) <;> by_cases hf : x.f3 = 0 <;> simp_all
  · by_cases h3 : x.f0 = 3
    · have h0 : ¬ x.f0 = 0 := by omega
      have hk : btw x.f0 0 4 = true := btw_iff.2 (by omega)
      cases hu : btw x.f1 0 (i - 1) <;> cases hk : btw x.f3 1 9 <;> by_cases hd : x.f2 = 9223372036854775807 <;> simp_all
    · cases hk : btw x.f0 0 4
      · simp_all
      · by_cases h0 : x.f0 = 0
        · by_cases hu : x.f1 = -1 <;> by_cases hf : x.f3 = 0 <;> by_cases hd : x.f2 = 9223372036854775807 <;> simp_all
        · cases hu : btw x.f1 0 (i - 1) <;> by_cases hf : x.f3 = 0 <;> by_cases hd : x.f2 = 9223372036854775807 <;> simp_all
/-- Nodes are a tree. -/
def treeB (t : List S90) : Bool := decide (t.length ≤ 60) && allFrom (fun i => nodeAt (rd_T90 t i) i) t.length 0
theorem spec_tree (t : List S90) (hn : t.length ≤ 9223372036854775807) : ∃ K, ∀ k, K ≤ k → spec_TreeOk.f k t = some (treeB t) := by
  unfold treeB
  by_cases h : t.length ≤ 60
  · obtain ⟨K, e⟩ := ev_all (fun k i => spec_TreeOk.l0 k t i) (fun i => nodeAt (rd_T90 t i) i) t.length 1
      (fun k i hk h0 h1 => by
        obtain ⟨k, rfl⟩ : ∃ q, k = q + 1 := ⟨k - 1, by omega⟩
        show spec_TreeOk.l0 (k + 1 + 1) t i = _
        unfold nodeAt upB
        simp only [spec_TreeOk.l0, spec_node k, l1In_eq, Option.bind_some]
        rw [if_pos h1, if_pos h0, wrap_id (x := i - 1) (by omega) (by omega)]
        cases ownB (rd_T90 t i) with
        | false => simp
        | true => by_cases hf : (rd_T90 t i).f0 = 0 <;> simp [hf])
      (fun k i h => by show spec_TreeOk.l0 (k + 1) t i = _; simp only [spec_TreeOk.l0]; rw [if_neg h]) hn
    refine ⟨K, fun k hk => ?_⟩
    unfold spec_TreeOk.f
    rw [if_neg (by omega), decide_eq_true h, Bool.true_and]
    exact e k hk
  · refine ⟨0, fun k _ => ?_⟩
    unfold spec_TreeOk.f
    rw [if_pos (by omega)]
    simp [h]
theorem impl_tree (t : List S90) (hn : t.length ≤ 9223372036854775807) : ∃ K, ∀ k, K ≤ k → impl_TreeOk.f k t = some (treeB t) := by
  have e := ev_all (fun k i => impl_TreeOk.l0 k t (t.length : Int) i) (fun i => !(i == 60) && nodeAt (rd_T90 t i) i) t.length 2
      (fun k i hk h0 h1 => by
        obtain ⟨k, rfl⟩ : ∃ q, k = q + 2 := ⟨k - 2, by omega⟩
        show impl_TreeOk.l0 (k + 2 + 1) t _ i = (if _ then impl_TreeOk.l0 (k + 2) t _ _ else _)
        generalize hw : impl_TreeOk.l0 (k + 2) t (t.length : Int) (wrap64 (i + 1)) = R
        rw [impl_TreeOk.l0, impl_node k _ i h0 (by omega), hw]
        simp only [Option.bind_some]
        rw [if_pos h1, if_pos h0, if_pos h1]
        by_cases h60 : i = 60 <;> simp [h60])
      (fun k i h => by show impl_TreeOk.l0 (k + 1) t _ i = _; simp only [impl_TreeOk.l0]; rw [if_neg h]) hn
  have hb : allFrom (fun i => !(i == 60) && nodeAt (rd_T90 t i) i) t.length 0 = treeB t := by
    unfold treeB
    rw [Bool.eq_iff_iff, Bool.and_eq_true, allFrom_iff, allFrom_iff, decide_eq_true_eq]
    constructor
    · intro h
      refine ⟨?_, fun j h0 h1 => by have := h j h0 h1; simp at this; exact this.2⟩
      apply Decidable.byContradiction
      intro hc
      have := h 60 (by omega) (by omega)
      simp at this
    · rintro ⟨hl, h⟩ j h0 h1
      have := h j h0 h1
      simp [this]
      omega
  rw [hb] at e
  exact e
theorem sz_nodes (l : List S92) (hn : l.length ≤ 9223372036854775807) : laws_szNodeS.f l 1048576 = some (if l.length ≤ 1048576 then 1048576 - (l.length : Int) else -1) := by
  unfold laws_szNodeS.f
  rw [wrap_id (by omega) (by omega)]
  by_cases h : l.length ≤ 1048576
  · rw [if_neg (by omega), if_pos h]
  · rw [if_pos (by omega), if_neg h]
/-- A node of the statements as one of the program. -/
def nodeOf (x : S92) : S90 := ⟨x.f0, x.f1, x.f2, x.f3, x.f4⟩
theorem to_nodes (l : List S92) (hn : l.length ≤ 1048576) : ∃ K, ∀ k, K ≤ k → laws_toNodeS.f k l = some (l.map nodeOf) := by
  obtain ⟨K, e⟩ := ev_copy (fun k a b i => laws_toNodeS.l0 k a b i) nodeOf z92 (fun k x0 x3 i => by
    show laws_toNodeS.l0 (k + 1) x0 x3 i = _
    simp only [laws_toNodeS.l0, laws_toNode.f, Option.bind_some]
    rfl) l z90 (by omega)
  refine ⟨K, fun k hk => ?_⟩
  unfold laws_toNodeS.f
  rw [if_pos (by omega), if_pos (by omega), Int.toNat_natCast]
  exact e k hk
theorem eq_nodes (l : List S90) (hn : l.length ≤ 1048576) : ∃ K, ∀ k, K ≤ k → laws_eqNodeS.f k l l = some true := by
  obtain ⟨K, e⟩ := ev_same (fun k a b i => laws_eqNodeS.l0 k a b i) l (fun k i h0 h1 => by
    show laws_eqNodeS.l0 (k + 1) l l i = _
    simp only [laws_eqNodeS.l0, laws_eqNode.f, Option.bind_some, if_true]
    rw [if_pos h1, if_pos h0, if_pos h1]) (fun k i h => by
    show laws_eqNodeS.l0 (k + 1) l l i = _
    simp only [laws_eqNodeS.l0]
    rw [if_neg h]) (by omega)
  refine ⟨K, fun k hk => ?_⟩
  unfold laws_eqNodeS.f
  rw [if_pos rfl]
  exact e k hk
theorem treeB_len {t : List S90} (h : treeB t = true) : t.length ≤ 60 := by
  unfold treeB at h
  simp at h
  exact h.1
theorem treeB_at {t : List S90} (h : treeB t = true) (i : Int) (h0 : 0 ≤ i) (h1 : i < (t.length : Int)) : ownB (rd_T90 t i) = true ∧ upB (rd_T90 t i) i = true := by
  unfold treeB at h
  rw [Bool.and_eq_true, allFrom_iff] at h
  have := h.2 i (by omega) (by omega)
  unfold nodeAt at this
  simpa using this
theorem treeB_up {t : List S90} (h : treeB t = true) (i : Int) (h0 : 0 ≤ i) (h1 : i < (t.length : Int)) : -1 ≤ (rd_T90 t i).f1 ∧ (rd_T90 t i).f1 < i ∧ (¬ (rd_T90 t i).f0 = 0 → 0 ≤ (rd_T90 t i).f1) := by
  have hu := (treeB_at h i h0 h1).2
  unfold upB at hu
  split at hu
  · rename_i hz
    have : (rd_T90 t i).f1 = -1 := by simpa using hu
    omega
  · have := btw_iff.1 hu
    omega
/-- There is that node in a right tree. -/
def hasB (t : List S90) (n : Int) : Bool := treeB t && btw n 0 ((t.length : Int) - 1)
theorem hasB_iff {t : List S90} {n : Int} : hasB t n = true ↔ treeB t = true ∧ 0 ≤ n ∧ n < (t.length : Int) := by
  unfold hasB
  rw [Bool.and_eq_true, btw_iff]
  constructor <;> rintro ⟨h1, h2, h3⟩ <;> exact ⟨h1, by omega, by omega⟩
theorem spec_has (t : List S90) (n : Int) (hn : t.length ≤ 9223372036854775807) : ∃ K, ∀ k, K ≤ k → spec_l5Has.f k t n = some (hasB t n) := by
  obtain ⟨K, h⟩ := spec_tree t hn
  refine ⟨K, fun k hk => ?_⟩
  unfold spec_l5Has.f hasB
  rw [h k hk]
  simp only [Option.bind_some]
  rw [l1In_eq, wrap_id (by omega) (by omega)]
  cases treeB t <;> simp
theorem impl_isIn (t : List S90) (n : Int) (hn : t.length ≤ 9223372036854775807) : impl_Node_63.f n t = some (btw n 0 ((t.length : Int) - 1)) := by
  unfold impl_Node_63.f impl_Node_90.f
  simp only [Option.bind_some]
  rw [within_eq, wrap_id (by omega) (by omega)]
  rfl
/-- The value of a key at a node. -/
def valF (t : List S90) (key : Int) : Nat → Int → Int × Bool
  | 0, _ => (0, false)
  | m + 1, i => if i < 0 then (0, false) else if (rd_T90 t i).f0 = 3 ∧ (rd_T90 t i).f3 = key then ((rd_T90 t i).f4, true) else valF t key m (rd_T90 t i).f1
theorem spec_value_loop {t : List S90} (h : treeB t = true) (key : Int) : ∀ (m k : Nat) (i : Int), -1 ≤ i → i < (t.length : Int) → i + 1 < m → m ≤ k → spec_ValueIn.l0 k t key i = some (valF t key m i) := by
  intro m
  induction m with
  | zero => intro k i h0 h1 h2; omega
  | succ m ih =>
    intro k i h0 h1 h2 hk
    obtain ⟨k, rfl⟩ : ∃ q, k = q + 1 := ⟨k - 1, by omega⟩
    rw [spec_ValueIn.l0]
    unfold valF
    by_cases hi : i < 0
    · rw [if_neg (by omega), if_pos hi]
    · have hu := treeB_up h i (by omega) h1
      rw [if_pos (by omega), if_pos (by omega), if_pos h1, if_neg hi, ih k _ hu.1 (by omega) (by omega) (by omega)]
      by_cases h3 : (rd_T90 t i).f0 = 3 <;> by_cases h4 : (rd_T90 t i).f3 = key <;> simp [h3, h4]
theorem impl_value_loop {t : List S90} (h : treeB t = true) (key : Int) : ∀ (m k : Nat) (i : Int), -1 ≤ i → i < (t.length : Int) → i + 1 < m → m ≤ k → impl_valueIn.l0 k t i key = some (valF t key m i) := by
  intro m
  induction m with
  | zero => intro k i h0 h1 h2; omega
  | succ m ih =>
    intro k i h0 h1 h2 hk
    obtain ⟨k, rfl⟩ : ∃ q, k = q + 1 := ⟨k - 1, by omega⟩
    rw [impl_valueIn.l0]
    unfold valF
    by_cases hi : i < 0
    · rw [if_neg (by omega), if_pos hi]
    · have hu := treeB_up h i (by omega) h1
      rw [if_pos (by omega), if_pos (by omega), if_pos h1, if_neg hi, ih k _ hu.1 (by omega) (by omega) (by omega)]
      by_cases h3 : (rd_T90 t i).f0 = 3 <;> by_cases h4 : (rd_T90 t i).f3 = key <;> simp [h3, h4]
def valB (t : List S90) (n key : Int) : Int × Bool := if hasB t n = true then valF t key 100 n else (0, false)
theorem spec_value (t : List S90) (n key : Int) (hn : t.length ≤ 9223372036854775807) : ∃ K, ∀ k, K ≤ k → spec_ValueIn.f k t n key = some (valB t n key) := by
  obtain ⟨K, h⟩ := spec_has t n hn
  refine ⟨K + 100, fun k hk => ?_⟩
  unfold spec_ValueIn.f valB
  rw [h k (by omega)]
  simp only [Option.bind_some]
  cases hb : hasB t n with
  | false => rfl
  | true =>
    obtain ⟨ht, h0, h1⟩ := hasB_iff.1 hb
    have hl := treeB_len ht
    rw [if_pos rfl, if_pos rfl]
    exact spec_value_loop ht key 100 k n (by omega) h1 (by omega) (by omega)
theorem impl_value (t : List S90) (n key : Int) (hn : t.length ≤ 9223372036854775807) : ∃ K, ∀ k, K ≤ k → impl_ValueIn.f k t n key = some (valB t n key) := by
  obtain ⟨K, h⟩ := impl_tree t hn
  refine ⟨K + 100, fun k hk => ?_⟩
  unfold impl_ValueIn.f valB
  rw [h k (by omega)]
  simp only [Option.bind_some]
  rw [impl_isIn t n hn]
  simp only [Option.bind_some]
  cases ht : treeB t with
  | false => simp [hasB, ht]
  | true =>
    cases hb : btw n 0 ((t.length : Int) - 1) with
    | false => simp [hasB, ht, hb]
    | true =>
      have hbb : hasB t n = true := by simp [hasB, ht, hb]
      obtain ⟨_, h0, h1⟩ := hasB_iff.1 hbb
      have hl := treeB_len ht
      rw [if_pos rfl, if_pos rfl, if_pos hbb]
      unfold impl_valueIn.f
      rw [impl_value_loop ht key 100 k n (by omega) h1 (by omega) (by omega)]
      rfl
theorem FnExactValueIn : ∀ (l0 : List (S92)) (a1 : Int) (a2 : Int), l0.length ≤ 9223372036854775807 → (∀ x_ ∈ l0, (wf64 x_.f0 ∧ wf64 x_.f1 ∧ wf64 x_.f2 ∧ wf64 x_.f3 ∧ wf64 x_.f4)) → wf64 a1 → wf64 a2 → ∃ k, laws_FnExactValueIn.f k l0 a1 a2 = some true := by
  intro l n key hn _ _ _
  by_cases h : l.length ≤ 1048576
  · obtain ⟨K1, h1⟩ := to_nodes l h
    obtain ⟨K2, h2⟩ := spec_value (l.map nodeOf) n key (by simpa using hn)
    obtain ⟨K3, h3⟩ := impl_value (l.map nodeOf) n key (by simpa using hn)
    obtain ⟨K4, h4⟩ := eq_nodes (l.map nodeOf) (by simpa using h)
    refine ⟨K1 + K2 + K3 + K4 + 1, ?_⟩
    unfold laws_FnExactValueIn.f
    rw [sz_nodes l hn, if_pos h, h1 _ (by omega)]
    simp only [Option.bind_some]
    rw [if_neg (by omega), h2 _ (by omega)]
    simp only [Option.bind_some]
    rw [h3 _ (by omega)]
    simp only [Option.bind_some]
    rw [if_pos trivial]
    simp only [bne_self_eq_false, laws_FnExactValueIn.j0, Bool.false_eq_true, if_false]
    rw [h1 _ (by omega)]
    simp only [Option.bind_some]
    rw [h4 _ (by omega)]
    simp
  · refine ⟨0, ?_⟩
    unfold laws_FnExactValueIn.f
    rw [sz_nodes l hn, if_neg h]
    simp

end Go.Proofs.Ytggajlaifoddeaa.Pure
