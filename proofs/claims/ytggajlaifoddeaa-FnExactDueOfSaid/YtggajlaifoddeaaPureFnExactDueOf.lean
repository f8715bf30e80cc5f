/- DueOf of the program and of the reference return the same for all nodes and all numbers, and the nodes stay as they were; no condition. -/
import Derived.Test.YtggajlaifoddeaaOpen
import Derived.Test.YtggajlaifoddeaaPLib
import Derived.Test.YtggajlaifoddeaaPFnExactDueOfx4
namespace Go.Proofs.Ytggajlaifoddeaa.Pure
open Go.RowKit Go.Proofs.YtggajlaifoddeaaOpen Go.Proofs.YtggajlaifoddeaaPLib Go.Proofs.Ytggajlaifoddeaa.PFnExactDueOf Go.Proofs.YtggajlaifoddeaaW.PrintWords Go.Proofs.YtggajlaifoddeaaW.PrintLast
set_option linter.unusedVariables false
set_option linter.unusedSimpArgs false

theorem l1In_eq (a b c : Int) : spec_l1In.f a b c = some (btw a b c) := by
  unfold spec_l1In.f btw
  by_cases h : b ≤ a
  · rw [if_pos h]; simp [h]
  · rw [if_neg h]; simp [h]
theorem within_eq (a b c : Int) : impl_within.f a b c = some (btw a b c) := by
  unfold impl_within.f btw
  by_cases h : b ≤ a
  · rw [if_pos h]; simp [h]
  · rw [if_neg h]; simp [h]
/-- What the document asks of a node for itself. -/
def ownB (x : S90) : Bool := ((x.f0 == 2) || (x.f2 == 9223372036854775807)) && (if x.f0 = 3 then btw x.f3 1 9 && btw x.f4 0 999 else btw x.f0 0 4 && ((x.f3 == 0) && (x.f4 == 0)))
/-- What it asks of the node above it. -/
def upB (x : S90) (i : Int) : Bool := if x.f0 = 0 then x.f1 == -1 else btw x.f1 0 (i - 1)
def nodeAt (x : S90) (i : Int) : Bool := ownB x && upB x i
theorem spec_node (k : Nat) (x : S90) : spec_l5Node.f (k + 1) x.f0 x.f1 x.f2 x.f3 x.f4 = some (ownB x) := by
  unfold spec_l5Node.f ownB
  simp only [spec_l5Node.j0, l1In_eq, Option.bind_some]
  by_cases h2 : x.f0 = 2
  · have h3 : ¬ x.f0 = 3 := by omega
    cases hk : btw x.f0 0 4 <;> by_cases hf : x.f3 = 0 <;> simp_all
  · by_cases h3 : x.f0 = 3
    · cases hk : btw x.f3 1 9 <;> by_cases hd : x.f2 = 9223372036854775807 <;> simp_all
    · cases hk : btw x.f0 0 4 <;> by_cases hf : x.f3 = 0 <;> by_cases hd : x.f2 = 9223372036854775807 <;> simp_all
theorem impl_node (k : Nat) (x : S90) (i : Int) (h0 : 0 ≤ i) (h1 : i ≤ 9223372036854775807) : impl_Node_isNode.f (k + 2) x.f0 x.f1 x.f2 x.f3 x.f4 i = some (nodeAt x i) := by
  unfold impl_Node_isNode.f nodeAt ownB upB
  simp only [impl_Node_isNode.j0, impl_Node_isNode.j1, within_eq, Option.bind_some]
  rw [wrap_id (by omega) (by omega)]
  by_cases h2 : x.f0 = 2
  · have h3 : ¬ x.f0 = 3 := by omega
    have h0 : ¬ x.f0 = 0 := by omega
    have hk : btw x.f0 0 4 = true := btw_iff.2 (by omega)
    cases hu : btw x.f1 0 (i - 1) <;> by_cases hf : x.f3 = 0 <;> simp_all
  · by_cases h3 : x.f0 = 3
    · have h0 : ¬ x.f0 = 0 := by omega
      have hk : btw x.f0 0 4 = true := btw_iff.2 (by omega)
      cases hu : btw x.f1 0 (i - 1) <;> cases hk : btw x.f3 1 9 <;> by_cases hd : x.f2 = 9223372036854775807 <;> simp_all
    · cases hk : btw x.f0 0 4
      · simp_all
      · by_cases h0 : x.f0 = 0
        · by_cases hu : x.f1 = -1 <;> by_cases hf : x.f3 = 0 <;> by_cases hd : x.f2 = 9223372036854775807 <;> simp_all
        · cases hu : btw x.f1 0 (i - 1) <;> by_cases hf : x.f3 = 0 <;> by_cases hd : x.f2 = 9223372036854775807 <;> simp_all
/-- Nodes are a tree. -/
def treeB (t : List S90) : Bool := decide (t.length ≤ 60) && allFrom (fun i => nodeAt (rd_T90 t i) i) t.length 0
theorem spec_tree (t : List S90) (hn : t.length ≤ 9223372036854775807) : ∃ K, ∀ k, K ≤ k → spec_TreeOk.f k t = some (treeB t) := by
  unfold treeB
  by_cases h : t.length ≤ 60
  · obtain ⟨K, e⟩ := ev_all (fun k i => spec_TreeOk.l0 k t i) (fun i => nodeAt (rd_T90 t i) i) t.length 1
      (fun k i hk h0 h1 => by
        obtain ⟨k, rfl⟩ : ∃ q, k = q + 1 := ⟨k - 1, by omega⟩
        show spec_TreeOk.l0 (k + 1 + 1) t i = _
        unfold nodeAt upB
        simp only [spec_TreeOk.l0, spec_node k, l1In_eq, Option.bind_some]
        rw [if_pos h1, if_pos h0, wrap_id (x := i - 1) (by omega) (by omega)]
        cases ownB (rd_T90 t i) with
        | false => simp
        | true => by_cases hf : (rd_T90 t i).f0 = 0 <;> simp [hf])
      (fun k i h => by show spec_TreeOk.l0 (k + 1) t i = _; simp only [spec_TreeOk.l0]; rw [if_neg h]) hn
    refine ⟨K, fun k hk => ?_⟩
    unfold spec_TreeOk.f
    rw [if_neg (by omega), decide_eq_true h, Bool.true_and]
    exact e k hk
  · refine ⟨0, fun k _ => ?_⟩
    unfold spec_TreeOk.f
    rw [if_pos (by omega)]
    simp [h]
theorem impl_tree (t : List S90) (hn : t.length ≤ 9223372036854775807) : ∃ K, ∀ k, K ≤ k → impl_TreeOk.f k t = some (treeB t) := by
  have e := ev_all (fun k i => impl_TreeOk.l0 k t (t.length : Int) i) (fun i => !(i == 60) && nodeAt (rd_T90 t i) i) t.length 2
      (fun k i hk h0 h1 => by
        obtain ⟨k, rfl⟩ : ∃ q, k = q + 2 := ⟨k - 2, by omega⟩
        show impl_TreeOk.l0 (k + 2 + 1) t _ i = (if _ then impl_TreeOk.l0 (k + 2) t _ _ else _)
        generalize hw : impl_TreeOk.l0 (k + 2) t (t.length : Int) (wrap64 (i + 1)) = R
        rw [impl_TreeOk.l0, impl_node k _ i h0 (by omega), hw]
        simp only [Option.bind_some]
        rw [if_pos h1, if_pos h0, if_pos h1]
        by_cases h60 : i = 60 <;> simp [h60])
      (fun k i h => by show impl_TreeOk.l0 (k + 1) t _ i = _; simp only [impl_TreeOk.l0]; rw [if_neg h]) hn
  have hb : allFrom (fun i => !(i == 60) && nodeAt (rd_T90 t i) i) t.length 0 = treeB t := by
    unfold treeB
    rw [Bool.eq_iff_iff, Bool.and_eq_true, allFrom_iff, allFrom_iff, decide_eq_true_eq]
    constructor
    · intro h
      refine ⟨?_, fun j h0 h1 => by have := h j h0 h1; simp at this; exact this.2⟩
      apply Decidable.byContradiction
      intro hc
      have := h 60 (by omega) (by omega)
      simp at this
    · rintro ⟨hl, h⟩ j h0 h1
      have := h j h0 h1
      simp [this]
      omega
  rw [hb] at e
  exact e
theorem sz_nodes (l : List S92) (hn : l.length ≤ 9223372036854775807) : laws_szNodeS.f l 1048576 = some (if l.length ≤ 1048576 then 1048576 - (l.length : Int) else -1) := by
  unfold laws_szNodeS.f
  rw [wrap_id (by omega) (by omega)]
  by_cases h : l.length ≤ 1048576
  · rw [if_neg (by omega), if_pos h]
  · rw [if_pos (by omega), if_neg h]
/-- A node of the statements as one of the program. -/
def nodeOf (x : S92) : S90 := ⟨x.f0, x.f1, x.f2, x.f3, x.f4⟩
theorem to_nodes (l : List S92) (hn : l.length ≤ 1048576) : ∃ K, ∀ k, K ≤ k → laws_toNodeS.f k l = some (l.map nodeOf) := by
  obtain ⟨K, e⟩ := ev_copy (fun k a b i => laws_toNodeS.l0 k a b i) nodeOf z92 (fun k x0 x3 i => by
    show laws_toNodeS.l0 (k + 1) x0 x3 i = _
    simp only [laws_toNodeS.l0, laws_toNode.f, Option.bind_some]
    rfl) l z90 (by omega)
  refine ⟨K, fun k hk => ?_⟩
  unfold laws_toNodeS.f
  rw [if_pos (by omega), if_pos (by omega), Int.toNat_natCast]
  exact e k hk
theorem eq_nodes (l : List S90) (hn : l.length ≤ 1048576) : ∃ K, ∀ k, K ≤ k → laws_eqNodeS.f k l l = some true := by
  obtain ⟨K, e⟩ := ev_same (fun k a b i => laws_eqNodeS.l0 k a b i) l (fun k i h0 h1 => by
    show laws_eqNodeS.l0 (k + 1) l l i = _
    simp only [laws_eqNodeS.l0, laws_eqNode.f, Option.bind_some, if_true]
    rw [if_pos h1, if_pos h0, if_pos h1]) (fun k i h => by
    show laws_eqNodeS.l0 (k + 1) l l i = _
    simp only [laws_eqNodeS.l0]
    rw [if_neg h]) (by omega)
  refine ⟨K, fun k hk => ?_⟩
  unfold laws_eqNodeS.f
  rw [if_pos rfl]
  exact e k hk
theorem treeB_len {t : List S90} (h : treeB t = true) : t.length ≤ 60 := by
  unfold treeB at h
  simp at h
  exact h.1
theorem treeB_at {t : List S90} (h : treeB t = true) (i : Int) (h0 : 0 ≤ i) (h1 : i < (t.length : Int)) : ownB (rd_T90 t i) = true ∧ upB (rd_T90 t i) i = true := by
  unfold treeB at h
  rw [Bool.and_eq_true, allFrom_iff] at h
  have := h.2 i (by omega) (by omega)
  unfold nodeAt at this
  simpa using this
theorem treeB_up {t : List S90} (h : treeB t = true) (i : Int) (h0 : 0 ≤ i) (h1 : i < (t.length : Int)) : -1 ≤ (rd_T90 t i).f1 ∧ (rd_T90 t i).f1 < i ∧ (¬ (rd_T90 t i).f0 = 0 → 0 ≤ (rd_T90 t i).f1) := by
  have hu := (treeB_at h i h0 h1).2
  unfold upB at hu
  split at hu
  · rename_i hz
    have : (rd_T90 t i).f1 = -1 := by simpa using hu
    omega
  · have := btw_iff.1 hu
    omega
/-- There is that node in a right tree. -/
def hasB (t : List S90) (n : Int) : Bool := treeB t && btw n 0 ((t.length : Int) - 1)
theorem hasB_iff {t : List S90} {n : Int} : hasB t n = true ↔ treeB t = true ∧ 0 ≤ n ∧ n < (t.length : Int) := by
  unfold hasB
  rw [Bool.and_eq_true, btw_iff]
  constructor <;> rintro ⟨h1, h2, h3⟩ <;> exact ⟨h1, by omega, by omega⟩
theorem spec_has (t : List S90) (n : Int) (hn : t.length ≤ 9223372036854775807) : ∃ K, ∀ k, K ≤ k → spec_l5Has.f k t n = some (hasB t n) := by
  obtain ⟨K, h⟩ := spec_tree t hn
  refine ⟨K, fun k hk => ?_⟩
  unfold spec_l5Has.f hasB
  rw [h k hk]
  simp only [Option.bind_some]
  rw [l1In_eq, wrap_id (by omega) (by omega)]
  cases treeB t <;> simp
theorem impl_isIn (t : List S90) (n : Int) (hn : t.length ≤ 9223372036854775807) : impl_Node_63.f n t = some (btw n 0 ((t.length : Int) - 1)) := by
  unfold impl_Node_63.f impl_Node_90.f
  simp only [Option.bind_some]
  rw [within_eq, wrap_id (by omega) (by omega)]
  rfl
/-- A node, and those above it up to a root or a cut. -/
def chainF (t : List S90) : Nat → Int → List Int
  | 0, _ => []
  | m + 1, i => i :: (if (rd_T90 t i).f0 = 0 ∨ (rd_T90 t i).f0 = 4 then [] else chainF t m (rd_T90 t i).f1)
theorem chainF_in {t : List S90} (h : treeB t = true) : ∀ (m : Nat) (i : Int), 0 ≤ i → i < (t.length : Int) → i < m → ∀ x ∈ chainF t m i, 0 ≤ x ∧ x < (t.length : Int) := by
  intro m
  induction m with
  | zero => intro i h0 h1 h2; omega
  | succ m ih =>
    intro i h0 h1 h2 x hx
    unfold chainF at hx
    rcases List.mem_cons.1 hx with rfl | hx
    · exact ⟨h0, h1⟩
    · have hu := treeB_up h i h0 h1
      split at hx
      · simp at hx
      · rename_i hc
        have hu2 := hu.2.2 (fun e => hc (.inl e))
        exact ih _ hu2 (by omega) (by omega) x hx
theorem chainF_length (t : List S90) : ∀ (m : Nat) (i : Int), (chainF t m i).length ≤ m := by
  intro m
  induction m with
  | zero => intro i; simp [chainF]
  | succ m ih =>
    intro i
    unfold chainF
    split
    · simp
    · have := ih (rd_T90 t i).f1
      simpa using this
theorem spec_chain_loop {t : List S90} (h : treeB t = true) : ∀ (m k : Nat) (acc : List Int) (i : Int), 0 ≤ i → i < (t.length : Int) → i < m → m ≤ k → acc.length + m ≤ 1000 → spec_ChainOf.l0 k t acc i = some (acc ++ chainF t m i) := by
  intro m
  induction m with
  | zero => intro k acc i h0 h1 h2; omega
  | succ m ih =>
    intro k acc i h0 h1 h2 hk ha
    obtain ⟨k, rfl⟩ : ∃ q, k = q + 1 := ⟨k - 1, by omega⟩
    have hu := treeB_up h i h0 h1
    rw [spec_ChainOf.l0, if_pos (by omega)]
    simp only [Option.bind_some]
    rw [if_pos h0, if_pos h1]
    unfold chainF
    by_cases hr : (rd_T90 t i).f0 = 0
    · rw [if_pos hr, if_pos (.inl hr)]
    · by_cases hc : (rd_T90 t i).f0 = 4
      · rw [if_neg hr, if_pos hc, if_pos (.inr hc)]
      · rw [if_neg hr, if_neg hc, if_neg (by omega)]
        have hu2 := hu.2.2 hr
        rw [ih k (acc ++ [i]) _ hu2 (by omega) (by omega) (by omega) (by rw [List.length_append]; simp; omega), List.append_assoc]
        rfl
theorem impl_chain_loop {t : List S90} (h : treeB t = true) : ∀ (m k : Nat) (acc : List Int) (i : Int), 0 ≤ i → i < (t.length : Int) → i < m → m ≤ k → acc.length + m ≤ 1000 → impl_chain.l0 k t i acc = some (acc ++ (chainF t m i).tail) := by
  intro m
  induction m with
  | zero => intro k acc i h0 h1 h2; omega
  | succ m ih =>
    intro k acc i h0 h1 h2 hk ha
    obtain ⟨k, rfl⟩ : ∃ q, k = q + 1 := ⟨k - 1, by omega⟩
    have hu := treeB_up h i h0 h1
    rw [impl_chain.l0, if_pos h0, if_pos h1]
    unfold chainF
    by_cases hr : (rd_T90 t i).f0 = 0
    · rw [if_pos hr, if_pos (.inl hr)]
      simp
    · by_cases hc : (rd_T90 t i).f0 = 4
      · rw [if_neg hr, if_pos hc, if_pos (.inr hc)]
        simp
      · rw [if_neg hr, if_neg hc, if_pos (by omega), if_neg (by omega)]
        have hu2 := hu.2.2 hr
        rw [ih k (acc ++ [(rd_T90 t i).f1]) _ hu2 (by omega) (by omega) (by omega) (by rw [List.length_append]; simp; omega), List.append_assoc]
        obtain ⟨m, rfl⟩ : ∃ q, m = q + 1 := ⟨m - 1, by omega⟩
        simp [chainF]
theorem impl_chain_eq {t : List S90} (h : treeB t = true) (i : Int) (h0 : 0 ≤ i) (h1 : i < (t.length : Int)) (k : Nat) (hk : 61 ≤ k) : impl_chain.f k t i = some (chainF t 61 i) := by
  have hl := treeB_len h
  unfold impl_chain.f
  rw [impl_chain_loop h 61 k _ i h0 h1 (by omega) hk (by simp)]
  simp [chainF]
theorem spec_chainof (t : List S90) (n : Int) (hn : t.length ≤ 9223372036854775807) : ∃ K, ∀ k, K ≤ k → spec_ChainOf.f k t n = some (if hasB t n = true then chainF t 61 n else []) := by
  obtain ⟨K, h⟩ := spec_has t n hn
  refine ⟨K + 61, fun k hk => ?_⟩
  unfold spec_ChainOf.f
  simp only [Option.bind_some]
  rw [h k (by omega)]
  simp only [Option.bind_some]
  cases hb : hasB t n with
  | false => rfl
  | true =>
    obtain ⟨ht, h0, h1⟩ := hasB_iff.1 hb
    have hl := treeB_len ht
    rw [if_pos rfl, if_pos rfl, spec_chain_loop ht 61 k _ n h0 h1 (by omega) (by omega) (by simp)]
    rfl
/-- The smallest Due of some nodes. -/
def dueL (t : List S90) (l : List Int) (d : Int) : Int := l.foldl (fun d i => mn d (rd_T90 t i).f2) d
theorem min_eq (a b : Int) : spec_l1Min.f a b = some (mn a b) := by
  unfold spec_l1Min.f mn
  by_cases h : a < b
  · rw [if_pos h, if_neg (by omega)]
  · by_cases h2 : b < a
    · rw [if_neg h, if_pos h2]
    · rw [if_neg h, if_neg h2, show a = b by omega]
theorem spec_due_loop (t : List S90) (l : List Int) (hl : l.length ≤ 1000) (hin : ∀ x ∈ l, 0 ≤ x ∧ x < (t.length : Int)) : ∀ (m j k : Nat) (d : Int), j + m = l.length → m < k → spec_DueOf.l0 k t d l (j : Int) = some (dueL t (l.drop j) d) := by
  intro m
  induction m with
  | zero =>
    intro j k d hj hk
    obtain ⟨k, rfl⟩ : ∃ q, k = q + 1 := ⟨k - 1, by omega⟩
    rw [spec_DueOf.l0, if_neg (by omega), List.drop_of_length_le (by omega)]
    rfl
  | succ m ih =>
    intro j k d hj hk
    obtain ⟨k, rfl⟩ : ∃ q, k = q + 1 := ⟨k - 1, by omega⟩
    have hlt : j < l.length := by omega
    have e : rd l (j : Int) = l[j] := by unfold rd; rw [Int.toNat_natCast, getD_lt _ hlt]
    have hx := hin l[j] (List.getElem_mem hlt)
    rw [spec_DueOf.l0, if_pos (by omega), if_pos (by omega), e, if_pos hx.1, if_pos hx.2, min_eq]
    simp only [Option.bind_some]
    rw [wrap_id (by omega) (by omega), show ((j : Int) + 1) = ((j + 1 : Nat) : Int) by omega, ih (j + 1) k _ (by omega) (by omega), List.drop_eq_getElem_cons hlt]
    rfl
theorem impl_due_loop (t : List S90) (l : List Int) (hl : l.length ≤ 1000) (hin : ∀ x ∈ l, 0 ≤ x ∧ x < (t.length : Int)) : ∀ (m j k : Nat) (d : Int), j + m = l.length → m < k → impl_dueOf.l0 k t d l (l.length : Int) (j : Int) = some (dueL t (l.drop j) d) := by
  intro m
  induction m with
  | zero =>
    intro j k d hj hk
    obtain ⟨k, rfl⟩ : ∃ q, k = q + 1 := ⟨k - 1, by omega⟩
    rw [impl_dueOf.l0, if_neg (by omega), List.drop_of_length_le (by omega)]
    rfl
  | succ m ih =>
    intro j k d hj hk
    obtain ⟨k, rfl⟩ : ∃ q, k = q + 1 := ⟨k - 1, by omega⟩
    have hlt : j < l.length := by omega
    have e : rd l (j : Int) = l[j] := by unfold rd; rw [Int.toNat_natCast, getD_lt _ hlt]
    have hx := hin l[j] (List.getElem_mem hlt)
    rw [impl_dueOf.l0, if_pos (by omega), if_pos (by omega), if_pos (by omega), e, if_pos hx.1, if_pos hx.2]
    rw [wrap_id (by omega) (by omega), show ((j : Int) + 1) = ((j + 1 : Nat) : Int) by omega, ih (j + 1) k _ (by omega) (by omega), List.drop_eq_getElem_cons hlt]
    rfl
def dueB (t : List S90) (n : Int) : Int := if hasB t n = true then dueL t (chainF t 61 n) 9223372036854775807 else 9223372036854775807
theorem spec_due (t : List S90) (n : Int) (hn : t.length ≤ 9223372036854775807) : ∃ K, ∀ k, K ≤ k → spec_DueOf.f k t n = some (dueB t n) := by
  obtain ⟨K, h⟩ := spec_chainof t n hn
  refine ⟨K + 100, fun k hk => ?_⟩
  unfold spec_DueOf.f dueB
  rw [h k (by omega)]
  simp only [Option.bind_some]
  cases hb : hasB t n with
  | false =>
    obtain ⟨k, rfl⟩ : ∃ q, k = q + 1 := ⟨k - 1, by omega⟩
    rfl
  | true =>
    obtain ⟨ht, h0, h1⟩ := hasB_iff.1 hb
    have hl := treeB_len ht
    have hc := chainF_length t 61 n
    rw [if_pos rfl, if_pos rfl]
    exact spec_due_loop t (chainF t 61 n) (by omega) (chainF_in ht 61 n h0 h1 (by omega)) (chainF t 61 n).length 0 k _ (by omega) (by omega)
theorem impl_due (t : List S90) (n : Int) (hn : t.length ≤ 9223372036854775807) : ∃ K, ∀ k, K ≤ k → impl_DueOf.f k t n = some (dueB t n) := by
  obtain ⟨K, h⟩ := impl_tree t hn
  refine ⟨K + 100, fun k hk => ?_⟩
  unfold impl_DueOf.f dueB
  rw [h k (by omega)]
  simp only [Option.bind_some]
  rw [impl_isIn t n hn]
  simp only [Option.bind_some]
  cases ht : treeB t with
  | false => simp [hasB, ht]
  | true =>
    cases hb : btw n 0 ((t.length : Int) - 1) with
    | false => simp [hasB, ht, hb]
    | true =>
      have hbb : hasB t n = true := by simp [hasB, ht, hb]
      obtain ⟨_, h0, h1⟩ := hasB_iff.1 hbb
      have hl := treeB_len ht
      have hc := chainF_length t 61 n
      rw [if_pos rfl, if_pos rfl, if_pos hbb]
      unfold impl_dueOf.f
      rw [impl_chain_eq ht n h0 h1 k (by omega)]
      simp only [Option.bind_some]
      rw [show impl_dueOf.l0 k t 9223372036854775807 (chainF t 61 n) ((chainF t 61 n).length : Int) 0 = _ from impl_due_loop t (chainF t 61 n) (by omega) (chainF_in ht 61 n h0 h1 (by omega)) (chainF t 61 n).length 0 k _ (by omega) (by omega)]
      rfl
theorem FnExactDueOf : ∀ (l0 : List (S92)) (a1 : Int), l0.length ≤ 9223372036854775807 → (∀ x_ ∈ l0, (wf64 x_.f0 ∧ wf64 x_.f1 ∧ wf64 x_.f2 ∧ wf64 x_.f3 ∧ wf64 x_.f4)) → wf64 a1 → ∃ k, laws_FnExactDueOf.f k l0 a1 = some true := by
  intro l n hn _ _
  by_cases h : l.length ≤ 1048576
  · obtain ⟨K1, h1⟩ := to_nodes l h
    obtain ⟨K2, h2⟩ := spec_due (l.map nodeOf) n (by simpa using hn)
    obtain ⟨K3, h3⟩ := impl_due (l.map nodeOf) n (by simpa using hn)
    obtain ⟨K4, h4⟩ := eq_nodes (l.map nodeOf) (by simpa using h)
    refine ⟨K1 + K2 + K3 + K4 + 1, ?_⟩
    unfold laws_FnExactDueOf.f
    rw [sz_nodes l hn, if_pos h, h1 _ (by omega)]
    simp only [Option.bind_some]
    rw [if_neg (by omega), h2 _ (by omega)]
    simp only [Option.bind_some]
    rw [h3 _ (by omega)]
    simp only [Option.bind_some]
    rw [if_pos trivial, h4 _ (by omega)]
    simp
  · refine ⟨0, ?_⟩
    unfold laws_FnExactDueOf.f
    rw [sz_nodes l hn, if_neg h]
    simp

end Go.Proofs.Ytggajlaifoddeaa.Pure
