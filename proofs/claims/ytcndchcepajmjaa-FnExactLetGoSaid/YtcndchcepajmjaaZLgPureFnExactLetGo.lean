/- Texts of the claim of the law FnExactLetGo, made smaller by a program of this session: what the claim does not use is left out. No condition. -/
import Derived.Test.YtcndchcepajmjaaZLgOpen
import Derived.Test.YtcndchcepajmjaaZLgPLib
import Derived.Test.YtcndchcepajmjaaZLgPFnExactLetGox11
namespace Go.Proofs.Ytcndchcepajmjaa.Pure
open Go.RowKit Go.Proofs.YtcndchcepajmjaaOpen Go.Proofs.YtcndchcepajmjaaPLib Go.Proofs.Ytcndchcepajmjaa.PFnExactLetGo Go.Proofs.YtcndchcepajmjaaW.PrintWords Go.Proofs.YtcndchcepajmjaaW.PrintLast
set_option linter.unusedVariables false
set_option linter.unusedSimpArgs false
theorem l1In_eq (a b c : Int) : spec_l1In.f a b c = some (btw a b c) := by
  unfold spec_l1In.f btw
  by_cases h : b ≤ a
  · rw [if_pos h]; simp [h]
  · rw [if_neg h]; simp [h]
theorem within_eq (a b c : Int) : impl_within.f a b c = some (btw a b c) := by
  unfold impl_within.f btw
  by_cases h : b ≤ a
  · rw [if_pos h]; simp [h]
  · rw [if_neg h]; simp [h]
/-- What the document asks of a node for itself. -/
def ownB (x : S30) : Bool := ((x.f0 == 2) || (x.f2 == 9223372036854775807)) && (if x.f0 = 3 then btw x.f3 1 9 && btw x.f4 0 999 else btw x.f0 0 4 && ((x.f3 == 0) && (x.f4 == 0)))
/-- What it asks of the node above it. -/
def upB (x : S30) (i : Int) : Bool := if x.f0 = 0 then x.f1 == -1 else btw x.f1 0 (i - 1)
def nodeAt (x : S30) (i : Int) : Bool := ownB x && upB x i
theorem spec_node (k : Nat) (x : S30) : spec_l5Node.f (k + 1) x.f0 x.f1 x.f2 x.f3 x.f4 = some (ownB x) := by
  unfold spec_l5Node.f ownB
  simp only [spec_l5Node.j0, l1In_eq, Option.bind_some]
  by_cases h2 : x.f0 = 2
  · have h3 : ¬ x.f0 = 3 := by omega
    cases hk : btw x.f0 0 4 <;> by_cases hf : x.f3 = 0 <;> simp_all
  · by_cases h3 : x.f0 = 3
    · cases hk : btw x.f3 1 9 <;> by_cases hd : x.f2 = 9223372036854775807 <;> simp_all
    · cases hk : btw x.f0 0 4 <;> by_cases hf : x.f3 = 0 <;> by_cases hd : x.f2 = 9223372036854775807 <;> simp_all
theorem impl_node (k : Nat) (x : S30) (i : Int) (h0 : 0 ≤ i) (h1 : i ≤ 9223372036854775807) : impl_Node_isNode.f (k + 2) x.f0 x.f1 x.f2 x.f3 x.f4 i = some (nodeAt x i) := by
  unfold impl_Node_isNode.f nodeAt ownB upB
  simp only [impl_Node_isNode.j0, impl_Node_isNode.j1, within_eq, Option.bind_some]
  rw [wrap_id (by omega) (by omega)]
  by_cases h2 : x.f0 = 2
  · have h3 : ¬ x.f0 = 3 := by omega
    have h0 : ¬ x.f0 = 0 := by omega
    have hk : btw x.f0 0 4 = true := btw_iff.2 (by omega)
    cases hu : btw x.f1 0 (i - 1) <;> by_cases hf : x.f3 = 0 <;> simp_all
  · by_cases h3 : x.f0 = 3
    · have h0 : ¬ x.f0 = 0 := by omega
      have hk : btw x.f0 0 4 = true := btw_iff.2 (by omega)
      cases hu : btw x.f1 0 (i - 1) <;> cases hk : btw x.f3 1 9 <;> by_cases hd : x.f2 = 9223372036854775807 <;> simp_all
    · cases hk : btw x.f0 0 4
      · simp_all
      · by_cases h0 : x.f0 = 0
        · by_cases hu : x.f1 = -1 <;> by_cases hf : x.f3 = 0 <;> by_cases hd : x.f2 = 9223372036854775807 <;> simp_all
        · cases hu : btw x.f1 0 (i - 1) <;> by_cases hf : x.f3 = 0 <;> by_cases hd : x.f2 = 9223372036854775807 <;> simp_all
/-- Nodes are a tree. -/
def treeB (t : List S30) : Bool := decide (t.length ≤ 60) && allFrom (fun i => nodeAt (rd_T30 t i) i) t.length 0
theorem spec_tree (t : List S30) (hn : t.length ≤ 9223372036854775807) : ∃ K, ∀ k, K ≤ k → spec_TreeOk.f k t = some (treeB t) := by
  unfold treeB
  by_cases h : t.length ≤ 60
  · obtain ⟨K, e⟩ := ev_all (fun k i => spec_TreeOk.l0 k t i) (fun i => nodeAt (rd_T30 t i) i) t.length 1
      (fun k i hk h0 h1 => by
        obtain ⟨k, rfl⟩ : ∃ q, k = q + 1 := ⟨k - 1, by omega⟩
        show spec_TreeOk.l0 (k + 1 + 1) t i = _
        unfold nodeAt upB
        simp only [spec_TreeOk.l0, spec_node k, l1In_eq, Option.bind_some]
        rw [if_pos h1, if_pos h0, wrap_id (x := i - 1) (by omega) (by omega)]
        cases ownB (rd_T30 t i) with
        | false => simp
        | true => by_cases hf : (rd_T30 t i).f0 = 0 <;> simp [hf])
      (fun k i h => by show spec_TreeOk.l0 (k + 1) t i = _; simp only [spec_TreeOk.l0]; rw [if_neg h]) hn
    refine ⟨K, fun k hk => ?_⟩
    unfold spec_TreeOk.f
    rw [if_neg (by omega), decide_eq_true h, Bool.true_and]
    exact e k hk
  · refine ⟨0, fun k _ => ?_⟩
    unfold spec_TreeOk.f
    rw [if_pos (by omega)]
    simp [h]
theorem impl_tree (t : List S30) (hn : t.length ≤ 9223372036854775807) : ∃ K, ∀ k, K ≤ k → impl_TreeOk.f k t = some (treeB t) := by
  have e := ev_all (fun k i => impl_TreeOk.l0 k t (t.length : Int) i) (fun i => !(i == 60) && nodeAt (rd_T30 t i) i) t.length 2
      (fun k i hk h0 h1 => by
        obtain ⟨k, rfl⟩ : ∃ q, k = q + 2 := ⟨k - 2, by omega⟩
        show impl_TreeOk.l0 (k + 2 + 1) t _ i = (if _ then impl_TreeOk.l0 (k + 2) t _ _ else _)
        generalize hw : impl_TreeOk.l0 (k + 2) t (t.length : Int) (wrap64 (i + 1)) = R
        rw [impl_TreeOk.l0, impl_node k _ i h0 (by omega), hw]
        simp only [Option.bind_some]
        rw [if_pos h1, if_pos h0, if_pos h1]
        by_cases h60 : i = 60 <;> simp [h60])
      (fun k i h => by show impl_TreeOk.l0 (k + 1) t _ i = _; simp only [impl_TreeOk.l0]; rw [if_neg h]) hn
  have hb : allFrom (fun i => !(i == 60) && nodeAt (rd_T30 t i) i) t.length 0 = treeB t := by
    unfold treeB
    rw [Bool.eq_iff_iff, Bool.and_eq_true, allFrom_iff, allFrom_iff, decide_eq_true_eq]
    constructor
    · intro h
      refine ⟨?_, fun j h0 h1 => by have := h j h0 h1; simp at this; exact this.2⟩
      apply Decidable.byContradiction
      intro hc
      have := h 60 (by omega) (by omega)
      simp at this
    · rintro ⟨hl, h⟩ j h0 h1
      have := h j h0 h1
      simp [this]
      omega
  rw [hb] at e
  exact e
theorem sz_nodes (l : List S24) (hn : l.length ≤ 9223372036854775807) : laws_szNodeS.f l 1048576 = some (if l.length ≤ 1048576 then 1048576 - (l.length : Int) else -1) := by
  unfold laws_szNodeS.f
  rw [wrap_id (by omega) (by omega)]
  by_cases h : l.length ≤ 1048576
  · rw [if_neg (by omega), if_pos h]
  · rw [if_pos (by omega), if_neg h]
/-- A node of the statements as one of the program. -/
def nodeOf (x : S24) : S30 := ⟨x.f0, x.f1, x.f2, x.f3, x.f4⟩
theorem to_nodes (l : List S24) (hn : l.length ≤ 1048576) : ∃ K, ∀ k, K ≤ k → laws_toNodeS.f k l = some (l.map nodeOf) := by
  obtain ⟨K, e⟩ := ev_copy (fun k a b i => laws_toNodeS.l0 k a b i) nodeOf z24 (fun k x0 x3 i => by
    show laws_toNodeS.l0 (k + 1) x0 x3 i = _
    simp only [laws_toNodeS.l0, laws_toNode.f, Option.bind_some]
    rfl) l z30 (by omega)
  refine ⟨K, fun k hk => ?_⟩
  unfold laws_toNodeS.f
  rw [if_pos (by omega), if_pos (by omega), Int.toNat_natCast]
  exact e k hk
theorem eq_nodes (l : List S30) (hn : l.length ≤ 1048576) : ∃ K, ∀ k, K ≤ k → laws_eqNodeS.f k l l = some true := by
  obtain ⟨K, e⟩ := ev_same (fun k a b i => laws_eqNodeS.l0 k a b i) l (fun k i h0 h1 => by
    show laws_eqNodeS.l0 (k + 1) l l i = _
    simp only [laws_eqNodeS.l0, laws_eqNode.f, Option.bind_some, if_true]
    rw [if_pos h1, if_pos h0, if_pos h1]) (fun k i h => by
    show laws_eqNodeS.l0 (k + 1) l l i = _
    simp only [laws_eqNodeS.l0]
    rw [if_neg h]) (by omega)
  refine ⟨K, fun k hk => ?_⟩
  unfold laws_eqNodeS.f
  rw [if_pos rfl]
  exact e k hk
theorem treeB_len {t : List S30} (h : treeB t = true) : t.length ≤ 60 := by
  unfold treeB at h
  simp at h
  exact h.1
theorem treeB_at {t : List S30} (h : treeB t = true) (i : Int) (h0 : 0 ≤ i) (h1 : i < (t.length : Int)) : ownB (rd_T30 t i) = true ∧ upB (rd_T30 t i) i = true := by
  unfold treeB at h
  rw [Bool.and_eq_true, allFrom_iff] at h
  have := h.2 i (by omega) (by omega)
  unfold nodeAt at this
  simpa using this
theorem treeB_up {t : List S30} (h : treeB t = true) (i : Int) (h0 : 0 ≤ i) (h1 : i < (t.length : Int)) : -1 ≤ (rd_T30 t i).f1 ∧ (rd_T30 t i).f1 < i ∧ (¬ (rd_T30 t i).f0 = 0 → 0 ≤ (rd_T30 t i).f1) := by
  have hu := (treeB_at h i h0 h1).2
  unfold upB at hu
  split at hu
  · rename_i hz
    have : (rd_T30 t i).f1 = -1 := by simpa using hu
    omega
  · have := btw_iff.1 hu
    omega
/-- There is that node in a right tree. -/
def hasB (t : List S30) (n : Int) : Bool := treeB t && btw n 0 ((t.length : Int) - 1)
theorem hasB_iff {t : List S30} {n : Int} : hasB t n = true ↔ treeB t = true ∧ 0 ≤ n ∧ n < (t.length : Int) := by
  unfold hasB
  rw [Bool.and_eq_true, btw_iff]
  constructor <;> rintro ⟨h1, h2, h3⟩ <;> exact ⟨h1, by omega, by omega⟩
theorem spec_hasA (t : List S30) (hn : t.length ≤ 9223372036854775807) : ∃ K, ∀ k, K ≤ k → ∀ n, spec_l5Has.f k t n = some (hasB t n) := by
  obtain ⟨K, h⟩ := spec_tree t hn
  refine ⟨K, fun k hk n => ?_⟩
  unfold spec_l5Has.f hasB
  rw [h k hk]
  simp only [Option.bind_some]
  rw [l1In_eq, wrap_id (by omega) (by omega)]
  cases treeB t <;> simp
theorem impl_isIn (t : List S30) (n : Int) (hn : t.length ≤ 9223372036854775807) : impl_Node_66.f n t = some (btw n 0 ((t.length : Int) - 1)) := by
  unfold impl_Node_66.f impl_Node_63.f
  simp only [Option.bind_some]
  rw [within_eq, wrap_id (by omega) (by omega)]
  rfl
/-- A node, and those above it up to a root or a cut. -/
def chainF (t : List S30) : Nat → Int → List Int
  | 0, _ => []
  | m + 1, i => i :: (if (rd_T30 t i).f0 = 0 ∨ (rd_T30 t i).f0 = 4 then [] else chainF t m (rd_T30 t i).f1)
theorem chainF_length (t : List S30) : ∀ (m : Nat) (i : Int), (chainF t m i).length ≤ m := by
  intro m
  induction m with
  | zero => intro i; simp [chainF]
  | succ m ih =>
    intro i
    unfold chainF
    split
    · simp
    · have := ih (rd_T30 t i).f1
      simpa using this
theorem spec_chain_loop {t : List S30} (h : treeB t = true) : ∀ (m k : Nat) (acc : List Int) (i : Int), 0 ≤ i → i < (t.length : Int) → i < m → m ≤ k → acc.length + m ≤ 1000 → spec_ChainOf.l0 k t acc i = some (acc ++ chainF t m i) := by
  intro m
  induction m with
  | zero => intro k acc i h0 h1 h2; omega
  | succ m ih =>
    intro k acc i h0 h1 h2 hk ha
    obtain ⟨k, rfl⟩ : ∃ q, k = q + 1 := ⟨k - 1, by omega⟩
    have hu := treeB_up h i h0 h1
    rw [spec_ChainOf.l0, if_pos (by omega)]
    simp only [Option.bind_some]
    rw [if_pos h0, if_pos h1]
    unfold chainF
    by_cases hr : (rd_T30 t i).f0 = 0
    · rw [if_pos hr, if_pos (.inl hr)]
    · by_cases hc : (rd_T30 t i).f0 = 4
      · rw [if_neg hr, if_pos hc, if_pos (.inr hc)]
      · rw [if_neg hr, if_neg hc, if_neg (by omega)]
        have hu2 := hu.2.2 hr
        rw [ih k (acc ++ [i]) _ hu2 (by omega) (by omega) (by omega) (by rw [List.length_append]; simp; omega), List.append_assoc]
        rfl
theorem impl_chain_loop {t : List S30} (h : treeB t = true) : ∀ (m k : Nat) (acc : List Int) (i : Int), 0 ≤ i → i < (t.length : Int) → i < m → m ≤ k → acc.length + m ≤ 1000 → impl_chain.l0 k t i acc = some (acc ++ (chainF t m i).tail) := by
  intro m
  induction m with
  | zero => intro k acc i h0 h1 h2; omega
  | succ m ih =>
    intro k acc i h0 h1 h2 hk ha
    obtain ⟨k, rfl⟩ : ∃ q, k = q + 1 := ⟨k - 1, by omega⟩
    have hu := treeB_up h i h0 h1
    rw [impl_chain.l0, if_pos h0, if_pos h1]
    unfold chainF
    by_cases hr : (rd_T30 t i).f0 = 0
    · rw [if_pos hr, if_pos (.inl hr)]
      simp
    · by_cases hc : (rd_T30 t i).f0 = 4
      · rw [if_neg hr, if_pos hc, if_pos (.inr hc)]
        simp
      · rw [if_neg hr, if_neg hc, if_pos (by omega), if_neg (by omega)]
        have hu2 := hu.2.2 hr
        rw [ih k (acc ++ [(rd_T30 t i).f1]) _ hu2 (by omega) (by omega) (by omega) (by rw [List.length_append]; simp; omega), List.append_assoc]
        obtain ⟨m, rfl⟩ : ∃ q, m = q + 1 := ⟨m - 1, by omega⟩
        simp [chainF]
theorem impl_chain_eq {t : List S30} (h : treeB t = true) (i : Int) (h0 : 0 ≤ i) (h1 : i < (t.length : Int)) (k : Nat) (hk : 61 ≤ k) : impl_chain.f k t i = some (chainF t 61 i) := by
  have hl := treeB_len h
  unfold impl_chain.f
  rw [impl_chain_loop h 61 k _ i h0 h1 (by omega) hk (by simp)]
  simp [chainF]
theorem spec_chainofA (t : List S30) (hn : t.length ≤ 9223372036854775807) : ∃ K, ∀ k, K ≤ k → ∀ n, spec_ChainOf.f k t n = some (if hasB t n = true then chainF t 61 n else []) := by
  obtain ⟨K, h⟩ := spec_hasA t hn
  refine ⟨K + 61, fun k hk n => ?_⟩
  unfold spec_ChainOf.f
  simp only [Option.bind_some]
  rw [h k (by omega)]
  simp only [Option.bind_some]
  cases hb : hasB t n with
  | false => rfl
  | true =>
    obtain ⟨ht, h0, h1⟩ := hasB_iff.1 hb
    have hl := treeB_len ht
    rw [if_pos rfl, if_pos rfl, spec_chain_loop ht 61 k _ n h0 h1 (by omega) (by omega) (by simp)]
    rfl
theorem due_spec (a b : Int) : spec_IsDue.f a b = some (decide (b ≤ a) && (b != 9223372036854775807)) := by
  unfold spec_IsDue.f
  by_cases h : b ≤ a <;> simp [h]
theorem due_impl (a b : Int) : impl_IsDue.f a b = some (decide (b ≤ a) && (b != 9223372036854775807)) := by
  unfold impl_IsDue.f
  by_cases h : b ≤ a <;> simp [h]
/-- What the document asks of an event for itself. -/
def evB (t : List S30) (e : S58) : Bool :=
  btw e.f0 0 ((t.length : Int) - 1) && (if e.f1 = 1 then (((rd_T30 t e.f0).f0 == 1) || ((rd_T30 t e.f0).f0 == 2)) && btw e.f2 0 999
    else (e.f1 == 2) && (((rd_T30 t e.f0).f0 == 2) && ((decide ((rd_T30 t e.f0).f2 ≤ e.f3) && ((rd_T30 t e.f0).f2 != 9223372036854775807)) && (e.f2 == 0))))
theorem spec_event (t : List S30) (e : S58) (hn : t.length ≤ 9223372036854775807) : spec_l6Event.f t e.f0 e.f1 e.f2 e.f3 = some (evB t e) := by
  unfold spec_l6Event.f evB
  rw [l1In_eq, wrap_id (by omega) (by omega)]
  simp only [Option.bind_some, l1In_eq, due_spec]
  cases hb : btw e.f0 0 ((t.length : Int) - 1) with
  | false => simp
  | true =>
    have hb2 := btw_iff.1 hb
    rw [if_pos rfl, if_pos (by omega), if_pos (by omega)]
    generalize (decide ((rd_T30 t e.f0).f2 ≤ e.f3) && ((rd_T30 t e.f0).f2 != 9223372036854775807)) = dd
    by_cases h1 : e.f1 = 1
    · by_cases h2 : (rd_T30 t e.f0).f0 = 1 <;> by_cases h3 : (rd_T30 t e.f0).f0 = 2 <;> simp [h1, h2, h3]
    · by_cases h2 : e.f1 = 2 <;> by_cases h3 : (rd_T30 t e.f0).f0 = 2 <;> cases dd <;> simp [h1, h2, h3]
theorem impl_event (t : List S30) (e : S58) (hn : t.length ≤ 9223372036854775807) : impl_Event_isEvent.f e.f0 e.f1 e.f2 e.f3 t = some (evB t e) := by
  unfold impl_Event_isEvent.f evB
  rw [impl_isIn t _ hn]
  simp only [Option.bind_some, within_eq, due_impl]
  cases hb : btw e.f0 0 ((t.length : Int) - 1) with
  | false => simp
  | true =>
    have hb2 := btw_iff.1 hb
    rw [if_pos rfl, if_pos (by omega), if_pos (by omega)]
    generalize (decide ((rd_T30 t e.f0).f2 ≤ e.f3) && ((rd_T30 t e.f0).f2 != 9223372036854775807)) = dd
    by_cases h1 : e.f1 = 1
    · by_cases h2 : (rd_T30 t e.f0).f0 = 1 <;> by_cases h3 : (rd_T30 t e.f0).f0 = 2 <;> simp [h1, h2, h3]
    · by_cases h2 : e.f1 = 2 <;> by_cases h3 : (rd_T30 t e.f0).f0 = 2 <;> cases dd <;> simp [h1, h2, h3]
theorem spec_in_loop (l : List Int) (x : Int) (hl : l.length ≤ 1000) : ∀ (m j k : Nat), j + m = l.length → m < k → spec_l6In.l0 k l x (j : Int) = some ((l.drop j).contains x) := by
  intro m
  induction m with
  | zero =>
    intro j k hj hk
    obtain ⟨k, rfl⟩ : ∃ q, k = q + 1 := ⟨k - 1, by omega⟩
    rw [spec_l6In.l0, if_neg (by omega), List.drop_of_length_le (by omega)]
    rfl
  | succ m ih =>
    intro j k hj hk
    obtain ⟨k, rfl⟩ : ∃ q, k = q + 1 := ⟨k - 1, by omega⟩
    have hlt : j < l.length := by omega
    have e : rd l (j : Int) = l[j] := by unfold rd; rw [Int.toNat_natCast, getD_lt _ hlt]
    rw [spec_l6In.l0, if_pos (by omega), if_pos (by omega), e, wrap_id (by omega) (by omega), show ((j : Int) + 1) = ((j + 1 : Nat) : Int) by omega, ih (j + 1) k (by omega) (by omega), List.drop_eq_getElem_cons hlt, List.contains_cons]
    by_cases h : l[j] = x
    · rw [if_pos h]; simp [h]
    · rw [if_neg h]
      have h2 : ¬ x = l[j] := fun e => h e.symm
      simp [h2]
theorem spec_in (l : List Int) (x : Int) (hl : l.length ≤ 1000) (k : Nat) (hk : l.length < k) : spec_l6In.f k l x = some (l.contains x) := by
  unfold spec_l6In.f
  exact spec_in_loop l x hl l.length 0 k (by omega) hk
theorem index_loop (l : List Int) (x : Int) (hl : l.length ≤ 1000) : ∀ (m j k : Nat), j + m = l.length → m < k → ∃ r : Int, slices_Index_int64_int64.l0 k l x (l.length : Int) (j : Int) = some r ∧ decide (r ≥ 0) = (l.drop j).contains x := by
  intro m
  induction m with
  | zero =>
    intro j k hj hk
    obtain ⟨k, rfl⟩ : ∃ q, k = q + 1 := ⟨k - 1, by omega⟩
    refine ⟨-1, ?_, ?_⟩
    · rw [slices_Index_int64_int64.l0, if_neg (by omega)]
    · rw [List.drop_of_length_le (by omega)]
      rfl
  | succ m ih =>
    intro j k hj hk
    obtain ⟨k, rfl⟩ : ∃ q, k = q + 1 := ⟨k - 1, by omega⟩
    have hlt : j < l.length := by omega
    have e : rd l (j : Int) = l[j] := by unfold rd; rw [Int.toNat_natCast, getD_lt _ hlt]
    rw [slices_Index_int64_int64.l0, if_pos (by omega), if_pos (by omega), if_pos (by omega), e, wrap_id (by omega) (by omega), show ((j : Int) + 1) = ((j + 1 : Nat) : Int) by omega, List.drop_eq_getElem_cons hlt, List.contains_cons]
    by_cases h : x = l[j]
    · rw [if_pos h]
      exact ⟨j, rfl, by simp [h]⟩
    · rw [if_neg h]
      obtain ⟨r, h1, h2⟩ := ih (j + 1) k (by omega) (by omega)
      exact ⟨r, h1, by rw [h2]; simp [h]⟩
theorem contains_eq (l : List Int) (x : Int) (hl : l.length ≤ 1000) (k : Nat) (hk : l.length < k) : slices_Contains_int64_int64.f k l x = some (l.contains x) := by
  unfold slices_Contains_int64_int64.f slices_Index_int64_int64.f
  obtain ⟨r, h1, h2⟩ := index_loop l x hl l.length 0 k (by omega) hk
  rw [show slices_Index_int64_int64.l0 k l x (l.length : Int) 0 = some r from h1]
  simp only [Option.bind_some]
  rw [h2]
  rfl
/-- Where the first event of some nodes stands. -/
def fIx (ch : List Int) : List S58 → Nat → Option Nat
  | [], _ => none
  | e :: es, j => if ch.contains e.f0 = true then some j else fIx ch es (j + 1)
def ixI (o : Option Nat) : Int := match o with | none => -1 | some j => (j : Int)
def ixE (l : List S58) (o : Option Nat) : Int × Int × Int × Int × Bool := match o with | none => (0, 0, 0, 0, false) | some j => ((rd_T58 l j).f0, (rd_T58 l j).f1, (rd_T58 l j).f2, (rd_T58 l j).f3, true)
theorem spec_first_loop (ch : List Int) (l : List S58) (hc : ch.length ≤ 1000) (hl : l.length ≤ 4611686018427387904) : ∀ (m j k : Nat), j + m = l.length → m + ch.length + 1 < k → spec_l6First.l0 k l ch (j : Int) = some (ixI (fIx ch (l.drop j) j)) := by
  intro m
  induction m with
  | zero =>
    intro j k hj hk
    obtain ⟨k, rfl⟩ : ∃ q, k = q + 1 := ⟨k - 1, by omega⟩
    rw [spec_l6First.l0, if_neg (by omega), List.drop_of_length_le (by omega)]
    rfl
  | succ m ih =>
    intro j k hj hk
    obtain ⟨k, rfl⟩ : ∃ q, k = q + 1 := ⟨k - 1, by omega⟩
    have hlt : j < l.length := by omega
    have e : rd_T58 l (j : Int) = l[j] := by unfold rd_T58; rw [Int.toNat_natCast, getD_lt _ hlt]
    rw [spec_l6First.l0, if_pos (by omega), if_pos (by omega), e, spec_in ch _ hc k (by omega), List.drop_eq_getElem_cons hlt]
    simp only [Option.bind_some]
    unfold fIx
    by_cases h : ch.contains l[j].f0 = true
    · rw [if_pos h, if_pos h]; rfl
    · rw [if_neg h, if_neg h, wrap_id (by omega) (by omega), show ((j : Int) + 1) = ((j + 1 : Nat) : Int) by omega]
      exact ih (j + 1) k (by omega) (by omega)
theorem impl_first_loop (ch : List Int) (l : List S58) (hc : ch.length ≤ 1000) (hl : l.length ≤ 4611686018427387904) : ∀ (m j k : Nat), j + m = l.length → m + ch.length + 1 < k → impl_firstOf.l0 k ch l (l.length : Int) (j : Int) = some (ixE l (fIx ch (l.drop j) j)) := by
  intro m
  induction m with
  | zero =>
    intro j k hj hk
    obtain ⟨k, rfl⟩ : ∃ q, k = q + 1 := ⟨k - 1, by omega⟩
    rw [impl_firstOf.l0, if_neg (by omega), List.drop_of_length_le (by omega)]
    rfl
  | succ m ih =>
    intro j k hj hk
    obtain ⟨k, rfl⟩ : ∃ q, k = q + 1 := ⟨k - 1, by omega⟩
    have hlt : j < l.length := by omega
    have e : rd_T58 l (j : Int) = l[j] := by unfold rd_T58; rw [Int.toNat_natCast, getD_lt _ hlt]
    rw [impl_firstOf.l0, if_pos (by omega), if_pos (by omega), if_pos (by omega), contains_eq ch _ hc k (by omega), List.drop_eq_getElem_cons hlt]
    simp only [Option.bind_some]
    unfold fIx
    rw [e]
    by_cases h : ch.contains l[j].f0 = true
    · rw [if_pos h, if_pos h]; simp only [ixE, e]
    · rw [if_neg h, if_neg h, wrap_id (by omega) (by omega), show ((j : Int) + 1) = ((j + 1 : Nat) : Int) by omega]
      exact ih (j + 1) k (by omega) (by omega)
def firstB (t : List S30) (l : List S58) (n : Int) : Option Nat := fIx (chainF t 61 n) l 0
theorem spec_first {t : List S30} (ht : treeB t = true) (hl : ∀ l : List S58, l.length ≤ 2000000 → True) : ∃ K, ∀ k, K ≤ k → ∀ (l : List S58) (n : Int), l.length ≤ 2000000 → 0 ≤ n → n < (t.length : Int) → spec_l6First.f k t l n = some (ixI (firstB t l n)) := by
  have hlen := treeB_len ht
  obtain ⟨K, h⟩ := spec_chainofA t (by omega)
  refine ⟨K + 2000200, fun k hk l n hl h0 h1 => ?_⟩
  have hc := chainF_length t 61 n
  unfold spec_l6First.f
  rw [h k (by omega) n, if_pos (hasB_iff.2 ⟨ht, h0, h1⟩)]
  simp only [Option.bind_some]
  exact spec_first_loop (chainF t 61 n) l (by omega) (by omega) l.length 0 k (by omega) (by omega)
theorem impl_first {t : List S30} (ht : treeB t = true) (l : List S58) (n : Int) (hl : l.length ≤ 2000000) (h0 : 0 ≤ n) (h1 : n < (t.length : Int)) (k : Nat) (hk : 2000200 ≤ k) : impl_firstOf.f k t l n = some (ixE l (firstB t l n)) := by
  have hc := chainF_length t 61 n
  unfold impl_firstOf.f
  rw [impl_chain_eq ht n h0 h1 k (by omega)]
  simp only [Option.bind_some]
  exact impl_first_loop (chainF t 61 n) l (by omega) (by omega) l.length 0 k (by omega) (by omega)
/-- Whether an event may stand behind others. -/
def fitB (t : List S30) (e : S58) (l : List S58) : Bool := evB t e && (!(decide (0 < l.length) && decide (e.f3 < (rd_T58 l ((l.length : Int) - 1)).f3)) && (firstB t l e.f0).isNone)
theorem evB_in {t : List S30} {e : S58} (h : evB t e = true) : 0 ≤ e.f0 ∧ e.f0 < (t.length : Int) := by
  unfold evB at h
  rw [Bool.and_eq_true] at h
  have := btw_iff.1 h.1
  omega
theorem ixE_flag (l : List S58) (o : Option Nat) : (ixE l o).2.2.2.2 = o.isSome := by cases o <;> rfl
theorem ixI_neg (o : Option Nat) : (ixI o ≥ 0) = (o.isSome = true) := by
  cases o with
  | none => simp [ixI]
  | some j => simp [ixI]
theorem impl_fits {t : List S30} (ht : treeB t = true) (e : S58) (l : List S58) (hl : l.length ≤ 2000000) (k : Nat) (hk : 2000200 ≤ k) : impl_Event_fits.f k e.f0 e.f1 e.f2 e.f3 t l = some (fitB t e l) := by
  have hlen := treeB_len ht
  unfold impl_Event_fits.f fitB
  rw [impl_event t e (by omega)]
  simp only [Option.bind_some]
  cases he : evB t e with
  | false => simp
  | true =>
    obtain ⟨h0, h1⟩ := evB_in he
    rw [impl_first ht l e.f0 hl h0 h1 k hk, wrap_id (by omega) (by omega), if_pos rfl]
    simp only [Option.bind_some, ixE_flag]
    by_cases hp : 0 < l.length
    · rw [if_pos (by omega), if_pos (by omega), if_pos (by omega)]
      by_cases hc : e.f3 < (rd_T58 l ((l.length : Int) - 1)).f3
      · rw [if_pos hc]; simp [hp, hc]
      · rw [if_neg hc]; cases firstB t l e.f0 <;> simp [hc]
    · rw [if_neg (by omega)]; cases firstB t l e.f0 <;> simp [hp]
def okAt (t : List S30) (l : List S58) (i : Int) : Bool := fitB t (rd_T58 l i) (l.take i.toNat)
/-- Events are those of a tree. -/
def eventsB (t : List S30) (l : List S58) : Bool := treeB t && allFrom (okAt t l) l.length 0
theorem rd_take {l : List S58} {i : Int} (h0 : 0 < i) (h1 : i < (l.length : Int)) : rd_T58 (l.take i.toNat) (i - 1) = rd_T58 l (i - 1) := by
  unfold rd_T58
  rw [getD_lt _ (by rw [List.length_take]; omega), getD_lt _ (by omega), List.getElem_take]
theorem impl_events (t : List S30) (l : List S58) (hn : t.length ≤ 9223372036854775807) (hl : l.length ≤ 2000000) : ∃ K, ∀ k, K ≤ k → impl_EventsOk.f k t l = some (eventsB t l) := by
  obtain ⟨K, h⟩ := impl_tree t hn
  cases ht : treeB t with
  | false =>
    refine ⟨K, fun k hk => ?_⟩
    unfold impl_EventsOk.f eventsB
    rw [h k hk, ht]
    rfl
  | true =>
    obtain ⟨K2, e⟩ := ev_all (fun k i => impl_EventsOk.l0 k t l l (l.length : Int) i) (okAt t l) l.length 2000200
      (fun k i hk h0 h1 => by
        show impl_EventsOk.l0 (k + 1) t l l _ i = (if _ then impl_EventsOk.l0 k t l l _ _ else _)
        generalize hw : impl_EventsOk.l0 k t l l (l.length : Int) (wrap64 (i + 1)) = R
        rw [impl_EventsOk.l0, impl_fits ht _ _ (by rw [List.length_take]; omega) k hk, hw]
        simp only [Option.bind_some]
        rw [if_pos h1, if_pos h0, if_pos h1, if_pos (by omega)]
        rfl)
      (fun k i hi => by show impl_EventsOk.l0 (k + 1) t l l _ i = _; rw [impl_EventsOk.l0, if_neg hi]) (by omega)
    refine ⟨K + K2, fun k hk => ?_⟩
    unfold impl_EventsOk.f eventsB
    rw [h k (by omega), ht]
    exact e k (by omega)
theorem spec_events (t : List S30) (l : List S58) (hn : t.length ≤ 9223372036854775807) (hl : l.length ≤ 2000000) : ∃ K, ∀ k, K ≤ k → spec_EventsOk.f k t l = some (eventsB t l) := by
  obtain ⟨K, h⟩ := spec_tree t hn
  cases ht : treeB t with
  | false =>
    refine ⟨K, fun k hk => ?_⟩
    unfold spec_EventsOk.f eventsB
    rw [h k hk, ht]
    rfl
  | true =>
    obtain ⟨K1, hf⟩ := spec_first ht (fun _ _ => trivial)
    obtain ⟨K2, e⟩ := ev_all (fun k i => spec_EventsOk.l0 k t l i) (okAt t l) l.length K1
      (fun k i hk h0 h1 => by
        show spec_EventsOk.l0 (k + 1) t l i = (if _ then spec_EventsOk.l0 k t l _ else _)
        generalize hw : spec_EventsOk.l0 k t l (wrap64 (i + 1)) = R
        rw [spec_EventsOk.l0, spec_event t _ hn, hw]
        simp only [Option.bind_some]
        rw [if_pos h1, if_pos h0, wrap_id (by omega) (by omega)]
        unfold okAt fitB
        cases he : evB t (rd_T58 l i) with
        | false => simp
        | true =>
          obtain ⟨g0, g1⟩ := evB_in he
          have hfi := hf k hk (l.take i.toNat) (rd_T58 l i).f0 (by rw [List.length_take]; omega) g0 g1
          rw [hfi]
          simp only [Option.bind_some, ixI_neg]
          rw [if_pos trivial]
          have hlt : ((l.take i.toNat).length : Int) = i := by rw [List.length_take]; omega
          by_cases hp : i > 0
          · rw [if_pos hp, if_pos (by omega), if_pos (by omega), hlt, rd_take hp h1]
            have hp2 : 0 < (l.take i.toNat).length := by omega
            by_cases hc : (rd_T58 l i).f3 < (rd_T58 l (i - 1)).f3
            · rw [if_pos hc, decide_eq_true hp2, decide_eq_true hc]; simp
            · rw [if_neg hc, if_pos (by omega), decide_eq_false hc]
              cases firstB t (l.take i.toNat) (rd_T58 l i).f0 <;> simp
          · rw [if_neg hp, if_pos (by omega)]
            have hp2 : ¬ 0 < (l.take i.toNat).length := by omega
            rw [decide_eq_false hp2]
            cases firstB t (l.take i.toNat) (rd_T58 l i).f0 <;> simp)
      (fun k i hi => by show spec_EventsOk.l0 (k + 1) t l i = _; rw [spec_EventsOk.l0, if_neg hi]) (by omega)
    refine ⟨K + K2, fun k hk => ?_⟩
    unfold spec_EventsOk.f eventsB
    rw [h k (by omega), ht]
    exact e k (by omega)
theorem sz_EventS (l : List S64) (left : Int) (hl : 0 ≤ left) (hl2 : left ≤ 1048576) (hn : l.length ≤ 9223372036854775807) : laws_szEventS.f l left = some (if (l.length : Int) ≤ left then left - (l.length : Int) else -1) := by
  unfold laws_szEventS.f
  rw [wrap_id (by omega) (by omega)]
  by_cases h : (l.length : Int) ≤ left
  · rw [if_neg (by omega), if_pos h]
  · rw [if_pos (by omega), if_neg h]
/-- An element of the statements as one of the program. -/
def ofEventS (x : S64) : S58 := ⟨x.f0, x.f1, x.f2, x.f3⟩
theorem to_EventS (l : List S64) (hn : l.length ≤ 1048576) : ∃ K, ∀ k, K ≤ k → laws_toEventS.f k l = some (l.map ofEventS) := by
  obtain ⟨K, e⟩ := ev_copy (fun k a b i => laws_toEventS.l0 k a b i) ofEventS z64 (fun k x0 x3 i => by
    show laws_toEventS.l0 (k + 1) x0 x3 i = _
    simp only [laws_toEventS.l0, laws_toEvent.f, Option.bind_some]
    rfl) l z58 (by omega)
  refine ⟨K, fun k hk => ?_⟩
  unfold laws_toEventS.f
  rw [if_pos (by omega), if_pos (by omega), Int.toNat_natCast]
  exact e k hk
theorem eq_EventS (l : List S58) (hn : l.length ≤ 4611686018427387904) : ∃ K, ∀ k, K ≤ k → laws_eqEventS.f k l l = some true := by
  obtain ⟨K, e⟩ := ev_same (fun k a b i => laws_eqEventS.l0 k a b i) l (fun k i h0 h1 => by
    show laws_eqEventS.l0 (k + 1) l l i = laws_eqEventS.l0 k l l (wrap64 (i + 1))
    generalize hw : laws_eqEventS.l0 k l l (wrap64 (i + 1)) = R
    rw [laws_eqEventS.l0, hw]
    simp [laws_eqEvent.f, h0, h1]) (fun k i h => by
    show laws_eqEventS.l0 (k + 1) l l i = _
    rw [laws_eqEventS.l0, if_neg h]) hn
  refine ⟨K, fun k hk => ?_⟩
  unfold laws_eqEventS.f
  rw [if_pos rfl]
  exact e k hk
/-- The mark of an element. -/
def mkNodeS (c : Int) : S30 := ⟨c, wrap64 (c + 1), wrap64 ((wrap64 (c + 1)) + 1), wrap64 ((wrap64 ((wrap64 (c + 1)) + 1)) + 1), wrap64 ((wrap64 ((wrap64 ((wrap64 (c + 1)) + 1)) + 1)) + 1)⟩
def nxNodeS (c : Int) : Int := wrap64 ((wrap64 ((wrap64 ((wrap64 ((wrap64 (c + 1)) + 1)) + 1)) + 1)) + 1)
theorem nxNodeS_add (c : Int) (h0 : 0 ≤ c) (h1 : c ≤ 4611686018427387904) : nxNodeS c = c + 5 := by
  unfold nxNodeS wrap64
  omega
theorem mark_NodeS (l : List S30) (c : Int) (hc0 : 0 ≤ c) (hc : c ≤ 1000000000) (hn : l.length ≤ 2000000) : ∃ K, ∀ k, K ≤ k → laws_markNodeS.f k l c = some (c + 5 * (l.length : Int), marks mkNodeS nxNodeS l.length c) := by
  obtain ⟨K, e⟩ := ev_mark (fun k x0 c i => laws_markNodeS.l0 k x0 c i) mkNodeS nxNodeS (fun k x0 c i => by
    show laws_markNodeS.l0 (k + 1) x0 c i = _
    rw [laws_markNodeS.l0]
    by_cases h : i < (x0.length : Int)
    · by_cases h0 : 0 ≤ i
      · have hr : ∀ v, rd_T30 (x0.set i.toNat v) i = v := fun v => by
          unfold rd_T30
          rw [getD_lt _ (by rw [List.length_set]; omega), List.getElem_set_self]
        rw [if_pos h, if_pos h0, if_pos h, if_pos h0]
        try simp only [Option.bind_some, hr, List.set_set]
        rfl
      · rw [if_pos h, if_neg h0, if_pos h, if_neg h0]
    · rw [if_neg h, if_neg h]) l c (by omega)
  refine ⟨K, fun k hk => ?_⟩
  unfold laws_markNodeS.f
  rw [← endOf_add nxNodeS 5 (by omega) (by omega) (fun c h0 h1 => nxNodeS_add c h0 h1) l.length c (by omega) (by omega)]
  exact e k hk
/-- The mark of an element. -/
def mkEventS (c : Int) : S58 := ⟨c, wrap64 (c + 1), wrap64 ((wrap64 (c + 1)) + 1), wrap64 ((wrap64 ((wrap64 (c + 1)) + 1)) + 1)⟩
def nxEventS (c : Int) : Int := wrap64 ((wrap64 ((wrap64 ((wrap64 (c + 1)) + 1)) + 1)) + 1)
theorem nxEventS_add (c : Int) (h0 : 0 ≤ c) (h1 : c ≤ 4611686018427387904) : nxEventS c = c + 4 := by
  unfold nxEventS wrap64
  omega
theorem mark_EventS (l : List S58) (c : Int) (hc0 : 0 ≤ c) (hc : c ≤ 1000000000) (hn : l.length ≤ 2000000) : ∃ K, ∀ k, K ≤ k → laws_markEventS.f k l c = some (c + 4 * (l.length : Int), marks mkEventS nxEventS l.length c) := by
  obtain ⟨K, e⟩ := ev_mark (fun k x0 c i => laws_markEventS.l0 k x0 c i) mkEventS nxEventS (fun k x0 c i => by
    show laws_markEventS.l0 (k + 1) x0 c i = _
    rw [laws_markEventS.l0]
    by_cases h : i < (x0.length : Int)
    · by_cases h0 : 0 ≤ i
      · have hr : ∀ v, rd_T58 (x0.set i.toNat v) i = v := fun v => by
          unfold rd_T58
          rw [getD_lt _ (by rw [List.length_set]; omega), List.getElem_set_self]
        rw [if_pos h, if_pos h0, if_pos h, if_pos h0]
        try simp only [Option.bind_some, hr, List.set_set]
        rfl
      · rw [if_pos h, if_neg h0, if_pos h, if_neg h0]
    · rw [if_neg h, if_neg h]) l c (by omega)
  refine ⟨K, fun k hk => ?_⟩
  unfold laws_markEventS.f
  rw [← endOf_add nxEventS 4 (by omega) (by omega) (fun c h0 h1 => nxEventS_add c h0 h1) l.length c (by omega) (by omega)]
  exact e k hk
theorem held_EventS (n : Nat) (c : Int) (hc0 : 0 ≤ c) (hc : c ≤ 1000000000) (hn : n ≤ 2000000) : ∃ K, ∀ k, K ≤ k → laws_heldEventS.f k (marks mkEventS nxEventS n c) c = some (c + 4 * (n : Int)) := by
  obtain ⟨K, e⟩ := ev_held (fun k x0 c i => laws_heldEventS.l0 k x0 c i) mkEventS nxEventS z58 (fun k x0 c i h0 h1 he => by
    show laws_heldEventS.l0 (k + 1) x0 c i = _
    have hr : rd_T58 x0 i = mkEventS c := he
    rw [laws_heldEventS.l0, if_pos h1, if_pos h0, hr]
    unfold mkEventS nxEventS
    simp) (fun k x0 c i h => by
    show laws_heldEventS.l0 (k + 1) x0 c i = _
    rw [laws_heldEventS.l0, if_neg h]) n c (by omega)
  refine ⟨K, fun k hk => ?_⟩
  unfold laws_heldEventS.f
  rw [← endOf_add nxEventS 4 (by omega) (by omega) (fun c h0 h1 => nxEventS_add c h0 h1) n c (by omega) (by omega)]
  exact e k hk
theorem copyE_eq (l : List S58) (hn : l.length ≤ 2000000) : spec_l6Copy.f l = some l := by
  unfold spec_l6Copy.f
  simp only [Option.bind_some, List.nil_append, List.length_nil]
  rw [if_pos (by omega)]
theorem cloneE_eq (l : List S58) (hn : l.length ≤ 2000000) : impl_Event.f l = some l := by
  unfold impl_Event.f
  simp only [Option.bind_some, List.nil_append, List.length_nil]
  rw [if_pos (by omega)]
theorem rdE_snoc_lt (l : List S58) (e : S58) (i : Int) (h0 : 0 ≤ i) (h1 : i < (l.length : Int)) : rd_T58 (l ++ [e]) i = rd_T58 l i := by
  unfold rd_T58
  rw [getD_lt _ (by rw [List.length_append]; simp; omega), getD_lt _ (by omega), List.getElem_append_left]
theorem rdE_snoc_eq (l : List S58) (e : S58) : rd_T58 (l ++ [e]) (l.length : Int) = e := by
  unfold rd_T58
  rw [getD_lt _ (by rw [List.length_append]; simp), List.getElem_append_right (by simp)]
  simp
theorem okAt_snoc_lt (t : List S30) (l : List S58) (e : S58) (i : Int) (h0 : 0 ≤ i) (h1 : i < (l.length : Int)) : okAt t (l ++ [e]) i = okAt t l i := by
  unfold okAt
  rw [rdE_snoc_lt l e i h0 h1, List.take_append_of_le_length (by omega)]
theorem okAt_snoc_eq (t : List S30) (l : List S58) (e : S58) : okAt t (l ++ [e]) (l.length : Int) = fitB t e l := by
  unfold okAt
  rw [rdE_snoc_eq, Int.toNat_natCast, List.take_left]
theorem eventsB_snoc (t : List S30) (l : List S58) (e : S58) (h : eventsB t l = true) : eventsB t (l ++ [e]) = fitB t e l := by
  rw [Bool.eq_iff_iff]
  unfold eventsB at h ⊢
  rw [Bool.and_eq_true, allFrom_iff] at h ⊢
  have he : (l ++ [e]).length = l.length + 1 := by simp
  constructor
  · rintro ⟨_, h2⟩
    have := h2 (l.length : Int) (by omega) (by rw [he]; omega)
    rwa [okAt_snoc_eq] at this
  · intro hf
    refine ⟨h.1, fun j h0 h1 => ?_⟩
    rw [he] at h1
    by_cases hj : j = (l.length : Int)
    · rw [hj, okAt_snoc_eq]; exact hf
    · rw [okAt_snoc_lt t l e j h0 (by omega)]
      exact h.2 j h0 (by omega)
/-- An event more. -/
def letgoB (t : List S30) (l : List S58) (e : S58) : List S58 × Bool := if eventsB t l = true then (if fitB t e l = true then (l ++ [e], true) else (l, false)) else ([], false)
theorem letgoB_length (t : List S30) (l : List S58) (e : S58) : (letgoB t l e).1.length ≤ l.length + 1 := by
  unfold letgoB
  split
  · split <;> simp
  · simp
theorem spec_letgo (t : List S30) (l : List S58) (e : S58) (hn : t.length ≤ 9223372036854775807) (hl : l.length < 2000000) : ∃ K, ∀ k, K ≤ k → spec_LetGo.f k t l e.f0 e.f1 e.f2 e.f3 = some (letgoB t l e) := by
  obtain ⟨K, h⟩ := spec_events t l hn (by omega)
  obtain ⟨K2, h2⟩ := spec_events t (l ++ [e]) hn (by simp; omega)
  refine ⟨K + K2, fun k hk => ?_⟩
  unfold spec_LetGo.f letgoB
  rw [h k (by omega)]
  simp only [Option.bind_some]
  cases he : eventsB t l with
  | false => rfl
  | true =>
    rw [if_pos rfl, if_pos rfl, copyE_eq l (by omega)]
    simp only [Option.bind_some]
    rw [if_pos (by simp; omega), show (⟨e.f0, e.f1, e.f2, e.f3⟩ : S58) = e from rfl, h2 k (by omega), eventsB_snoc t l e he]
    simp only [Option.bind_some]
    split <;> rfl
theorem impl_letgo (t : List S30) (l : List S58) (e : S58) (hn : t.length ≤ 9223372036854775807) (hl : l.length < 2000000) : ∃ K, ∀ k, K ≤ k → impl_LetGo.f k t l e.f0 e.f1 e.f2 e.f3 = some (letgoB t l e) := by
  obtain ⟨K, h⟩ := impl_events t l hn (by omega)
  refine ⟨K + 2000200, fun k hk => ?_⟩
  unfold impl_LetGo.f letgoB
  rw [h k (by omega)]
  simp only [Option.bind_some]
  cases he : eventsB t l with
  | false => rfl
  | true =>
    have ht : treeB t = true := by
      unfold eventsB at he
      rw [Bool.and_eq_true] at he
      exact he.1
    rw [if_pos rfl, if_pos rfl, impl_fits ht e l (by omega) k (by omega), cloneE_eq l (by omega)]
    simp only [Option.bind_some]
    cases hf : fitB t e l with
    | false => rfl
    | true => rw [if_pos rfl, if_pos rfl, if_pos (by simp; omega)]
theorem FnExactLetGo : ∀ (l0 : List (S24)) (l1 : List (S64)) (a2_0 : Int) (a2_1 : Int) (a2_2 : Int) (a2_3 : Int), l0.length ≤ 9223372036854775807 → (∀ x_ ∈ l0, (wf64 x_.f0 ∧ wf64 x_.f1 ∧ wf64 x_.f2 ∧ wf64 x_.f3 ∧ wf64 x_.f4)) → l1.length ≤ 9223372036854775807 → (∀ x_ ∈ l1, (wf64 x_.f0 ∧ wf64 x_.f1 ∧ wf64 x_.f2 ∧ wf64 x_.f3)) → (wf64 a2_0 ∧ wf64 a2_1 ∧ wf64 a2_2 ∧ wf64 a2_3) → ∃ k, laws_FnExactLetGo.f k l0 l1 a2_0 a2_1 a2_2 a2_3 = some true := by
  intro l ls x0 x1 x2 x3 hn _ hs _ _
  by_cases h : l.length ≤ 1048576
  · by_cases h2 : (ls.length : Int) ≤ 1048576 - (l.length : Int)
    · have z1 : ¬ (1048576 - (l.length : Int) < 0) := by omega
      have z4 : ¬ (1048576 - (l.length : Int) - (ls.length : Int) < 0) := by omega
      have hL := letgoB_length (l.map nodeOf) (ls.map ofEventS) ⟨x0, x1, x2, x3⟩
      have hE : (ls.map ofEventS).length = ls.length := List.length_map ..
      have hT : (l.map nodeOf).length = l.length := List.length_map ..
      obtain ⟨K, q⟩ := both (to_nodes l h) (both (to_EventS ls (by omega)) (both (spec_letgo (l.map nodeOf) (ls.map ofEventS) ⟨x0, x1, x2, x3⟩ (by omega) (by omega)) (both (impl_letgo (l.map nodeOf) (ls.map ofEventS) ⟨x0, x1, x2, x3⟩ (by omega) (by omega)) (both (eq_nodes (l.map nodeOf) (by omega)) (both (eq_EventS (ls.map ofEventS) (by omega)) (both (mark_NodeS (l.map nodeOf) 1 (by omega) (by omega) (by omega)) (both (mark_EventS (ls.map ofEventS) (1 + 5 * ((l.map nodeOf).length : Int)) (by omega) (by omega) (by omega)) (both (eq_EventS (letgoB (l.map nodeOf) (ls.map ofEventS) ⟨x0, x1, x2, x3⟩).1 (by omega)) (both (mark_EventS (letgoB (l.map nodeOf) (ls.map ofEventS) ⟨x0, x1, x2, x3⟩).1 1 (by omega) (by omega) (by omega)) (held_EventS (letgoB (l.map nodeOf) (ls.map ofEventS) ⟨x0, x1, x2, x3⟩).1.length 1 (by omega) (by omega) (by omega)))))))))))
      have a0 := q K (by omega)
      have a1 := q (K + 1) (by omega)
      have a2 := q (K + 2) (by omega)
      have a3 := q (K + 3) (by omega)
      have z2 : ¬ (1 + 5 * ((l.map nodeOf).length : Int) + 4 * ((ls.map ofEventS).length : Int) < 0) := by omega
      have z3 : ¬ (1 + 4 * ((letgoB (l.map nodeOf) (ls.map ofEventS) ⟨x0, x1, x2, x3⟩).1.length : Int) < 0) := by omega
      refine ⟨K + 3, ?_⟩
      clear q hL hE hT
      dsimp only at a0 a1 a2 a3
      unfold laws_FnExactLetGo.f laws_toEvent.f
      rw [sz_nodes l hn, if_pos h]
      simp only [Option.bind_some, z1, if_false]
      rw [sz_EventS ls _ (by omega) (by omega) hs, if_pos h2]
      simp only [Option.bind_some, z4, if_false, a0, a1, a2, a3, if_true, bne_self_eq_false, laws_FnExactLetGo.j0, laws_FnExactLetGo.j1, laws_FnExactLetGo.j2, laws_toEvent.f, Bool.false_eq_true, z2, z3]
    · refine ⟨0, ?_⟩
      have z1 : ¬ (1048576 - (l.length : Int) < 0) := by omega
      unfold laws_FnExactLetGo.f
      rw [sz_nodes l hn, if_pos h]
      simp only [Option.bind_some, z1, if_false]
      rw [sz_EventS ls _ (by omega) (by omega) hs, if_neg h2]
      simp
  · refine ⟨0, ?_⟩
    unfold laws_FnExactLetGo.f
    rw [sz_nodes l hn, if_neg h]
    simp
end Go.Proofs.Ytcndchcepajmjaa.Pure
