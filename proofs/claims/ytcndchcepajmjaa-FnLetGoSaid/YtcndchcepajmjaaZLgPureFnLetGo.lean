/- Texts of the claim of the law FnLetGo, made smaller by a program of this session: what the claim does not use is left out. No condition. -/
import Derived.Test.YtcndchcepajmjaaZLgOpen
import Derived.Test.YtcndchcepajmjaaZLgPLib
import Derived.Test.YtcndchcepajmjaaZLgPFnLetGox14
namespace Go.Proofs.Ytcndchcepajmjaa.Pure
open Go.RowKit Go.Proofs.YtcndchcepajmjaaOpen Go.Proofs.YtcndchcepajmjaaPLib Go.Proofs.Ytcndchcepajmjaa.PFnLetGo Go.Proofs.YtcndchcepajmjaaW.PrintWords Go.Proofs.YtcndchcepajmjaaW.PrintLast
set_option linter.unusedVariables false
set_option linter.unusedSimpArgs false
theorem l1In_eq (a b c : Int) : spec_l1In.f a b c = some (btw a b c) := by
 unfold spec_l1In.f btw
 by_cases h : b ≤ a
 ·rw [if_pos h]; simp [h]
 ·rw [if_neg h]; simp [h]
theorem within_eq (a b c : Int) : impl_within.f a b c = some (btw a b c) := by
 unfold impl_within.f btw
 by_cases h : b ≤ a
 ·rw [if_pos h]; simp [h]
 ·rw [if_neg h]; simp [h]
/-- What the document asks of a node for itself. -/
def ownB (x : S30) : Bool := ((x.f0 == 2) || (x.f2 == 9223372036854775807)) && (if x.f0 = 3 then btw x.f3 1 9 && btw x.f4 0 999 else btw x.f0 0 4 && ((x.f3 == 0) && (x.f4 == 0)))
/-- What it asks of the node above it. -/
def upB (x : S30) (i : Int) : Bool := if x.f0 = 0 then x.f1 == -1 else btw x.f1 0 (i - 1)
def nodeAt (x : S30) (i : Int) : Bool := ownB x && upB x i
theorem spec_node (k : Nat) (x : S30) : spec_l5Node.f (k + 1) x.f0 x.f1 x.f2 x.f3 x.f4 = some (ownB x) := by
 unfold spec_l5Node.f ownB
 simp only [spec_l5Node.j0, l1In_eq, Option.bind_some]
 by_cases h2 : x.f0 = 2
 ·have h3 : ¬ x.f0 = 3 := by omega
  cases hk : btw x.f0 0 4 <;> by_cases hf : x.f3 = 0 <;> simp_all
 ·by_cases h3 : x.f0 = 3
  ·cases hk : btw x.f3 1 9 <;> by_cases hd : x.f2 = 9223372036854775807 <;> simp_all
  ·cases hk : btw x.f0 0 4 <;> by_cases hf : x.f3 = 0 <;> by_cases hd : x.f2 = 9223372036854775807 <;> simp_all
theorem impl_node (k : Nat) (x : S30) (i : Int) (h0 : 0 ≤ i) (h1 : i ≤ 9223372036854775807) : impl_Node_isNode.f (k + 2) x.f0 x.f1 x.f2 x.f3 x.f4 i = some (nodeAt x i) := by
 unfold impl_Node_isNode.f nodeAt ownB upB
 simp only [impl_Node_isNode.j0, impl_Node_isNode.j1, within_eq, Option.bind_some]
 rw [wrap_id (by omega) (by omega)]
 by_cases h2 : x.f0 = 2
 ·have h3 : ¬ x.f0 = 3 := by omega
  have h0 : ¬ x.f0 = 0 := by omega
  have hk : btw x.f0 0 4 = true := btw_iff.2 (by omega)
  cases hu : btw x.f1 0 (i - 1) <;> by_cases hf : x.f3 = 0 <;> simp_all
 ·by_cases h3 : x.f0 = 3
  ·have h0 : ¬ x.f0 = 0 := by omega
   have hk : btw x.f0 0 4 = true := btw_iff.2 (by omega)
   cases hu : btw x.f1 0 (i - 1) <;> cases hk : btw x.f3 1 9 <;> by_cases hd : x.f2 = 9223372036854775807 <;> simp_all
  ·cases hk : btw x.f0 0 4
   ·simp_all
   ·by_cases h0 : x.f0 = 0
    ·by_cases hu : x.f1 = -1 <;> by_cases hf : x.f3 = 0 <;> by_cases hd : x.f2 = 9223372036854775807 <;> simp_all
    ·cases hu : btw x.f1 0 (i - 1) <;> by_cases hf : x.f3 = 0 <;> by_cases hd : x.f2 = 9223372036854775807 <;> simp_all
/-- Nodes are a tree. -/
def treeB (t : List S30) : Bool := decide (t.length ≤ 60) && allFrom (fun i => nodeAt (rd_T30 t i) i) t.length 0
theorem spec_tree (t : List S30) (hn : t.length ≤ 9223372036854775807) : ∃ K, ∀ k, K ≤ k → spec_TreeOk.f k t = some (treeB t) := by
 unfold treeB
 by_cases h : t.length ≤ 60
 ·obtain ⟨K, e⟩ := ev_all (fun k i => spec_TreeOk.l0 k t i) (fun i => nodeAt (rd_T30 t i) i) t.length 1
   (fun k i hk h0 h1 => by
    obtain ⟨k, rfl⟩ : ∃ q, k = q + 1 := ⟨k - 1, by omega⟩
    show spec_TreeOk.l0 (k + 1 + 1) t i = _
    unfold nodeAt upB
    simp only [spec_TreeOk.l0, spec_node k, l1In_eq, Option.bind_some]
    rw [if_pos h1, if_pos h0, wrap_id (x := i - 1) (by omega) (by omega)]
    cases ownB (rd_T30 t i) with
    | false => simp
    | true => by_cases hf : (rd_T30 t i).f0 = 0 <;> simp [hf])
   (fun k i h => by show spec_TreeOk.l0 (k + 1) t i = _; simp only [spec_TreeOk.l0]; rw [if_neg h]) hn
  refine ⟨K, fun k hk => ?_⟩
  unfold spec_TreeOk.f
  rw [if_neg (by omega), decide_eq_true h, Bool.true_and]
  exact e k hk
 ·refine ⟨0, fun k _ => ?_⟩
  unfold spec_TreeOk.f
  rw [if_pos (by omega)]
  simp [h]
theorem impl_tree (t : List S30) (hn : t.length ≤ 9223372036854775807) : ∃ K, ∀ k, K ≤ k → impl_TreeOk.f k t = some (treeB t) := by
 have e := ev_all (fun k i => impl_TreeOk.l0 k t (t.length : Int) i) (fun i => !(i == 60) && nodeAt (rd_T30 t i) i) t.length 2
   (fun k i hk h0 h1 => by
    obtain ⟨k, rfl⟩ : ∃ q, k = q + 2 := ⟨k - 2, by omega⟩
    show impl_TreeOk.l0 (k + 2 + 1) t _ i = (if _ then impl_TreeOk.l0 (k + 2) t _ _ else _)
    generalize hw : impl_TreeOk.l0 (k + 2) t (t.length : Int) (wrap64 (i + 1)) = R
    rw [impl_TreeOk.l0, impl_node k _ i h0 (by omega), hw]
    simp only [Option.bind_some]
    rw [if_pos h1, if_pos h0, if_pos h1]
    by_cases h60 : i = 60 <;> simp [h60])
   (fun k i h => by show impl_TreeOk.l0 (k + 1) t _ i = _; simp only [impl_TreeOk.l0]; rw [if_neg h]) hn
 have hb : allFrom (fun i => !(i == 60) && nodeAt (rd_T30 t i) i) t.length 0 = treeB t := by
  unfold treeB
  rw [Bool.eq_iff_iff, Bool.and_eq_true, allFrom_iff, allFrom_iff, decide_eq_true_eq]
  constructor
  ·intro h
   refine ⟨?_, fun j h0 h1 => by have := h j h0 h1; simp at this; exact this.2⟩
   apply Decidable.byContradiction
   intro hc
   have := h 60 (by omega) (by omega)
   simp at this
  ·rintro ⟨hl, h⟩ j h0 h1
   have := h j h0 h1
   simp [this]
   omega
 rw [hb] at e
 exact e
theorem treeB_len {t : List S30} (h : treeB t = true) : t.length ≤ 60 := by
 unfold treeB at h
 simp at h
 exact h.1
theorem treeB_at {t : List S30} (h : treeB t = true) (i : Int) (h0 : 0 ≤ i) (h1 : i < (t.length : Int)) : ownB (rd_T30 t i) = true ∧ upB (rd_T30 t i) i = true := by
 unfold treeB at h
 rw [Bool.and_eq_true, allFrom_iff] at h
 have := h.2 i (by omega) (by omega)
 unfold nodeAt at this
 simpa using this
theorem treeB_up {t : List S30} (h : treeB t = true) (i : Int) (h0 : 0 ≤ i) (h1 : i < (t.length : Int)) : -1 ≤ (rd_T30 t i).f1 ∧ (rd_T30 t i).f1 < i ∧ (¬ (rd_T30 t i).f0 = 0 → 0 ≤ (rd_T30 t i).f1) := by
 have hu := (treeB_at h i h0 h1).2
 unfold upB at hu
 split at hu
 ·rename_i hz
  have : (rd_T30 t i).f1 = -1 := by simpa using hu
  omega
 ·have := btw_iff.1 hu
  omega
/-- There is that node in a right tree. -/
def hasB (t : List S30) (n : Int) : Bool := treeB t && btw n 0 ((t.length : Int) - 1)
theorem hasB_iff {t : List S30} {n : Int} : hasB t n = true ↔ treeB t = true ∧ 0 ≤ n ∧ n < (t.length : Int) := by
 unfold hasB
 rw [Bool.and_eq_true, btw_iff]
 constructor <;> rintro ⟨h1, h2, h3⟩ <;> exact ⟨h1, by omega, by omega⟩
theorem spec_hasA (t : List S30) (hn : t.length ≤ 9223372036854775807) : ∃ K, ∀ k, K ≤ k → ∀ n, spec_l5Has.f k t n = some (hasB t n) := by
 obtain ⟨K, h⟩ := spec_tree t hn
 refine ⟨K, fun k hk n => ?_⟩
 unfold spec_l5Has.f hasB
 rw [h k hk]
 simp only [Option.bind_some]
 rw [l1In_eq, wrap_id (by omega) (by omega)]
 cases treeB t <;> simp
theorem impl_isIn (t : List S30) (n : Int) (hn : t.length ≤ 9223372036854775807) : impl_Node_66.f n t = some (btw n 0 ((t.length : Int) - 1)) := by
 unfold impl_Node_66.f impl_Node_63.f
 simp only [Option.bind_some]
 rw [within_eq, wrap_id (by omega) (by omega)]
 rfl
/-- A node, and those above it up to a root or a cut. -/
def chainF (t : List S30) : Nat → Int → List Int
 | 0, _ => []
 | m + 1, i => i :: (if (rd_T30 t i).f0 = 0 ∨ (rd_T30 t i).f0 = 4 then [] else chainF t m (rd_T30 t i).f1)
theorem chainF_length (t : List S30) : ∀ (m : Nat) (i : Int), (chainF t m i).length ≤ m := by
 intro m
 induction m with
 | zero => intro i; simp [chainF]
 | succ m ih =>
  intro i
  unfold chainF
  split
  ·simp
  ·have := ih (rd_T30 t i).f1
   simpa using this
theorem spec_chain_loop {t : List S30} (h : treeB t = true) : ∀ (m k : Nat) (acc : List Int) (i : Int), 0 ≤ i → i < (t.length : Int) → i < m → m ≤ k → acc.length + m ≤ 1000 → spec_ChainOf.l0 k t acc i = some (acc ++ chainF t m i) := by
 intro m
 induction m with
 | zero => intro k acc i h0 h1 h2; omega
 | succ m ih =>
  intro k acc i h0 h1 h2 hk ha
  obtain ⟨k, rfl⟩ : ∃ q, k = q + 1 := ⟨k - 1, by omega⟩
  have hu := treeB_up h i h0 h1
  rw [spec_ChainOf.l0, if_pos (by omega)]
  simp only [Option.bind_some]
  rw [if_pos h0, if_pos h1]
  unfold chainF
  by_cases hr : (rd_T30 t i).f0 = 0
  ·rw [if_pos hr, if_pos (.inl hr)]
  ·by_cases hc : (rd_T30 t i).f0 = 4
   ·rw [if_neg hr, if_pos hc, if_pos (.inr hc)]
   ·rw [if_neg hr, if_neg hc, if_neg (by omega)]
    have hu2 := hu.2.2 hr
    rw [ih k (acc ++ [i]) _ hu2 (by omega) (by omega) (by omega) (by rw [List.length_append]; simp; omega), List.append_assoc]
    rfl
theorem impl_chain_loop {t : List S30} (h : treeB t = true) : ∀ (m k : Nat) (acc : List Int) (i : Int), 0 ≤ i → i < (t.length : Int) → i < m → m ≤ k → acc.length + m ≤ 1000 → impl_chain.l0 k t i acc = some (acc ++ (chainF t m i).tail) := by
 intro m
 induction m with
 | zero => intro k acc i h0 h1 h2; omega
 | succ m ih =>
  intro k acc i h0 h1 h2 hk ha
  obtain ⟨k, rfl⟩ : ∃ q, k = q + 1 := ⟨k - 1, by omega⟩
  have hu := treeB_up h i h0 h1
  rw [impl_chain.l0, if_pos h0, if_pos h1]
  unfold chainF
  by_cases hr : (rd_T30 t i).f0 = 0
  ·rw [if_pos hr, if_pos (.inl hr)]
   simp
  ·by_cases hc : (rd_T30 t i).f0 = 4
   ·rw [if_neg hr, if_pos hc, if_pos (.inr hc)]
    simp
   ·rw [if_neg hr, if_neg hc, if_pos (by omega), if_neg (by omega)]
    have hu2 := hu.2.2 hr
    rw [ih k (acc ++ [(rd_T30 t i).f1]) _ hu2 (by omega) (by omega) (by omega) (by rw [List.length_append]; simp; omega), List.append_assoc]
    obtain ⟨m, rfl⟩ : ∃ q, m = q + 1 := ⟨m - 1, by omega⟩
    simp [chainF]
theorem impl_chain_eq {t : List S30} (h : treeB t = true) (i : Int) (h0 : 0 ≤ i) (h1 : i < (t.length : Int)) (k : Nat) (hk : 61 ≤ k) : impl_chain.f k t i = some (chainF t 61 i) := by
 have hl := treeB_len h
 unfold impl_chain.f
 rw [impl_chain_loop h 61 k _ i h0 h1 (by omega) hk (by simp)]
 simp [chainF]
theorem spec_chainofA (t : List S30) (hn : t.length ≤ 9223372036854775807) : ∃ K, ∀ k, K ≤ k → ∀ n, spec_ChainOf.f k t n = some (if hasB t n = true then chainF t 61 n else []) := by
 obtain ⟨K, h⟩ := spec_hasA t hn
 refine ⟨K + 61, fun k hk n => ?_⟩
 unfold spec_ChainOf.f
 simp only [Option.bind_some]
 rw [h k (by omega)]
 simp only [Option.bind_some]
 cases hb : hasB t n with
 | false => rfl
 | true =>
  obtain ⟨ht, h0, h1⟩ := hasB_iff.1 hb
  have hl := treeB_len ht
  rw [if_pos rfl, if_pos rfl, spec_chain_loop ht 61 k _ n h0 h1 (by omega) (by omega) (by simp)]
  rfl
theorem due_spec (a b : Int) : spec_IsDue.f a b = some (decide (b ≤ a) && (b != 9223372036854775807)) := by
 unfold spec_IsDue.f
 by_cases h : b ≤ a <;> simp [h]
theorem due_impl (a b : Int) : impl_IsDue.f a b = some (decide (b ≤ a) && (b != 9223372036854775807)) := by
 unfold impl_IsDue.f
 by_cases h : b ≤ a <;> simp [h]
/-- What the document asks of an event for itself. -/
def evB (t : List S30) (e : S58) : Bool :=
 btw e.f0 0 ((t.length : Int) - 1) && (if e.f1 = 1 then (((rd_T30 t e.f0).f0 == 1) || ((rd_T30 t e.f0).f0 == 2)) && btw e.f2 0 999
  else (e.f1 == 2) && (((rd_T30 t e.f0).f0 == 2) && ((decide ((rd_T30 t e.f0).f2 ≤ e.f3) && ((rd_T30 t e.f0).f2 != 9223372036854775807)) && (e.f2 == 0))))
theorem spec_event (t : List S30) (e : S58) (hn : t.length ≤ 9223372036854775807) : spec_l6Event.f t e.f0 e.f1 e.f2 e.f3 = some (evB t e) := by
 unfold spec_l6Event.f evB
 rw [l1In_eq, wrap_id (by omega) (by omega)]
 simp only [Option.bind_some, l1In_eq, due_spec]
 cases hb : btw e.f0 0 ((t.length : Int) - 1) with
 | false => simp
 | true =>
  have hb2 := btw_iff.1 hb
  rw [if_pos rfl, if_pos (by omega), if_pos (by omega)]
  generalize (decide ((rd_T30 t e.f0).f2 ≤ e.f3) && ((rd_T30 t e.f0).f2 != 9223372036854775807)) = dd
  by_cases h1 : e.f1 = 1
  ·by_cases h2 : (rd_T30 t e.f0).f0 = 1 <;> by_cases h3 : (rd_T30 t e.f0).f0 = 2 <;> simp [h1, h2, h3]
  ·by_cases h2 : e.f1 = 2 <;> by_cases h3 : (rd_T30 t e.f0).f0 = 2 <;> cases dd <;> simp [h1, h2, h3]
theorem impl_event (t : List S30) (e : S58) (hn : t.length ≤ 9223372036854775807) : impl_Event_isEvent.f e.f0 e.f1 e.f2 e.f3 t = some (evB t e) := by
 unfold impl_Event_isEvent.f evB
 rw [impl_isIn t _ hn]
 simp only [Option.bind_some, within_eq, due_impl]
 cases hb : btw e.f0 0 ((t.length : Int) - 1) with
 | false => simp
 | true =>
  have hb2 := btw_iff.1 hb
  rw [if_pos rfl, if_pos (by omega), if_pos (by omega)]
  generalize (decide ((rd_T30 t e.f0).f2 ≤ e.f3) && ((rd_T30 t e.f0).f2 != 9223372036854775807)) = dd
  by_cases h1 : e.f1 = 1
  ·by_cases h2 : (rd_T30 t e.f0).f0 = 1 <;> by_cases h3 : (rd_T30 t e.f0).f0 = 2 <;> simp [h1, h2, h3]
  ·by_cases h2 : e.f1 = 2 <;> by_cases h3 : (rd_T30 t e.f0).f0 = 2 <;> cases dd <;> simp [h1, h2, h3]
theorem spec_in_loop (l : List Int) (x : Int) (hl : l.length ≤ 1000) : ∀ (m j k : Nat), j + m = l.length → m < k → spec_l6In.l0 k l x (j : Int) = some ((l.drop j).contains x) := by
 intro m
 induction m with
 | zero =>
  intro j k hj hk
  obtain ⟨k, rfl⟩ : ∃ q, k = q + 1 := ⟨k - 1, by omega⟩
  rw [spec_l6In.l0, if_neg (by omega), List.drop_of_length_le (by omega)]
  rfl
 | succ m ih =>
  intro j k hj hk
  obtain ⟨k, rfl⟩ : ∃ q, k = q + 1 := ⟨k - 1, by omega⟩
  have hlt : j < l.length := by omega
  have e : rd l (j : Int) = l[j] := by unfold rd; rw [Int.toNat_natCast, getD_lt _ hlt]
  rw [spec_l6In.l0, if_pos (by omega), if_pos (by omega), e, wrap_id (by omega) (by omega), show ((j : Int) + 1) = ((j + 1 : Nat) : Int) by omega, ih (j + 1) k (by omega) (by omega), List.drop_eq_getElem_cons hlt, List.contains_cons]
  by_cases h : l[j] = x
  ·rw [if_pos h]; simp [h]
  ·rw [if_neg h]
   have h2 : ¬ x = l[j] := fun e => h e.symm
   simp [h2]
theorem spec_in (l : List Int) (x : Int) (hl : l.length ≤ 1000) (k : Nat) (hk : l.length < k) : spec_l6In.f k l x = some (l.contains x) := by
 unfold spec_l6In.f
 exact spec_in_loop l x hl l.length 0 k (by omega) hk
theorem index_loop (l : List Int) (x : Int) (hl : l.length ≤ 1000) : ∀ (m j k : Nat), j + m = l.length → m < k → ∃ r : Int, slices_Index_int64_int64.l0 k l x (l.length : Int) (j : Int) = some r ∧ decide (r ≥ 0) = (l.drop j).contains x := by
 intro m
 induction m with
 | zero =>
  intro j k hj hk
  obtain ⟨k, rfl⟩ : ∃ q, k = q + 1 := ⟨k - 1, by omega⟩
  refine ⟨-1, ?_, ?_⟩
  ·rw [slices_Index_int64_int64.l0, if_neg (by omega)]
  ·rw [List.drop_of_length_le (by omega)]
   rfl
 | succ m ih =>
  intro j k hj hk
  obtain ⟨k, rfl⟩ : ∃ q, k = q + 1 := ⟨k - 1, by omega⟩
  have hlt : j < l.length := by omega
  have e : rd l (j : Int) = l[j] := by unfold rd; rw [Int.toNat_natCast, getD_lt _ hlt]
  rw [slices_Index_int64_int64.l0, if_pos (by omega), if_pos (by omega), if_pos (by omega), e, wrap_id (by omega) (by omega), show ((j : Int) + 1) = ((j + 1 : Nat) : Int) by omega, List.drop_eq_getElem_cons hlt, List.contains_cons]
  by_cases h : x = l[j]
  ·rw [if_pos h]
   exact ⟨j, rfl, by simp [h]⟩
  ·rw [if_neg h]
   obtain ⟨r, h1, h2⟩ := ih (j + 1) k (by omega) (by omega)
   exact ⟨r, h1, by rw [h2]; simp [h]⟩
theorem contains_eq (l : List Int) (x : Int) (hl : l.length ≤ 1000) (k : Nat) (hk : l.length < k) : slices_Contains_int64_int64.f k l x = some (l.contains x) := by
 unfold slices_Contains_int64_int64.f slices_Index_int64_int64.f
 obtain ⟨r, h1, h2⟩ := index_loop l x hl l.length 0 k (by omega) hk
 rw [show slices_Index_int64_int64.l0 k l x (l.length : Int) 0 = some r from h1]
 simp only [Option.bind_some]
 rw [h2]
 rfl
/-- Where the first event of some nodes stands. -/
def fIx (ch : List Int) : List S58 → Nat → Option Nat
 | [], _ => none
 | e :: es, j => if ch.contains e.f0 = true then some j else fIx ch es (j + 1)
def ixI (o : Option Nat) : Int := match o with | none => -1 | some j => (j : Int)
def ixE (l : List S58) (o : Option Nat) : Int × Int × Int × Int × Bool := match o with | none => (0, 0, 0, 0, false) | some j => ((rd_T58 l j).f0, (rd_T58 l j).f1, (rd_T58 l j).f2, (rd_T58 l j).f3, true)
theorem fIx_lt (ch : List Int) : ∀ (l : List S58) (j q : Nat), fIx ch l j = some q → j ≤ q ∧ q < j + l.length := by
 intro l
 induction l with
 | nil => intro j q h; simp [fIx] at h
 | cons e es ih =>
  intro j q h
  unfold fIx at h
  split at h
  ·simp at h; subst h; simp
  ·have := ih _ _ h
   simp
   omega
theorem spec_first_loop (ch : List Int) (l : List S58) (hc : ch.length ≤ 1000) (hl : l.length ≤ 4611686018427387904) : ∀ (m j k : Nat), j + m = l.length → m + ch.length + 1 < k → spec_l6First.l0 k l ch (j : Int) = some (ixI (fIx ch (l.drop j) j)) := by
 intro m
 induction m with
 | zero =>
  intro j k hj hk
  obtain ⟨k, rfl⟩ : ∃ q, k = q + 1 := ⟨k - 1, by omega⟩
  rw [spec_l6First.l0, if_neg (by omega), List.drop_of_length_le (by omega)]
  rfl
 | succ m ih =>
  intro j k hj hk
  obtain ⟨k, rfl⟩ : ∃ q, k = q + 1 := ⟨k - 1, by omega⟩
  have hlt : j < l.length := by omega
  have e : rd_T58 l (j : Int) = l[j] := by unfold rd_T58; rw [Int.toNat_natCast, getD_lt _ hlt]
  rw [spec_l6First.l0, if_pos (by omega), if_pos (by omega), e, spec_in ch _ hc k (by omega), List.drop_eq_getElem_cons hlt]
  simp only [Option.bind_some]
  unfold fIx
  by_cases h : ch.contains l[j].f0 = true
  ·rw [if_pos h, if_pos h]; rfl
  ·rw [if_neg h, if_neg h, wrap_id (by omega) (by omega), show ((j : Int) + 1) = ((j + 1 : Nat) : Int) by omega]
   exact ih (j + 1) k (by omega) (by omega)
theorem impl_first_loop (ch : List Int) (l : List S58) (hc : ch.length ≤ 1000) (hl : l.length ≤ 4611686018427387904) : ∀ (m j k : Nat), j + m = l.length → m + ch.length + 1 < k → impl_firstOf.l0 k ch l (l.length : Int) (j : Int) = some (ixE l (fIx ch (l.drop j) j)) := by
 intro m
 induction m with
 | zero =>
  intro j k hj hk
  obtain ⟨k, rfl⟩ : ∃ q, k = q + 1 := ⟨k - 1, by omega⟩
  rw [impl_firstOf.l0, if_neg (by omega), List.drop_of_length_le (by omega)]
  rfl
 | succ m ih =>
  intro j k hj hk
  obtain ⟨k, rfl⟩ : ∃ q, k = q + 1 := ⟨k - 1, by omega⟩
  have hlt : j < l.length := by omega
  have e : rd_T58 l (j : Int) = l[j] := by unfold rd_T58; rw [Int.toNat_natCast, getD_lt _ hlt]
  rw [impl_firstOf.l0, if_pos (by omega), if_pos (by omega), if_pos (by omega), contains_eq ch _ hc k (by omega), List.drop_eq_getElem_cons hlt]
  simp only [Option.bind_some]
  unfold fIx
  rw [e]
  by_cases h : ch.contains l[j].f0 = true
  ·rw [if_pos h, if_pos h]; simp only [ixE, e]
  ·rw [if_neg h, if_neg h, wrap_id (by omega) (by omega), show ((j : Int) + 1) = ((j + 1 : Nat) : Int) by omega]
   exact ih (j + 1) k (by omega) (by omega)
def firstB (t : List S30) (l : List S58) (n : Int) : Option Nat := fIx (chainF t 61 n) l 0
theorem spec_first {t : List S30} (ht : treeB t = true) (hl : ∀ l : List S58, l.length ≤ 2000000 → True) : ∃ K, ∀ k, K ≤ k → ∀ (l : List S58) (n : Int), l.length ≤ 2000000 → 0 ≤ n → n < (t.length : Int) → spec_l6First.f k t l n = some (ixI (firstB t l n)) := by
 have hlen := treeB_len ht
 obtain ⟨K, h⟩ := spec_chainofA t (by omega)
 refine ⟨K + 2000200, fun k hk l n hl h0 h1 => ?_⟩
 have hc := chainF_length t 61 n
 unfold spec_l6First.f
 rw [h k (by omega) n, if_pos (hasB_iff.2 ⟨ht, h0, h1⟩)]
 simp only [Option.bind_some]
 exact spec_first_loop (chainF t 61 n) l (by omega) (by omega) l.length 0 k (by omega) (by omega)
theorem impl_first {t : List S30} (ht : treeB t = true) (l : List S58) (n : Int) (hl : l.length ≤ 2000000) (h0 : 0 ≤ n) (h1 : n < (t.length : Int)) (k : Nat) (hk : 2000200 ≤ k) : impl_firstOf.f k t l n = some (ixE l (firstB t l n)) := by
 have hc := chainF_length t 61 n
 unfold impl_firstOf.f
 rw [impl_chain_eq ht n h0 h1 k (by omega)]
 simp only [Option.bind_some]
 exact impl_first_loop (chainF t 61 n) l (by omega) (by omega) l.length 0 k (by omega) (by omega)
/-- Whether an event may stand behind others. -/
def fitB (t : List S30) (e : S58) (l : List S58) : Bool := evB t e && (!(decide (0 < l.length) && decide (e.f3 < (rd_T58 l ((l.length : Int) - 1)).f3)) && (firstB t l e.f0).isNone)
theorem evB_in {t : List S30} {e : S58} (h : evB t e = true) : 0 ≤ e.f0 ∧ e.f0 < (t.length : Int) := by
 unfold evB at h
 rw [Bool.and_eq_true] at h
 have := btw_iff.1 h.1
 omega
theorem ixE_flag (l : List S58) (o : Option Nat) : (ixE l o).2.2.2.2 = o.isSome := by cases o <;> rfl
theorem ixI_neg (o : Option Nat) : (ixI o ≥ 0) = (o.isSome = true) := by
 cases o with
 | none => simp [ixI]
 | some j => simp [ixI]
theorem impl_fits {t : List S30} (ht : treeB t = true) (e : S58) (l : List S58) (hl : l.length ≤ 2000000) (k : Nat) (hk : 2000200 ≤ k) : impl_Event_fits.f k e.f0 e.f1 e.f2 e.f3 t l = some (fitB t e l) := by
 have hlen := treeB_len ht
 unfold impl_Event_fits.f fitB
 rw [impl_event t e (by omega)]
 simp only [Option.bind_some]
 cases he : evB t e with
 | false => simp
 | true =>
  obtain ⟨h0, h1⟩ := evB_in he
  rw [impl_first ht l e.f0 hl h0 h1 k hk, wrap_id (by omega) (by omega), if_pos rfl]
  simp only [Option.bind_some, ixE_flag]
  by_cases hp : 0 < l.length
  ·rw [if_pos (by omega), if_pos (by omega), if_pos (by omega)]
   by_cases hc : e.f3 < (rd_T58 l ((l.length : Int) - 1)).f3
   ·rw [if_pos hc]; simp [hp, hc]
   ·rw [if_neg hc]; cases firstB t l e.f0 <;> simp [hc]
  ·rw [if_neg (by omega)]; cases firstB t l e.f0 <;> simp [hp]
def okAt (t : List S30) (l : List S58) (i : Int) : Bool := fitB t (rd_T58 l i) (l.take i.toNat)
/-- Events are those of a tree. -/
def eventsB (t : List S30) (l : List S58) : Bool := treeB t && allFrom (okAt t l) l.length 0
theorem rd_take {l : List S58} {i : Int} (h0 : 0 < i) (h1 : i < (l.length : Int)) : rd_T58 (l.take i.toNat) (i - 1) = rd_T58 l (i - 1) := by
 unfold rd_T58
 rw [getD_lt _ (by rw [List.length_take]; omega), getD_lt _ (by omega), List.getElem_take]
theorem impl_events (t : List S30) (l : List S58) (hn : t.length ≤ 9223372036854775807) (hl : l.length ≤ 2000000) : ∃ K, ∀ k, K ≤ k → impl_EventsOk.f k t l = some (eventsB t l) := by
 obtain ⟨K, h⟩ := impl_tree t hn
 cases ht : treeB t with
 | false =>
  refine ⟨K, fun k hk => ?_⟩
  unfold impl_EventsOk.f eventsB
  rw [h k hk, ht]
  rfl
 | true =>
  obtain ⟨K2, e⟩ := ev_all (fun k i => impl_EventsOk.l0 k t l l (l.length : Int) i) (okAt t l) l.length 2000200
   (fun k i hk h0 h1 => by
    show impl_EventsOk.l0 (k + 1) t l l _ i = (if _ then impl_EventsOk.l0 k t l l _ _ else _)
    generalize hw : impl_EventsOk.l0 k t l l (l.length : Int) (wrap64 (i + 1)) = R
    rw [impl_EventsOk.l0, impl_fits ht _ _ (by rw [List.length_take]; omega) k hk, hw]
    simp only [Option.bind_some]
    rw [if_pos h1, if_pos h0, if_pos h1, if_pos (by omega)]
    rfl)
   (fun k i hi => by show impl_EventsOk.l0 (k + 1) t l l _ i = _; rw [impl_EventsOk.l0, if_neg hi]) (by omega)
  refine ⟨K + K2, fun k hk => ?_⟩
  unfold impl_EventsOk.f eventsB
  rw [h k (by omega), ht]
  exact e k (by omega)
theorem spec_events (t : List S30) (l : List S58) (hn : t.length ≤ 9223372036854775807) (hl : l.length ≤ 2000000) : ∃ K, ∀ k, K ≤ k → spec_EventsOk.f k t l = some (eventsB t l) := by
 obtain ⟨K, h⟩ := spec_tree t hn
 cases ht : treeB t with
 | false =>
  refine ⟨K, fun k hk => ?_⟩
  unfold spec_EventsOk.f eventsB
  rw [h k hk, ht]
  rfl
 | true =>
  obtain ⟨K1, hf⟩ := spec_first ht (fun _ _ => trivial)
  obtain ⟨K2, e⟩ := ev_all (fun k i => spec_EventsOk.l0 k t l i) (okAt t l) l.length K1
   (fun k i hk h0 h1 => by
    show spec_EventsOk.l0 (k + 1) t l i = (if _ then spec_EventsOk.l0 k t l _ else _)
    generalize hw : spec_EventsOk.l0 k t l (wrap64 (i + 1)) = R
    rw [spec_EventsOk.l0, spec_event t _ hn, hw]
    simp only [Option.bind_some]
    rw [if_pos h1, if_pos h0, wrap_id (by omega) (by omega)]
    unfold okAt fitB
    cases he : evB t (rd_T58 l i) with
    | false => simp
    | true =>
     obtain ⟨g0, g1⟩ := evB_in he
     have hfi := hf k hk (l.take i.toNat) (rd_T58 l i).f0 (by rw [List.length_take]; omega) g0 g1
     rw [hfi]
     simp only [Option.bind_some, ixI_neg]
     rw [if_pos trivial]
     have hlt : ((l.take i.toNat).length : Int) = i := by rw [List.length_take]; omega
     by_cases hp : i > 0
     ·rw [if_pos hp, if_pos (by omega), if_pos (by omega), hlt, rd_take hp h1]
      have hp2 : 0 < (l.take i.toNat).length := by omega
      by_cases hc : (rd_T58 l i).f3 < (rd_T58 l (i - 1)).f3
      ·rw [if_pos hc, decide_eq_true hp2, decide_eq_true hc]; simp
      ·rw [if_neg hc, if_pos (by omega), decide_eq_false hc]
       cases firstB t (l.take i.toNat) (rd_T58 l i).f0 <;> simp
     ·rw [if_neg hp, if_pos (by omega)]
      have hp2 : ¬ 0 < (l.take i.toNat).length := by omega
      rw [decide_eq_false hp2]
      cases firstB t (l.take i.toNat) (rd_T58 l i).f0 <;> simp)
   (fun k i hi => by show spec_EventsOk.l0 (k + 1) t l i = _; rw [spec_EventsOk.l0, if_neg hi]) (by omega)
  refine ⟨K + K2, fun k hk => ?_⟩
  unfold spec_EventsOk.f eventsB
  rw [h k (by omega), ht]
  exact e k (by omega)
theorem copyE_eq (l : List S58) (hn : l.length ≤ 2000000) : spec_l6Copy.f l = some l := by
 unfold spec_l6Copy.f
 simp only [Option.bind_some, List.nil_append, List.length_nil]
 rw [if_pos (by omega)]
theorem cloneE_eq (l : List S58) (hn : l.length ≤ 2000000) : impl_Event.f l = some l := by
 unfold impl_Event.f
 simp only [Option.bind_some, List.nil_append, List.length_nil]
 rw [if_pos (by omega)]
theorem rdE_snoc_lt (l : List S58) (e : S58) (i : Int) (h0 : 0 ≤ i) (h1 : i < (l.length : Int)) : rd_T58 (l ++ [e]) i = rd_T58 l i := by
 unfold rd_T58
 rw [getD_lt _ (by rw [List.length_append]; simp; omega), getD_lt _ (by omega), List.getElem_append_left]
theorem rdE_snoc_eq (l : List S58) (e : S58) : rd_T58 (l ++ [e]) (l.length : Int) = e := by
 unfold rd_T58
 rw [getD_lt _ (by rw [List.length_append]; simp), List.getElem_append_right (by simp)]
 simp
theorem okAt_snoc_lt (t : List S30) (l : List S58) (e : S58) (i : Int) (h0 : 0 ≤ i) (h1 : i < (l.length : Int)) : okAt t (l ++ [e]) i = okAt t l i := by
 unfold okAt
 rw [rdE_snoc_lt l e i h0 h1, List.take_append_of_le_length (by omega)]
theorem okAt_snoc_eq (t : List S30) (l : List S58) (e : S58) : okAt t (l ++ [e]) (l.length : Int) = fitB t e l := by
 unfold okAt
 rw [rdE_snoc_eq, Int.toNat_natCast, List.take_left]
theorem eventsB_snoc (t : List S30) (l : List S58) (e : S58) (h : eventsB t l = true) : eventsB t (l ++ [e]) = fitB t e l := by
 rw [Bool.eq_iff_iff]
 unfold eventsB at h ⊢
 rw [Bool.and_eq_true, allFrom_iff] at h ⊢
 have he : (l ++ [e]).length = l.length + 1 := by simp
 constructor
 ·rintro ⟨_, h2⟩
  have := h2 (l.length : Int) (by omega) (by rw [he]; omega)
  rwa [okAt_snoc_eq] at this
 ·intro hf
  refine ⟨h.1, fun j h0 h1 => ?_⟩
  rw [he] at h1
  by_cases hj : j = (l.length : Int)
  ·rw [hj, okAt_snoc_eq]; exact hf
  ·rw [okAt_snoc_lt t l e j h0 (by omega)]
   exact h.2 j h0 (by omega)
/-- An event more. -/
def letgoB (t : List S30) (l : List S58) (e : S58) : List S58 × Bool := if eventsB t l = true then (if fitB t e l = true then (l ++ [e], true) else (l, false)) else ([], false)
theorem letgoB_length (t : List S30) (l : List S58) (e : S58) : (letgoB t l e).1.length ≤ l.length + 1 := by
 unfold letgoB
 split
 ·split <;> simp
 ·simp
theorem spec_letgo (t : List S30) (l : List S58) (e : S58) (hn : t.length ≤ 9223372036854775807) (hl : l.length < 2000000) : ∃ K, ∀ k, K ≤ k → spec_LetGo.f k t l e.f0 e.f1 e.f2 e.f3 = some (letgoB t l e) := by
 obtain ⟨K, h⟩ := spec_events t l hn (by omega)
 obtain ⟨K2, h2⟩ := spec_events t (l ++ [e]) hn (by simp; omega)
 refine ⟨K + K2, fun k hk => ?_⟩
 unfold spec_LetGo.f letgoB
 rw [h k (by omega)]
 simp only [Option.bind_some]
 cases he : eventsB t l with
 | false => rfl
 | true =>
  rw [if_pos rfl, if_pos rfl, copyE_eq l (by omega)]
  simp only [Option.bind_some]
  rw [if_pos (by simp; omega), show (⟨e.f0, e.f1, e.f2, e.f3⟩ : S58) = e from rfl, h2 k (by omega), eventsB_snoc t l e he]
  simp only [Option.bind_some]
  split <;> rfl
theorem impl_letgo (t : List S30) (l : List S58) (e : S58) (hn : t.length ≤ 9223372036854775807) (hl : l.length < 2000000) : ∃ K, ∀ k, K ≤ k → impl_LetGo.f k t l e.f0 e.f1 e.f2 e.f3 = some (letgoB t l e) := by
 obtain ⟨K, h⟩ := impl_events t l hn (by omega)
 refine ⟨K + 2000200, fun k hk => ?_⟩
 unfold impl_LetGo.f letgoB
 rw [h k (by omega)]
 simp only [Option.bind_some]
 cases he : eventsB t l with
 | false => rfl
 | true =>
  have ht : treeB t = true := by
   unfold eventsB at he
   rw [Bool.and_eq_true] at he
   exact he.1
  rw [if_pos rfl, if_pos rfl, impl_fits ht e l (by omega) k (by omega), cloneE_eq l (by omega)]
  simp only [Option.bind_some]
  cases hf : fitB t e l with
  | false => rfl
  | true => rw [if_pos rfl, if_pos rfl, if_pos (by simp; omega)]
/-- The first event of a node; all of it 0 where there is none. -/
def foB (t : List S30) (l : List S58) (n : Int) : Int × Int × Int × Int × Bool := if (eventsB t l && hasB t n) = true then ixE l (firstB t l n) else (0, 0, 0, 0, false)
theorem impl_foA (t : List S30) (l : List S58) (hn : t.length ≤ 9223372036854775807) (hl : l.length ≤ 2000000) : ∃ K, ∀ k, K ≤ k → ∀ n, impl_FirstOf.f k t l n = some (foB t l n) := by
 obtain ⟨K, h⟩ := impl_events t l hn hl
 refine ⟨K + 2000200, fun k hk n => ?_⟩
 unfold impl_FirstOf.f foB
 rw [h k (by omega)]
 simp only [Option.bind_some]
 rw [impl_isIn t n hn]
 simp only [Option.bind_some]
 cases he : eventsB t l with
 | false => simp
 | true =>
  have ht : treeB t = true := by
   unfold eventsB at he
   rw [Bool.and_eq_true] at he
   exact he.1
  cases hb : btw n 0 ((t.length : Int) - 1) with
  | false => simp [hasB, ht, hb]
  | true =>
   have hbb : hasB t n = true := by simp [hasB, ht, hb]
   obtain ⟨_, h0, h1⟩ := hasB_iff.1 hbb
   rw [if_pos rfl, if_pos rfl, impl_first ht l n hl h0 h1 k (by omega), if_pos (by simp [hbb])]
   rfl
theorem impl_errA (t : List S30) (l : List S58) (hn : t.length ≤ 9223372036854775807) (hl : l.length ≤ 2000000) : ∃ K, ∀ k, K ≤ k → ∀ n, impl_ErrOf.f k t l n = some (foB t l n).2.1 := by
 obtain ⟨K, h⟩ := impl_foA t l hn hl
 refine ⟨K, fun k hk n => ?_⟩
 unfold impl_ErrOf.f
 rw [h k hk]
 rfl
theorem impl_causeA (t : List S30) (l : List S58) (hn : t.length ≤ 9223372036854775807) (hl : l.length ≤ 2000000) : ∃ K, ∀ k, K ≤ k → ∀ n, impl_CauseOf.f k t l n = some (foB t l n).2.2.1 := by
 obtain ⟨K, h⟩ := impl_foA t l hn hl
 refine ⟨K, fun k hk n => ?_⟩
 unfold impl_CauseOf.f
 rw [h k hk]
 rfl
/-- The nodes that are done, of m nodes from i on. -/
def doneF (t : List S30) (l : List S58) : Nat → Int → List Int
 | 0, _ => []
 | m + 1, i => if (firstB t l i).isSome = true then i :: doneF t l m (i + 1) else doneF t l m (i + 1)
theorem doneF_length (t : List S30) (l : List S58) : ∀ (m : Nat) (i : Int), (doneF t l m i).length ≤ m := by
 intro m
 induction m with
 | zero => intro i; simp [doneF]
 | succ m ih =>
  intro i
  have := ih (i + 1)
  unfold doneF
  split
  ·simpa using this
  ·omega
def doneB (t : List S30) (l : List S58) : List Int := if eventsB t l = true then doneF t l t.length 0 else []
theorem eventsB_tree {t : List S30} {l : List S58} (h : eventsB t l = true) : treeB t = true := by
 unfold eventsB at h
 rw [Bool.and_eq_true] at h
 exact h.1
theorem doneB_length (t : List S30) (l : List S58) : (doneB t l).length ≤ 60 := by
 unfold doneB
 split
 ·rename_i h
  have := treeB_len (eventsB_tree h)
  have := doneF_length t l t.length 0
  omega
 ·simp
theorem impl_done_loop {t : List S30} (ht : treeB t = true) (l : List S58) (hl : l.length ≤ 2000000) : ∀ (m j k : Nat) (acc : List Int), j + m = t.length → m + 2000201 < k → acc.length + m ≤ 1000 → impl_doneBy.l0 k t l acc (t.length : Int) (j : Int) = some (acc ++ doneF t l m j) := by
 have hlen := treeB_len ht
 intro m
 induction m with
 | zero =>
  intro j k acc hj hk ha
  obtain ⟨k, rfl⟩ : ∃ q, k = q + 1 := ⟨k - 1, by omega⟩
  rw [impl_doneBy.l0, if_neg (by omega)]
  simp [doneF]
 | succ m ih =>
  intro j k acc hj hk ha
  obtain ⟨k, rfl⟩ : ∃ q, k = q + 1 := ⟨k - 1, by omega⟩
  rw [impl_doneBy.l0, if_pos (by omega), impl_first ht l _ hl (by omega) (by omega) k (by omega), wrap_id (by omega) (by omega), show ((j : Int) + 1) = ((j + 1 : Nat) : Int) by omega]
  simp only [Option.bind_some, ixE_flag]
  unfold doneF
  by_cases h : (firstB t l (j : Int)).isSome = true
  ·rw [if_pos h, if_pos (by omega), if_pos h, ih (j + 1) k _ (by omega) (by omega) (by rw [List.length_append]; simp; omega), List.append_assoc]
   rfl
  ·rw [if_neg h, if_neg h, ih (j + 1) k _ (by omega) (by omega) (by omega)]
   rfl
theorem impl_done (t : List S30) (l : List S58) (hn : t.length ≤ 9223372036854775807) (hl : l.length ≤ 2000000) : ∃ K, ∀ k, K ≤ k → impl_DoneBy.f k t l = some (doneB t l) := by
 obtain ⟨K, h⟩ := impl_events t l hn hl
 refine ⟨K + 2001000, fun k hk => ?_⟩
 unfold impl_DoneBy.f doneB
 rw [h k (by omega)]
 simp only [Option.bind_some]
 cases he : eventsB t l with
 | false => rfl
 | true =>
  have ht := eventsB_tree he
  have hlen := treeB_len ht
  rw [if_pos rfl, if_pos rfl]
  unfold impl_doneBy.f impl_Node_63.f
  simp only [Option.bind_some]
  rw [show impl_doneBy.l0 k t l [] (t.length : Int) 0 = _ from impl_done_loop ht l hl t.length 0 k [] (by omega) (by omega) (by simp; omega)]
  rfl
theorem and255 (n : Int) : Go.bits .and .i64 n 255 = n % 256 := by
 have h255 : (BitVec.ofInt 64 255).toNat = 2 ^ 8 - 1 := by decide
 have key : (BitVec.ofInt 64 n &&& BitVec.ofInt 64 255).toNat = (n % ((2 ^ 64 : Nat) : Int)).toNat % 2 ^ 8 := by
  rw [BitVec.toNat_and, BitVec.toNat_ofInt, h255, Nat.and_two_pow_sub_one_eq_mod]
 show IntKind.i64.wrap ((BitVec.ofInt 64 n &&& BitVec.ofInt 64 255).toNat : Nat) = n % 256
 rw [key, IntKind.wrap_i64]
 omega
theorem wrap_span (x : Int) : -9223372036854775808 ≤ wrap64 x ∧ wrap64 x ≤ 9223372036854775807 := by unfold wrap64; omega
/-- A place in the bytes of a draw. -/
def CurOk (b : List Int) (i : Int) : Prop := 0 ≤ i ∧ i ≤ (b.length : Int)
theorem byte_ok (b : List Int) (i h : Int) (hb : b.length ≤ 4096) (hc : CurOk b i) : ∃ x j g, spec_l1Byte.f b i h = some (x, j, g) ∧ 0 ≤ x ∧ x ≤ 255 ∧ CurOk b j := by
 obtain ⟨h0, h1⟩ := hc
 unfold spec_l1Byte.f
 by_cases hl : i < (b.length : Int)
 ·rw [if_pos hl, if_pos h0, and255, and255]
  exact ⟨_, _, _, rfl, by omega, by omega, by unfold CurOk wrap64; omega⟩
 ·rw [if_neg hl, and255]
  exact ⟨_, _, _, rfl, by omega, by omega, h0, h1⟩
theorem tmod_ok {x n : Int} (hx : 0 ≤ x) (hn : 0 < n) : 0 ≤ Int.tmod x n ∧ Int.tmod x n < n := by
 rw [Int.tmod_eq_emod_of_nonneg hx]
 exact ⟨Int.emod_nonneg x (by omega), Int.emod_lt_of_pos x hn⟩
theorem below_ok (b : List Int) (i h n : Int) (hb : b.length ≤ 4096) (hc : CurOk b i) : ∃ r j g, spec_l1Below.f b i h n = some (r, j, g) ∧ 0 ≤ r ∧ (0 < n → r < n) ∧ (n ≤ 0 → r = 0) ∧ CurOk b j := by
 unfold spec_l1Below.f
 by_cases h0 : n ≤ 0
 ·rw [if_pos h0]
  exact ⟨_, _, _, rfl, by omega, by omega, fun _ => rfl, hc⟩
 ·rw [if_neg h0]
  by_cases h1 : n ≤ 256
  ·obtain ⟨x, j, g, e, hx0, hx1, hj⟩ := byte_ok b i h hb hc
   rw [if_pos h1, e]
   simp only [Option.bind_some]
   rw [if_neg (by omega)]
   have ht := tmod_ok hx0 (show 0 < n by omega)
   exact ⟨_, _, _, rfl, ht.1, fun _ => ht.2, by omega, hj⟩
  ·obtain ⟨x, j, g, e, hx0, hx1, hj⟩ := byte_ok b i h hb hc
   obtain ⟨x2, j2, g2, e2, hy0, hy1, hj2⟩ := byte_ok b j g hb hj
   obtain ⟨x3, j3, g3, e3, hz0, hz1, hj3⟩ := byte_ok b j2 g2 hb hj2
   obtain ⟨x4, j4, g4, e4, hw0, hw1, hj4⟩ := byte_ok b j3 g3 hb hj3
   rw [if_neg h1, e]
   simp only [Option.bind_some]
   rw [e2]
   simp only [Option.bind_some]
   rw [e3]
   simp only [Option.bind_some]
   rw [e4]
   simp only [Option.bind_some]
   rw [if_neg (by omega)]
   have hs : 0 ≤ wrap64 (wrap64 (wrap64 (wrap64 (x * 16777216) + wrap64 (x2 * 65536)) + wrap64 (x3 * 256)) + x4) := by unfold wrap64; omega
   have ht := tmod_ok hs (show 0 < n by omega)
   exact ⟨_, _, _, rfl, ht.1, fun _ => ht.2, by omega, hj4⟩
theorem new_loop (b : List Int) (hb : b.length ≤ 4096) : ∀ (m j : Nat) (x : Int), j + m = b.length → ∃ g, ∀ k, m < k → spec_l1New.l0 k b x (j : Int) = some (b, 0, g) := by
 intro m
 induction m with
 | zero =>
  intro j x hj
  refine ⟨x, fun k hk => ?_⟩
  obtain ⟨k, rfl⟩ : ∃ q, k = q + 1 := ⟨k - 1, by omega⟩
  rw [spec_l1New.l0, if_neg (by omega)]
 | succ m ih =>
  intro j x hj
  obtain ⟨g, hg⟩ := ih (j + 1) (Go.bits .and .i64 (wrap64 ((wrap64 ((wrap64 (x * 173)) + (wrap64 (rd b (j : Int))))) + 11)) 1073741823) (by omega)
  refine ⟨g, fun k hk => ?_⟩
  obtain ⟨k, rfl⟩ : ∃ q, k = q + 1 := ⟨k - 1, by omega⟩
  rw [spec_l1New.l0, if_pos (by omega), if_pos (by omega)]
  have := hg k (by omega)
  rw [wrap_id (x := (j : Int) + 1) (by omega) (by omega)]
  rw [show ((j : Int) + 1) = ((j + 1 : Nat) : Int) by omega]
  exact this
theorem new_ok (b : List Int) (hb : b.length ≤ 4096) : ∃ g, ∀ k, 4097 ≤ k → spec_l1New.f k b = some (b, 0, g) := by
 obtain ⟨g, hg⟩ := new_loop b hb b.length 0 (wrap64 (314159 + (b.length : Int))) (by omega)
 refine ⟨g, fun k hk => ?_⟩
 unfold spec_l1New.f
 exact hg k (by omega)
theorem curOk0 (b : List Int) : CurOk b 0 := ⟨Int.le_refl _, by omega⟩
theorem odd_ok (b : List Int) (i h : Int) (hb : b.length ≤ 4096) (hc : CurOk b i) : ∃ r j g, spec_l1Odd.f b i h = some (r, j, g) ∧ -9223372036854775808 ≤ r ∧ r ≤ 9223372036854775807 ∧ CurOk b j := by
 obtain ⟨r, j, g, e, h0, h1, _, hj⟩ := below_ok b i h 10 hb hc
 have h2 := h1 (by omega)
 unfold spec_l1Odd.f
 simp only [Option.bind_some]
 rw [e]
 simp only [Option.bind_some]
 rw [if_pos h0, if_pos (by simp; omega)]
 refine ⟨_, _, _, rfl, ?_, ?_, hj⟩
 ·have : r = 0 ∨ r = 1 ∨ r = 2 ∨ r = 3 ∨ r = 4 ∨ r = 5 ∨ r = 6 ∨ r = 7 ∨ r = 8 ∨ r = 9 := by omega
  rcases this with rfl | rfl | rfl | rfl | rfl | rfl | rfl | rfl | rfl | rfl <;> decide
 ·have : r = 0 ∨ r = 1 ∨ r = 2 ∨ r = 3 ∨ r = 4 ∨ r = 5 ∨ r = 6 ∨ r = 7 ∨ r = 8 ∨ r = 9 := by omega
  rcases this with rfl | rfl | rfl | rfl | rfl | rfl | rfl | rfl | rfl | rfl <;> decide
theorem draw2_ok (b : List Int) (i h : Int) (hb : b.length ≤ 4096) (hc : CurOk b i) : ∃ r j g, spec_l2Draw.f b i h = some (r, j, g) ∧ -9223372036854775808 ≤ r ∧ r ≤ 9223372036854775807 ∧ CurOk b j := by
 obtain ⟨q, j, g, e, _, _, _, hj⟩ := below_ok b i h 4 hb hc
 unfold spec_l2Draw.f
 rw [e]
 simp only [Option.bind_some]
 by_cases q0 : q = 0
 ·obtain ⟨r, j2, g2, e2, h0, h1, hj2⟩ := odd_ok b j g hb hj
  rw [if_pos q0, e2]
  exact ⟨r, j2, g2, rfl, h0, h1, hj2⟩
 ·rw [if_neg q0]
  by_cases q1 : q = 1
  ·obtain ⟨r, j2, g2, e2, h0, h1, _, hj2⟩ := below_ok b j g 5 hb hj
   rw [if_pos q1, e2]
   exact ⟨_, j2, g2, rfl, (wrap_span _).1, (wrap_span _).2, hj2⟩
  ·rw [if_neg q1]
   by_cases q2 : q = 2
   ·obtain ⟨r, j2, g2, e2, h0, h1, _, hj2⟩ := below_ok b j g 5 hb hj
    unfold spec_l2Least.f
    rw [if_pos q2]
    simp only [Option.bind_some]
    rw [e2]
    exact ⟨_, j2, g2, rfl, (wrap_span _).1, (wrap_span _).2, hj2⟩
   ·unfold spec_l1From.f
    rw [if_neg q2]
    obtain ⟨r, j2, g2, e2, h0, h1, _, hj2⟩ := below_ok b j g (wrap64 ((wrap64 (30 - -9)) + 1)) hb hj
    rw [e2]
    exact ⟨_, j2, g2, rfl, (wrap_span _).1, (wrap_span _).2, hj2⟩
theorem once_ok (b : List Int) (i h n : Int) (hb : b.length ≤ 4096) (hc : CurOk b i) : ∃ r j g, spec_l1Once.f b i h n = some (r, j, g) ∧ CurOk b j := by
 obtain ⟨r, j, g, e, _, _, _, hj⟩ := below_ok b i h n hb hc
 unfold spec_l1Once.f
 rw [e]
 exact ⟨_, _, _, rfl, hj⟩
theorem from_ok (b : List Int) (i h lo hi : Int) (hb : b.length ≤ 4096) (hc : CurOk b i) (h0 : -1000000 ≤ lo) (h1 : lo ≤ hi) (h2 : hi ≤ 1000000) : ∃ r j g, spec_l1From.f b i h lo hi = some (r, j, g) ∧ lo ≤ r ∧ r ≤ hi ∧ CurOk b j := by
 unfold spec_l1From.f
 rw [wrap_id (x := hi - lo) (by omega) (by omega), wrap_id (x := hi - lo + 1) (by omega) (by omega)]
 obtain ⟨r, j, g, e, r0, r1, _, hj⟩ := below_ok b i h (hi - lo + 1) hb hc
 have := r1 (by omega)
 rw [e]
 refine ⟨_, _, _, rfl, ?_, ?_, hj⟩
 ·show lo ≤ wrap64 (lo + r)
  rw [wrap_id (by omega) (by omega)]
  omega
 ·show wrap64 (lo + r) ≤ hi
  rw [wrap_id (by omega) (by omega)]
  omega
theorem min_ok (a c : Int) : spec_l1Min.f a c = some (if a < c then a else c) := by
 unfold spec_l1Min.f
 split <;> rfl
theorem drawNode_ok (b : List Int) (i h n : Int) (hb : b.length ≤ 4096) (hc : CurOk b i) : ∃ x0 x1 x2 x3 x4 j g, spec_l5DrawNode.f b i h n = some (x0, x1, x2, x3, x4, j, g) ∧ CurOk b j := by
 obtain ⟨k, j, g, e, k0, k1, hj⟩ := from_ok b i h 1 4 hb hc (by omega) (by omega) (by omega)
 obtain ⟨u, j2, g2, e2, _, _, _, hj2⟩ := below_ok b j g (if n < 4 then n else 4) hb hj
 unfold spec_l5DrawNode.f
 rw [e]
 simp only [Option.bind_some, min_ok]
 rw [e2]
 simp only [Option.bind_some]
 by_cases q2 : k = 2
 ·obtain ⟨d, j3, g3, e3, _, _, _, hj3⟩ := below_ok b j2 g2 16 hb hj2
  obtain ⟨o, j4, g4, e4, hj4⟩ := once_ok b j3 g3 10 hb hj3
  rw [if_pos q2, e3]
  simp only [Option.bind_some]
  rw [e4]
  simp only [Option.bind_some]
  cases o
  ·exact ⟨_, _, _, _, _, _, _, rfl, hj4⟩
  ·obtain ⟨z, j5, g5, e5, _, _, hj5⟩ := draw2_ok b j4 g4 hb hj4
   rw [if_pos rfl, e5]
   exact ⟨_, _, _, _, _, _, _, rfl, hj5⟩
 ·rw [if_neg q2]
  by_cases q3 : k = 3
  ·obtain ⟨d, j3, g3, e3, _, _, _, hj3⟩ := below_ok b j2 g2 3 hb hj2
   obtain ⟨o, j4, g4, e4, _, _, _, hj4⟩ := below_ok b j3 g3 9 hb hj3
   rw [if_pos q3, e3]
   simp only [Option.bind_some]
   rw [e4]
   exact ⟨_, _, _, _, _, _, _, rfl, hj4⟩
  ·rw [if_neg q3]
   by_cases q4 : k = 4
   ·obtain ⟨o, j4, g4, e4, hj4⟩ := once_ok b j2 g2 3 hb hj2
    rw [if_pos q4, e4]
    simp only [Option.bind_some]
    cases o <;> exact ⟨_, _, _, _, _, _, _, rfl, hj4⟩
   ·rw [if_neg q4]
    exact ⟨_, _, _, _, _, _, _, rfl, hj2⟩
theorem drawTree_l1 (b : List Int) (hb : b.length ≤ 4096) : ∀ (m : Nat) (t : List S30) (x i h : Int), x ≤ m → m ≤ 60 → t.length + m ≤ 1000000 → CurOk b i → ∃ t' j g, (∀ k, m < k → spec_l5Draw.l1 k t x b i h = some (t', j, g)) ∧ CurOk b j ∧ t.length ≤ t'.length ∧ t'.length ≤ t.length + m := by
 intro m
 induction m with
 | zero =>
  intro t x i h hx _ ht hc
  refine ⟨t, i, h, fun k hk => ?_, hc, by omega, by omega⟩
  obtain ⟨k, rfl⟩ : ∃ q, k = q + 1 := ⟨k - 1, by omega⟩
  rw [spec_l5Draw.l1, if_neg (by omega)]
 | succ m ih =>
  intro t x i h hx hm ht hc
  by_cases h0 : x > 0
  ·obtain ⟨x0, x1, x2, x3, x4, j, g, e, hj⟩ := drawNode_ok b i h (t.length : Int) hb hc
   obtain ⟨t', j', g', e', hc', hl, hl'⟩ := ih (t ++ [⟨x0, x1, x2, x3, x4⟩]) (x - 1) j g (by omega) (by omega) (by simp; omega) hj
   refine ⟨t', j', g', fun k hk => ?_, hc', by simp at hl; omega, by simp at hl'; omega⟩
   obtain ⟨k, rfl⟩ : ∃ q, k = q + 1 := ⟨k - 1, by omega⟩
   rw [spec_l5Draw.l1, if_pos h0, e]
   simp only [Option.bind_some]
   rw [if_pos (by omega), wrap_id (by omega) (by omega)]
   exact e' k (by omega)
  ·refine ⟨t, i, h, fun k hk => ?_, hc, by omega, by omega⟩
   obtain ⟨k, rfl⟩ : ∃ q, k = q + 1 := ⟨k - 1, by omega⟩
   rw [spec_l5Draw.l1, if_neg h0]
theorem drawTree_end (b : List Int) (hb : b.length ≤ 4096) (t : List S30) (x i h : Int) (h0 : ¬ x > 0) (ht : t.length ≤ 1000) (hc : CurOk b i) : ∃ t' j g, (∀ k, 62 < k → spec_l5Draw.l0 k t x b i h = some (t', j, g)) ∧ CurOk b j ∧ t.length ≤ t'.length ∧ t'.length ≤ t.length + 60 := by
 obtain ⟨o, j, g, e, hj⟩ := once_ok b i h 40 hb hc
 cases o
 ·refine ⟨t, j, g, fun k hk => ?_, hj, by omega, by omega⟩
  obtain ⟨k, rfl⟩ : ∃ q, k = q + 1 := ⟨k - 1, by omega⟩
  rw [spec_l5Draw.l0, if_neg h0, e]
  rfl
 ·obtain ⟨r, j2, g2, e2, r0, _, _, hj2⟩ := below_ok b j g 2 hb hj
  have hr : r ≤ 1 := by
   obtain ⟨r', j', g', e', _, r1, _, _⟩ := below_ok b j g 2 hb hj
   rw [e2] at e'
   injection e' with e'
   injection e' with e' _
   have := r1 (by omega)
   omega
  obtain ⟨t', j', g', e', hc', hl, hl'⟩ := drawTree_l1 b hb 60 t (60 - (t.length : Int) - r) j2 g2 (by omega) (by omega) (by omega) hj2
  refine ⟨t', j', g', fun k hk => ?_, hc', hl, hl'⟩
  obtain ⟨k, rfl⟩ : ∃ q, k = q + 1 := ⟨k - 1, by omega⟩
  rw [spec_l5Draw.l0, if_neg h0, e]
  simp only [Option.bind_some]
  rw [if_pos trivial, e2]
  simp only [Option.bind_some]
  rw [wrap_id (x := 60 - (t.length : Int)) (by omega) (by omega), wrap_id (by omega) (by omega)]
  exact e' k (by omega)
theorem drawTree_l0 (b : List Int) (hb : b.length ≤ 4096) : ∀ (m : Nat) (t : List S30) (x i h : Int), x ≤ m → m ≤ 20 → t.length + m ≤ 1000 → CurOk b i → ∃ t' j g, (∀ k, m + 62 < k → spec_l5Draw.l0 k t x b i h = some (t', j, g)) ∧ CurOk b j ∧ t.length ≤ t'.length ∧ t'.length ≤ t.length + m + 60 := by
 intro m
 induction m with
 | zero =>
  intro t x i h hx _ ht hc
  obtain ⟨t', j, g, e, q, hl, hl'⟩ := drawTree_end b hb t x i h (by omega) (by omega) hc
  exact ⟨t', j, g, fun k hk => e k (by omega), q, hl, by omega⟩
 | succ m ih =>
  intro t x i h hx hm ht hc
  by_cases h0 : x > 0
  ·obtain ⟨o, j, g, e, hj⟩ := once_ok b i h 12 hb hc
   cases o
   ·obtain ⟨x0, x1, x2, x3, x4, j2, g2, e2, hj2⟩ := drawNode_ok b j g (t.length : Int) hb hj
    obtain ⟨t', j', g', e', hc', hl, hl'⟩ := ih (t ++ [⟨x0, x1, x2, x3, x4⟩]) (x - 1) j2 g2 (by omega) (by omega) (by simp; omega) hj2
    refine ⟨t', j', g', fun k hk => ?_, hc', by simp at hl; omega, by simp at hl'; omega⟩
    obtain ⟨k, rfl⟩ : ∃ q, k = q + 1 := ⟨k - 1, by omega⟩
    rw [spec_l5Draw.l0, if_pos h0, e]
    simp only [Option.bind_some]
    rw [if_neg (by simp), e2]
    simp only [Option.bind_some]
    rw [if_pos (by omega), wrap_id (by omega) (by omega)]
    exact e' k (by omega)
   ·obtain ⟨t', j', g', e', hc', hl, hl'⟩ := ih (t ++ [⟨0, -1, 9223372036854775807, 0, 0⟩]) (x - 1) j g (by omega) (by omega) (by simp; omega) hj
    refine ⟨t', j', g', fun k hk => ?_, hc', by simp at hl; omega, by simp at hl'; omega⟩
    obtain ⟨k, rfl⟩ : ∃ q, k = q + 1 := ⟨k - 1, by omega⟩
    rw [spec_l5Draw.l0, if_pos h0, e]
    simp only [Option.bind_some]
    rw [if_pos trivial, if_pos (by omega), wrap_id (by omega) (by omega)]
    exact e' k (by omega)
  ·obtain ⟨t', j, g, e, q, hl, hl'⟩ := drawTree_end b hb t x i h h0 (by omega) hc
   exact ⟨t', j, g, fun k hk => e k (by omega), q, hl, by omega⟩
theorem drawTree_ok (b : List Int) (i h : Int) (hb : b.length ≤ 4096) (hc : CurOk b i) : ∃ t j g, (∀ k, 100 < k → spec_l5Draw.f k b i h = some (t, j, g)) ∧ CurOk b j ∧ 1 ≤ t.length ∧ t.length ≤ 1000 := by
 obtain ⟨r, j, g, e, r0, r1, _, hj⟩ := below_ok b i h 9 hb hc
 have := r1 (by omega)
 obtain ⟨t', j', g', e', hc', hl, hl'⟩ := drawTree_l0 b hb 10 [⟨0, -1, 9223372036854775807, 0, 0⟩] (1 + r) j g (by omega) (by omega) (by simp) hj
 refine ⟨t', j', g', fun k hk => ?_, hc', by simpa using hl, by simp at hl'; omega⟩
 unfold spec_l5Draw.f
 rw [e]
 simp only [Option.bind_some]
 rw [wrap_id (by omega) (by omega)]
 exact e' k (by omega)
theorem num_ok (b : List Int) (i h n : Int) (hb : b.length ≤ 4096) (hc : CurOk b i) : ∃ r j g, spec_l1Num.f b i h n = some (r, j, g) ∧ CurOk b j := by
 obtain ⟨o, j, g, e, hj⟩ := once_ok b i h 10 hb hc
 unfold spec_l1Num.f
 rw [e]
 simp only [Option.bind_some]
 cases o
 ·obtain ⟨o, j2, g2, e2, hj2⟩ := once_ok b j g 2 hb hj
  rw [if_neg (by simp), e2]
  simp only [Option.bind_some, min_ok]
  cases o
  ·obtain ⟨r, j3, g3, e3, _, _, _, hj3⟩ := below_ok b j2 g2 (wrap64 (n + 1)) hb hj2
   rw [if_neg (by simp), e3]
   exact ⟨_, _, _, rfl, hj3⟩
  ·obtain ⟨r, j3, g3, e3, _, _, _, hj3⟩ := below_ok b j2 g2 (wrap64 ((if n < 4 then n else 4) + 1)) hb hj2
   rw [if_pos rfl, e3]
   exact ⟨_, _, _, rfl, hj3⟩
 ·obtain ⟨r, j2, g2, e2, _, _, hj2⟩ := odd_ok b j g hb hj
  obtain ⟨q, j3, g3, e3, q0, q1, _, hj3⟩ := below_ok b j2 g2 4 hb hj2
  have := q1 (by omega)
  rw [if_pos rfl, e2]
  simp only [Option.bind_some]
  rw [e3]
  simp only [Option.bind_some]
  rw [if_pos q0, if_pos (by simp; omega)]
  exact ⟨_, _, _, rfl, hj3⟩
theorem bend_ok (b : List Int) (i h : Int) (a0 a1 a2 a3 a4 : Int) (hb : b.length ≤ 4096) (hc : CurOk b i) : ∃ x0 x1 x2 x3 x4 j g, spec_l5BendNode.f b i h a0 a1 a2 a3 a4 = some (x0, x1, x2, x3, x4, j, g) ∧ CurOk b j := by
 obtain ⟨q, j, g, e, _, _, _, hj⟩ := below_ok b i h 5 hb hc
 unfold spec_l5BendNode.f
 rw [e]
 simp only [Option.bind_some]
 by_cases q0 : q = 0
 ·obtain ⟨r, j2, g2, e2, _, _, hj2⟩ := from_ok b j g (-1) 5 hb hj (by omega) (by omega) (by omega)
  rw [if_pos q0, e2]
  exact ⟨_, _, _, _, _, _, _, rfl, hj2⟩
 rw [if_neg q0]
 by_cases q1 : q = 1
 ·obtain ⟨r, j2, g2, e2, _, _, hj2⟩ := from_ok b j g (-2) 9 hb hj (by omega) (by omega) (by omega)
  rw [if_pos q1, e2]
  exact ⟨_, _, _, _, _, _, _, rfl, hj2⟩
 rw [if_neg q1]
 by_cases q2 : q = 2
 ·obtain ⟨r, j2, g2, e2, _, _, _, hj2⟩ := below_ok b j g 9 hb hj
  rw [if_pos q2, e2]
  exact ⟨_, _, _, _, _, _, _, rfl, hj2⟩
 rw [if_neg q2]
 by_cases q3 : q = 3
 ·obtain ⟨r, j2, g2, e2, _, _, hj2⟩ := from_ok b j g 0 10 hb hj (by omega) (by omega) (by omega)
  rw [if_pos q3, e2]
  exact ⟨_, _, _, _, _, _, _, rfl, hj2⟩
 rw [if_neg q3]
 by_cases q4 : q = 4
 ·obtain ⟨r, j2, g2, e2, hj2⟩ := num_ok b j g 999 hb hj
  rw [if_pos q4, e2]
  exact ⟨_, _, _, _, _, _, _, rfl, hj2⟩
 rw [if_neg q4]
 exact ⟨_, _, _, _, _, _, _, rfl, hj⟩
theorem drawAny_ok (b : List Int) (i h : Int) (hb : b.length ≤ 4096) (hc : CurOk b i) : ∃ t j g, (∀ k, 100 < k → spec_l5DrawAny.f k b i h = some (t, j, g)) ∧ CurOk b j ∧ 1 ≤ t.length ∧ t.length ≤ 1000 := by
 obtain ⟨t, j, g, e, hj, hl, hl'⟩ := drawTree_ok b i h hb hc
 obtain ⟨o, j2, g2, e2, hj2⟩ := once_ok b j g 8 hb hj
 cases o
 ·refine ⟨t, j2, g2, fun k hk => ?_, hj2, hl, hl'⟩
  unfold spec_l5DrawAny.f
  rw [e k hk]
  simp only [Option.bind_some]
  rw [e2]
  rfl
 ·obtain ⟨r, j3, g3, e3, r0, r1, _, hj3⟩ := below_ok b j2 g2 (t.length : Int) hb hj2
  have := r1 (by omega)
  obtain ⟨x0, x1, x2, x3, x4, j4, g4, e4, hj4⟩ := bend_ok b j3 g3 (rd_T30 t r).f0 (rd_T30 t r).f1 (rd_T30 t r).f2 (rd_T30 t r).f3 (rd_T30 t r).f4 hb hj3
  refine ⟨t.set r.toNat ⟨x0, x1, x2, x3, x4⟩, j4, g4, fun k hk => ?_, hj4, by simpa using hl, by simpa using hl'⟩
  unfold spec_l5DrawAny.f
  rw [e k hk]
  simp only [Option.bind_some]
  rw [e2]
  simp only [Option.bind_some]
  rw [if_pos trivial, e3]
  simp only [Option.bind_some]
  rw [if_pos r0, if_pos this, e4]
  rfl
theorem fIx_snoc (ch : List Int) (e : S58) : ∀ (l : List S58) (j : Nat), fIx ch (l ++ [e]) j = (match fIx ch l j with | some q => some q | none => if ch.contains e.f0 = true then some (j + l.length) else none) := by
 intro l
 induction l with
 | nil =>
  intro j
  simp [fIx]
 | cons x xs ih =>
  intro j
  rw [List.cons_append]
  unfold fIx
  by_cases h : ch.contains x.f0 = true
  ·rw [if_pos h, if_pos h]
  ·rw [if_neg h, if_neg h, ih (j + 1)]
   rw [List.length_cons, show j + 1 + xs.length = j + (xs.length + 1) by omega]
theorem firstB_snoc (t : List S30) (l : List S58) (e : S58) (n : Int) : firstB t (l ++ [e]) n = (match firstB t l n with | some q => some q | none => if (chainF t 61 n).contains e.f0 = true then some l.length else none) := by
 unfold firstB
 rw [fIx_snoc, Nat.zero_add]
theorem ixE_snoc_lt (l : List S58) (e : S58) (q : Nat) (h : q < l.length) : ixE (l ++ [e]) (some q) = ixE l (some q) := by
 unfold ixE
 simp only
 rw [rdE_snoc_lt l e q (by omega) (by omega)]
theorem ixE_snoc_eq (l : List S58) (e : S58) : ixE (l ++ [e]) (some l.length) = (e.f0, e.f1, e.f2, e.f3, true) := by
 unfold ixE
 simp only
 rw [rdE_snoc_eq]
theorem hasL_loop (l : List Int) (x : Int) (hl : l.length ≤ 1000) : ∀ (m j k : Nat), j + m = l.length → m < k → laws_has.l0 k l x (j : Int) = some ((l.drop j).contains x) := by
 intro m
 induction m with
 | zero =>
  intro j k hj hk
  obtain ⟨k, rfl⟩ : ∃ q, k = q + 1 := ⟨k - 1, by omega⟩
  rw [laws_has.l0, if_neg (by omega), List.drop_of_length_le (by omega)]
  rfl
 | succ m ih =>
  intro j k hj hk
  obtain ⟨k, rfl⟩ : ∃ q, k = q + 1 := ⟨k - 1, by omega⟩
  have hlt : j < l.length := by omega
  have e : rd l (j : Int) = l[j] := by unfold rd; rw [Int.toNat_natCast, getD_lt _ hlt]
  rw [laws_has.l0, if_pos (by omega), if_pos (by omega), e, wrap_id (by omega) (by omega), show ((j : Int) + 1) = ((j + 1 : Nat) : Int) by omega, ih (j + 1) k (by omega) (by omega), List.drop_eq_getElem_cons hlt, List.contains_cons]
  by_cases h : l[j] = x
  ·rw [if_pos h]; simp [h]
  ·rw [if_neg h]
   have h2 : ¬ x = l[j] := fun e => h e.symm
   simp [h2]
theorem hasL (l : List Int) (x : Int) (hl : l.length ≤ 1000) (k : Nat) (hk : l.length < k) : laws_has.f k l x = some (l.contains x) := by
 unfold laws_has.f
 exact hasL_loop l x hl l.length 0 k (by omega) hk
theorem doneF_has (t : List S30) (l : List S58) (n : Int) : ∀ (m : Nat) (i : Int), i ≤ n → n < i + m → (doneF t l m i).contains n = (firstB t l n).isSome := by
 intro m
 induction m with
 | zero => intro i h0 h1; omega
 | succ m ih =>
  intro i h0 h1
  have far : ∀ (m : Nat) (i : Int), n < i → (doneF t l m i).contains n = false := by
   intro m
   induction m with
   | zero => intro i _; rfl
   | succ m ih2 =>
    intro i h
    unfold doneF
    have h2 := ih2 (i + 1) (by omega)
    split
    ·rw [List.contains_cons, h2]
     have : ¬ n = i := by omega
     simp [this]
    ·exact h2
  unfold doneF
  by_cases h : i = n
  ·subst h
   have h2 := far m (i + 1) (by omega)
   cases hf : (firstB t l i).isSome with
   | true => rw [if_pos rfl, List.contains_cons]; simp
   | false => rw [if_neg (by simp)]; exact h2
  ·have h2 := ih (i + 1) (by omega) (by omega)
   have h3 : ¬ n = i := fun e => h e.symm
   split
   ·rw [List.contains_cons, h2]; simp [h3]
   ·exact h2
theorem like_Event (l : List S58) (hn : l.length ≤ 4611686018427387904) : ∃ K, ∀ k, K ≤ k → laws_likeEvents.f k l l = some true := by
 obtain ⟨K, e⟩ := ev_same (fun k a b i => laws_likeEvents.l0 k a b i) l (fun k i h0 h1 => by
  show laws_likeEvents.l0 (k + 1) l l i = laws_likeEvents.l0 k l l (wrap64 (i + 1))
  generalize hw : laws_likeEvents.l0 k l l (wrap64 (i + 1)) = R
  rw [laws_likeEvents.l0, hw]
  simp [h0, h1]) (fun k i h => by
  show laws_likeEvents.l0 (k + 1) l l i = _
  rw [laws_likeEvents.l0, if_neg h]) hn
 refine ⟨K, fun k hk => ?_⟩
 unfold laws_likeEvents.f
 rw [if_pos rfl]
 exact e k hk
theorem chainF_head (t : List S30) (n : Int) : (chainF t 61 n).contains n = true := by
 unfold chainF
 rw [List.contains_cons]
 simp
theorem twice_no (t : List S30) (l : List S58) (e : S58) (h : eventsB t (l ++ [e]) = true) : (letgoB t (l ++ [e]) e).2 = false := by
 unfold letgoB
 rw [if_pos h]
 have hf : fitB t e (l ++ [e]) = false := by
  unfold fitB
  rw [firstB_snoc]
  rw [chainF_head, if_pos rfl]
  cases firstB t l e.f0 <;> simp
 rw [hf]
 rfl
/-- What the law asks at one node: the first event of the list, of the longer list, whether the chain is hit. -/
theorem node_facts (t : List S30) (l : List S58) (e : S58) (n : Int) (h : eventsB t l = true) (hx : eventsB t (l ++ [e]) = true) (h0 : 0 ≤ n) (h1 : n < (t.length : Int)) :
  (foB t l n).2.2.2.2 = (firstB t l n).isSome ∧ (foB t (l ++ [e]) n).2.2.2.2 = (firstB t (l ++ [e]) n).isSome ∧
  ((firstB t l n).isSome = true → (firstB t (l ++ [e]) n).isSome = true ∧ foB t (l ++ [e]) n = foB t l n) ∧
  ((firstB t l n).isSome = false → (firstB t (l ++ [e]) n).isSome = (chainF t 61 n).contains e.f0 ∧ ((chainF t 61 n).contains e.f0 = true → foB t (l ++ [e]) n = (e.f0, e.f1, e.f2, e.f3, true))) := by
 have ht : treeB t = true := by
  unfold eventsB at h
  rw [Bool.and_eq_true] at h
  exact h.1
 have hb : hasB t n = true := hasB_iff.2 ⟨ht, h0, h1⟩
 have e1 : foB t l n = ixE l (firstB t l n) := by unfold foB; rw [h, hb]; rfl
 have e2 : foB t (l ++ [e]) n = ixE (l ++ [e]) (firstB t (l ++ [e]) n) := by unfold foB; rw [hx, hb]; rfl
 rw [e1, e2, ixE_flag, ixE_flag, firstB_snoc]
 cases hf : firstB t l n with
 | some q =>
  have hq := (fIx_lt _ _ _ _ (show fIx (chainF t 61 n) l 0 = some q from hf)).2
  refine ⟨rfl, rfl, fun _ => ⟨rfl, ixE_snoc_lt l e q (by omega)⟩, ?_⟩
  intro h
  cases h
 | none =>
  refine ⟨rfl, rfl, ?_, ?_⟩
  ·intro h
   cases h
  ·intro _
   cases hc : (chainF t 61 n).contains e.f0 with
   | true => exact ⟨rfl, fun _ => ixE_snoc_eq l e⟩
   | false =>
    refine ⟨rfl, ?_⟩
    intro h
    cases h
theorem letgo_loop (t : List S30) (l : List S58) (e : S58) (h : eventsB t l = true) (hx : eventsB t (l ++ [e]) = true) (K : Nat)
  (hF : ∀ k, K ≤ k → ∀ n, impl_FirstOf.f k t l n = some (foB t l n)) (hG : ∀ k, K ≤ k → ∀ n, impl_FirstOf.f k t (l ++ [e]) n = some (foB t (l ++ [e]) n))
  (hC : ∀ k, K ≤ k → ∀ n, spec_ChainOf.f k t n = some (if hasB t n = true then chainF t 61 n else [])) (hD : ∀ k, K ≤ k → impl_DoneBy.f k t (l ++ [e]) = some (doneB t (l ++ [e])))
  (hE : ∀ k, K ≤ k → ∀ n, impl_ErrOf.f k t (l ++ [e]) n = some (foB t (l ++ [e]) n).2.1) (hU : ∀ k, K ≤ k → ∀ n, impl_CauseOf.f k t (l ++ [e]) n = some (foB t (l ++ [e]) n).2.2.1)
  (hL : ∀ k, K ≤ k → impl_LetGo.f k t (l ++ [e]) e.f0 e.f1 e.f2 e.f3 = some (letgoB t (l ++ [e]) e)) (hO : ∀ k, K ≤ k → impl_EventsOk.f k t (l ++ [e]) = some true) (hK : 100 ≤ K) :
  ∀ (m j k : Nat), j + m = t.length → K + 2 * m + 1 < k → laws_FnLetGo.l0 k t l (l ++ [e]) (j : Int) e.f0 e.f1 e.f2 e.f3 = some true := by
 have ht : treeB t = true := by
  unfold eventsB at h
  rw [Bool.and_eq_true] at h
  exact h.1
 have hlen := treeB_len ht
 intro m
 induction m with
 | zero =>
  intro j k hj hk
  obtain ⟨k, rfl⟩ : ∃ q, k = q + 1 := ⟨k - 1, by omega⟩
  rw [laws_FnLetGo.l0, if_neg (by omega), hL k (by omega), Option.bind_some, hO k (by omega), Option.bind_some, if_pos rfl, twice_no t l e hx]
  rfl
 | succ m ih =>
  intro j k hj hk
  obtain ⟨k, rfl⟩ : ∃ q, k = q + 2 := ⟨k - 2, by omega⟩
  have hh : hasB t (j : Int) = true := hasB_iff.2 ⟨ht, by omega, by omega⟩
  obtain ⟨f1, f2, f3, f4⟩ := node_facts t l e (j : Int) h hx (by omega) (by omega)
  have hcl := chainF_length t 61 (j : Int)
  have hdl := doneB_length t (l ++ [e])
  have hdb : (doneB t (l ++ [e])).contains (j : Int) = (firstB t (l ++ [e]) (j : Int)).isSome := by
   unfold doneB
   rw [if_pos hx]
   exact doneF_has t (l ++ [e]) (j : Int) t.length 0 (by omega) (by omega)
  have nxt : wrap64 ((j : Int) + 1) = ((j + 1 : Nat) : Int) := by rw [wrap_id (by omega) (by omega)]; omega
  have go : laws_FnLetGo.j1 (k + 1) t l (l ++ [e]) (j : Int) (foB t (l ++ [e]) (j : Int)).2.2.2.2 false e.f0 e.f1 e.f2 e.f3 (foB t (l ++ [e]) (j : Int)).1 (foB t (l ++ [e]) (j : Int)).2.1 (foB t (l ++ [e]) (j : Int)).2.2.1 (foB t (l ++ [e]) (j : Int)).2.2.2.1 = some true := by
   rw [laws_FnLetGo.j1, if_neg (by simp), hD k (by omega), Option.bind_some, hasL _ _ (by omega) k (by omega), Option.bind_some, hdb, f2, if_neg (by simp), hE k (by omega), Option.bind_some, if_pos rfl, hU k (by omega), Option.bind_some, if_pos rfl, nxt]
   exact ih (j + 1) k (by omega) (by omega)
  rw [laws_FnLetGo.l0, if_pos (by omega), hF _ (by omega), Option.bind_some, hG _ (by omega), Option.bind_some, hC _ (by omega), Option.bind_some, if_pos hh, hasL _ _ (by omega) _ (by omega), Option.bind_some]
  cases hs : (firstB t l (j : Int)).isSome with
  | true =>
   obtain ⟨g1, g2⟩ := f3 hs
   rw [if_pos (by rw [f1]; exact hs), if_neg (by rw [f2, g1]; simp), if_neg (by rw [g2]; simp)]
   exact go
  | false =>
   obtain ⟨g1, g2⟩ := f4 hs
   rw [if_neg (by rw [f1, hs]; simp), if_neg (by rw [f2, g1]; simp)]
   cases hc : (chainF t 61 (j : Int)).contains e.f0 with
   | true =>
    have g3 := g2 hc
    rw [if_pos rfl]
    have : (!((foB t (l ++ [e]) (j : Int)).1 == e.f0) || (!((foB t (l ++ [e]) (j : Int)).2.1 == e.f1) || (!((foB t (l ++ [e]) (j : Int)).2.2.1 == e.f2) || (!((foB t (l ++ [e]) (j : Int)).2.2.2.1 == e.f3))))) = false := by
     rw [g3]
     simp
    rw [this]
    exact go
   | false =>
    rw [if_neg (by simp)]
    exact go
theorem max_ok (a c : Int) : spec_l1Max.f a c = some (if a > c then a else c) := by
 unfold spec_l1Max.f
 split <;> rfl
theorem drawEvent_ok (b : List Int) (i h : Int) (t : List S30) (time : Int) (hb : b.length ≤ 4096) (hc : CurOk b i) (ht : 1 ≤ t.length) (ht2 : t.length ≤ 1000) : ∃ x0 x1 x2 x3 j g, (∀ k, 1 ≤ k → spec_l6DrawEvent.f k b i h t time = some (x0, x1, x2, x3, j, g)) ∧ CurOk b j := by
 obtain ⟨r, j, g, e, r0, r1, _, hj⟩ := below_ok b i h (t.length : Int) hb hc
 have r2 := r1 (by omega)
 obtain ⟨u, j2, g2, e2, _, _, _, hj2⟩ := below_ok b j g 5 hb hj
 have tail : ∀ (y : Bool) (j3 g3 : Int), CurOk b j3 → ∃ x0 x1 x2 x3 j g, (∀ k, 1 ≤ k → spec_l6DrawEvent.j0 k t time r y b j3 g3 r 1 u time = some (x0, x1, x2, x3, j, g)) ∧ CurOk b j := by
  intro y j3 g3 hj3
  cases y
  ·refine ⟨r, 1, u, time, j3, g3, fun k hk => ?_, hj3⟩
   obtain ⟨k, rfl⟩ : ∃ q, k = q + 1 := ⟨k - 1, by omega⟩
   rw [spec_l6DrawEvent.j0, if_neg (by simp)]
  ·by_cases hd : (rd_T30 t r).f2 = 9223372036854775807
   ·refine ⟨r, 2, 0, time, j3, g3, fun k hk => ?_, hj3⟩
    obtain ⟨k, rfl⟩ : ∃ q, k = q + 1 := ⟨k - 1, by omega⟩
    rw [spec_l6DrawEvent.j0, if_pos rfl, if_pos r0, if_pos r2, if_pos hd]
   ·obtain ⟨o, j4, g4, e4, hj4⟩ := once_ok b j3 g3 4 hb hj3
    cases o
    ·refine ⟨r, 2, 0, (if time > (rd_T30 t r).f2 then time else (rd_T30 t r).f2), j4, g4, fun k hk => ?_, hj4⟩
     obtain ⟨k, rfl⟩ : ∃ q, k = q + 1 := ⟨k - 1, by omega⟩
     rw [spec_l6DrawEvent.j0, if_pos rfl, if_pos r0, if_pos r2, if_neg hd, e4]
     simp only [Option.bind_some, max_ok]
     rw [if_neg (by simp)]
    ·refine ⟨r, 2, 0, time, j4, g4, fun k hk => ?_, hj4⟩
     obtain ⟨k, rfl⟩ : ∃ q, k = q + 1 := ⟨k - 1, by omega⟩
     rw [spec_l6DrawEvent.j0, if_pos rfl, if_pos r0, if_pos r2, if_neg hd, e4]
     simp only [Option.bind_some]
     rw [if_pos trivial]
 by_cases hk2 : (rd_T30 t r).f0 = 2
 ·obtain ⟨o, j3, g3, e3, hj3⟩ := once_ok b j2 g2 2 hb hj2
  obtain ⟨x0, x1, x2, x3, j4, g4, e4, hj4⟩ := tail o j3 g3 hj3
  refine ⟨x0, x1, x2, x3, j4, g4, fun k hk => ?_, hj4⟩
  unfold spec_l6DrawEvent.f
  rw [e, Option.bind_some]
  simp only
  rw [e2, Option.bind_some, if_pos r0, if_pos r2, if_pos hk2]
  simp only
  rw [e3, Option.bind_some]
  exact e4 k hk
 ·obtain ⟨x0, x1, x2, x3, j4, g4, e4, hj4⟩ := tail false j2 g2 hj2
  refine ⟨x0, x1, x2, x3, j4, g4, fun k hk => ?_, hj4⟩
  unfold spec_l6DrawEvent.f
  rw [e, Option.bind_some]
  simp only
  rw [e2, Option.bind_some, if_pos r0, if_pos r2, if_neg hk2]
  exact e4 k hk
theorem drawList_l0 (b : List Int) (hb : b.length ≤ 4096) (t : List S30) (ht : 1 ≤ t.length) (ht2 : t.length ≤ 1000) : ∀ (m : Nat) (l : List S58) (time x i h : Int), x ≤ m → m ≤ 20 → l.length + m ≤ 1000 → CurOk b i → ∃ l' j g K, (∀ k, K ≤ k → spec_l6DrawList.l0 k t l time x b i h = some (l', j, g)) ∧ CurOk b j ∧ l'.length ≤ l.length + m := by
 intro m
 induction m with
 | zero =>
  intro l time x i h hx _ hl hc
  refine ⟨l, i, h, 1, fun k hk => ?_, hc, by omega⟩
  obtain ⟨k, rfl⟩ : ∃ q, k = q + 1 := ⟨k - 1, by omega⟩
  rw [spec_l6DrawList.l0, if_neg (by omega)]
 | succ m ih =>
  intro l time x i h hx hm hl hc
  by_cases h0 : x > 0
  ·obtain ⟨x0, x1, x2, x3, j, g, e, hj⟩ := drawEvent_ok b i h t time hb hc ht ht2
   obtain ⟨K, e2⟩ := spec_letgo t l ⟨x0, x1, x2, x3⟩ (by omega) (by omega)
   have hll := letgoB_length t l ⟨x0, x1, x2, x3⟩
   cases hg : (letgoB t l ⟨x0, x1, x2, x3⟩).2
   ·obtain ⟨l', j', g', K', e', hc', hl'⟩ := ih l time (x - 1) j g (by omega) (by omega) (by omega) hj
    refine ⟨l', j', g', K + K' + 2, fun k hk => ?_, hc', by omega⟩
    obtain ⟨k, rfl⟩ : ∃ q, k = q + 1 := ⟨k - 1, by omega⟩
    rw [spec_l6DrawList.l0, if_pos h0, e k (by omega), Option.bind_some]
    simp only
    have e3 := e2 k (by omega)
    simp only at e3
    rw [e3, Option.bind_some, hg, if_neg (by simp), wrap_id (x := x - 1) (by omega) (by omega)]
    exact e' k (by omega)
   ·obtain ⟨r, j3, g3, e3, _, _, _, hj3⟩ := below_ok b j g 3 hb hj
    obtain ⟨l', j', g', K', e', hc', hl'⟩ := ih (letgoB t l ⟨x0, x1, x2, x3⟩).1 (wrap64 ((if time > (if x3 < 40 then x3 else 40) then time else (if x3 < 40 then x3 else 40)) + r)) (x - 1) j3 g3 (by omega) (by omega) (by omega) hj3
    refine ⟨l', j', g', K + K' + 2, fun k hk => ?_, hc', by omega⟩
    obtain ⟨k, rfl⟩ : ∃ q, k = q + 1 := ⟨k - 1, by omega⟩
    rw [spec_l6DrawList.l0, if_pos h0, e k (by omega), Option.bind_some]
    simp only
    have e4 := e2 k (by omega)
    simp only at e4
    rw [e4, Option.bind_some, hg, if_pos rfl, min_ok, Option.bind_some, max_ok, Option.bind_some, e3, Option.bind_some, wrap_id (x := x - 1) (by omega) (by omega)]
    exact e' k (by omega)
  ·refine ⟨l, i, h, 1, fun k hk => ?_, hc, by omega⟩
   obtain ⟨k, rfl⟩ : ∃ q, k = q + 1 := ⟨k - 1, by omega⟩
   rw [spec_l6DrawList.l0, if_neg h0]
theorem drawList_ok (b : List Int) (i h : Int) (hb : b.length ≤ 4096) (hc : CurOk b i) (t : List S30) (ht : 1 ≤ t.length) (ht2 : t.length ≤ 1000) : ∃ l j g K, (∀ k, K ≤ k → spec_l6DrawList.f k b i h t = some (l, j, g)) ∧ CurOk b j ∧ l.length ≤ 7 := by
 obtain ⟨r, j, g, e, _, _, _, hj⟩ := below_ok b i h 4 hb hc
 obtain ⟨q, j2, g2, e2, q0, q1, _, hj2⟩ := below_ok b j g 7 hb hj
 have q2 := q1 (by omega)
 obtain ⟨l', j', g', K, e', hc', hl'⟩ := drawList_l0 b hb t ht ht2 7 [] r q j2 g2 (by omega) (by omega) (by simp) hj2
 refine ⟨l', j', g', K, fun k hk => ?_, hc', by simpa using hl'⟩
 unfold spec_l6DrawList.f
 rw [e, Option.bind_some]
 simp only
 rw [e2, Option.bind_some]
 exact e' k hk
theorem drawEvents_ok (b : List Int) (i h : Int) (hb : b.length ≤ 4096) (hc : CurOk b i) : ∃ t l j g K, (∀ k, K ≤ k → spec_l6DrawAny.f k b i h = some (t, l, j, g)) ∧ CurOk b j ∧ 1 ≤ t.length ∧ t.length ≤ 1000 ∧ l.length ≤ 8 := by
 obtain ⟨t, j, g, e, hj, hl, hl2⟩ := drawAny_ok b i h hb hc
 obtain ⟨K, e2⟩ := spec_tree t (by omega)
 have tail : ∀ (l : List S58) (j2 g2 : Int), CurOk b j2 → l.length ≤ 7 → ∃ l' j' g', (∀ k, 3 ≤ k → spec_l6DrawAny.j0 k t l b j2 g2 = some (t, l', j', g')) ∧ CurOk b j' ∧ l'.length ≤ 8 := by
  intro l j2 g2 hj2 hll
  obtain ⟨o, j3, g3, e3, hj3⟩ := once_ok b j2 g2 6 hb hj2
  have last : ∀ y : Bool, (y = true → 0 < l.length) → ∃ l' j' g', (∀ k, 2 ≤ k → spec_l6DrawAny.j1 k t l y b j3 g3 = some (t, l', j', g')) ∧ CurOk b j' ∧ l'.length ≤ 8 := by
   intro y hy
   cases y
   ·refine ⟨l, j3, g3, fun k hk => ?_, hj3, by omega⟩
    obtain ⟨k, rfl⟩ : ∃ q, k = q + 1 := ⟨k - 1, by omega⟩
    rw [spec_l6DrawAny.j1, if_neg (by simp)]
   ·have hl0 := hy rfl
    obtain ⟨r, j4, g4, e4, r0, r1, _, hj4⟩ := below_ok b j3 g3 (l.length : Int) hb hj3
    have r2 := r1 (by omega)
    obtain ⟨q, j5, g5, e5, _, _, _, hj5⟩ := below_ok b j4 g4 5 hb hj4
    have hs : ∀ v : S58, (l.set r.toNat v).length ≤ 8 := fun v => by rw [List.length_set]; omega
    have head : ∀ k, 1 ≤ k → spec_l6DrawAny.j1 k t l true b j3 g3 = spec_l6DrawAny.j1 1 t l true b j3 g3 := by
     intro k hk
     obtain ⟨k, rfl⟩ : ∃ q, k = q + 1 := ⟨k - 1, by omega⟩
     rw [spec_l6DrawAny.j1, spec_l6DrawAny.j1]
    have one : ∃ l' j' g', spec_l6DrawAny.j1 1 t l true b j3 g3 = some (t, l', j', g') ∧ CurOk b j' ∧ l'.length ≤ 8 := by
     rw [spec_l6DrawAny.j1, if_pos rfl, e4, Option.bind_some]
     simp only
     rw [e5, Option.bind_some]
     simp only
     by_cases q0 : q = 0
     ·obtain ⟨z, j6, g6, e6, _, _, hj6⟩ := from_ok b j5 g5 (-1) (t.length : Int) hb hj5 (by omega) (by omega) (by omega)
      rw [if_pos q0, e6, Option.bind_some, if_pos r0, if_pos r2]
      exact ⟨_, _, _, rfl, hj6, hs _⟩
     rw [if_neg q0]
     by_cases q1 : q = 1
     ·obtain ⟨z, j6, g6, e6, _, _, hj6⟩ := from_ok b j5 g5 (-1) 3 hb hj5 (by omega) (by omega) (by omega)
      rw [if_pos q1, e6, Option.bind_some, if_pos r0, if_pos r2]
      exact ⟨_, _, _, rfl, hj6, hs _⟩
     rw [if_neg q1]
     by_cases q2 : q = 2
     ·obtain ⟨z, j6, g6, e6, hj6⟩ := num_ok b j5 g5 999 hb hj5
      rw [if_pos q2, e6, Option.bind_some, if_pos r0, if_pos r2]
      exact ⟨_, _, _, rfl, hj6, hs _⟩
     rw [if_neg q2]
     by_cases q3 : q = 3
     ·obtain ⟨z, j6, g6, e6, _, _, _, hj6⟩ := below_ok b j5 g5 9 hb hj5
      rw [if_pos q3, e6, Option.bind_some, if_pos r0, if_pos r2]
      exact ⟨_, _, _, rfl, hj6, hs _⟩
     rw [if_neg q3]
     by_cases q4 : q = 4
     ·rw [if_pos q4, if_pos r0, if_pos r2, if_pos (by omega)]
      exact ⟨_, _, _, rfl, hj5, by rw [List.length_append]; simp; omega⟩
     rw [if_neg q4]
     exact ⟨_, _, _, rfl, hj5, by omega⟩
    obtain ⟨l', j', g', e', a1, a2⟩ := one
    exact ⟨l', j', g', fun k hk => by rw [head k (by omega)]; exact e', a1, a2⟩
  cases o
  ·obtain ⟨l', j', g', e', a1, a2⟩ := last false (fun h => by cases h)
   refine ⟨l', j', g', fun k hk => ?_, a1, a2⟩
   obtain ⟨k, rfl⟩ : ∃ q, k = q + 1 := ⟨k - 1, by omega⟩
   rw [spec_l6DrawAny.j0, e3, Option.bind_some]
   simp only
   rw [if_neg (by simp)]
   exact e' k (by omega)
  ·obtain ⟨l', j', g', e', a1, a2⟩ := last (decide ((l.length : Int) > 0)) (fun h => by have := of_decide_eq_true h; omega)
   refine ⟨l', j', g', fun k hk => ?_, a1, a2⟩
   obtain ⟨k, rfl⟩ : ∃ q, k = q + 1 := ⟨k - 1, by omega⟩
   rw [spec_l6DrawAny.j0, e3, Option.bind_some]
   simp only
   rw [if_pos trivial]
   exact e' k (by omega)
 cases htb : treeB t with
 | true =>
  obtain ⟨l, j2, g2, K2, e3, hj2, hll⟩ := drawList_ok b j g hb hj t hl hl2
  obtain ⟨l', j', g', e', a1, a2⟩ := tail l j2 g2 hj2 hll
  refine ⟨t, l', j', g', K + K2 + 101, fun k hk => ?_, a1, hl, hl2, a2⟩
  unfold spec_l6DrawAny.f
  rw [e k (by omega), Option.bind_some]
  simp only
  rw [e2 k (by omega), Option.bind_some, htb, if_pos rfl, e3 k (by omega), Option.bind_some]
  exact e' k (by omega)
 | false =>
  obtain ⟨l', j', g', e', a1, a2⟩ := tail [] j g hj (by simp)
  refine ⟨t, l', j', g', K + 101, fun k hk => ?_, a1, hl, hl2, a2⟩
  unfold spec_l6DrawAny.f
  rw [e k (by omega), Option.bind_some]
  simp only
  rw [e2 k (by omega), Option.bind_some, htb, if_neg (by simp)]
  exact e' k (by omega)
theorem drawLetGo_ok (b : List Int) (hb : b.length ≤ 4096) : ∃ t l, ∃ (e : S58), ∃ K, (∀ k, K ≤ k → spec_DrawLetGo.f k b = some (t, l, e.f0, e.f1, e.f2, e.f3)) ∧ t.length ≤ 1000 ∧ l.length ≤ 8 := by
 obtain ⟨g, e⟩ := new_ok b hb
 obtain ⟨t, l, j, g2, K, e2, hj, h1, h2, h3⟩ := drawEvents_ok b 0 g hb (curOk0 b)
 have tail : ∀ time : Int, ∃ (e : S58), ∀ k, 2 ≤ k → spec_DrawLetGo.j0 k t l time b j g2 = some (t, l, e.f0, e.f1, e.f2, e.f3) := by
  intro time
  obtain ⟨x0, x1, x2, x3, j3, g3, e3, hj3⟩ := drawEvent_ok b j g2 t time hb hj h1 h2
  obtain ⟨o, j4, g4, e4, hj4⟩ := once_ok b j3 g3 8 hb hj3
  cases o
  ·refine ⟨⟨x0, x1, x2, x3⟩, fun k hk => ?_⟩
   obtain ⟨k, rfl⟩ : ∃ q, k = q + 1 := ⟨k - 1, by omega⟩
   rw [spec_DrawLetGo.j0, e3 k (by omega), Option.bind_some]
   simp only
   rw [e4, Option.bind_some]
   rfl
  ·obtain ⟨z, j6, g6, e6, _, _, hj6⟩ := from_ok b j4 g4 (-1) (t.length : Int) hb hj4 (by omega) (by omega) (by omega)
   refine ⟨⟨z, x1, x2, x3⟩, fun k hk => ?_⟩
   obtain ⟨k, rfl⟩ : ∃ q, k = q + 1 := ⟨k - 1, by omega⟩
   rw [spec_DrawLetGo.j0, e3 k (by omega), Option.bind_some]
   simp only
   rw [e4, Option.bind_some]
   simp only
   rw [if_pos trivial, e6]
   rfl
 by_cases hp : (l.length : Int) > 0
 ·obtain ⟨ev, e5⟩ := tail (rd_T58 l (wrap64 ((l.length : Int) - 1))).f3
  refine ⟨t, l, ev, K + 4100, fun k hk => ?_, h2, h3⟩
  unfold spec_DrawLetGo.f
  rw [e k (by omega), Option.bind_some]
  simp only
  rw [e2 k (by omega), Option.bind_some]
  simp only
  rw [if_pos hp, if_pos (by rw [wrap_id (by omega) (by omega)]; omega), if_pos (by rw [wrap_id (by omega) (by omega)]; omega)]
  exact e5 k (by omega)
 ·obtain ⟨ev, e5⟩ := tail 0
  refine ⟨t, l, ev, K + 4100, fun k hk => ?_, h2, h3⟩
  unfold spec_DrawLetGo.f
  rw [e k (by omega), Option.bind_some]
  simp only
  rw [e2 k (by omega), Option.bind_some]
  simp only
  rw [if_neg hp]
  exact e5 k (by omega)
theorem FnLetGo : ∀ (l0 : List Int), l0.length ≤ 9223372036854775807 → (∀ x_ ∈ l0, wfu8 x_) → ∃ k, laws_FnLetGo.f k l0 = some true := by
 intro b _ _
 by_cases hb : b.length ≤ 4096
 ·obtain ⟨t, l, e, Kd, hd, ht, hl⟩ := drawLetGo_ok b hb
  have hbig : laws_big.f b = some false := by
   unfold laws_big.f
   rw [decide_eq_false (by omega)]
  obtain ⟨K, q⟩ := both (impl_letgo t l e (by omega) (by omega)) (both (spec_letgo t l e (by omega) (by omega)) (both (spec_events t l (by omega) (by omega)) (like_Event l (by omega))))
  cases he : eventsB t l with
  | false =>
   have hg : letgoB t l e = ([], false) := by unfold letgoB; rw [he]; rfl
   refine ⟨Kd + K, ?_⟩
   obtain ⟨p1, p2, p3, _⟩ := q (Kd + K) (by omega)
   unfold laws_FnLetGo.f
   rw [hbig, Option.bind_some, if_neg (by simp), hd _ (by omega), Option.bind_some]
   simp only
   rw [p1, Option.bind_some, p2, Option.bind_some, hg, if_neg (by simp), if_neg (by simp), p3, Option.bind_some, he]
   rfl
  | true =>
   cases hf : fitB t e l with
   | false =>
    have hg : letgoB t l e = (l, false) := by unfold letgoB; rw [he, hf]; rfl
    refine ⟨Kd + K, ?_⟩
    obtain ⟨p1, p2, p3, p4⟩ := q (Kd + K) (by omega)
    unfold laws_FnLetGo.f
    rw [hbig, Option.bind_some, if_neg (by simp), hd _ (by omega), Option.bind_some]
    simp only
    rw [p1, Option.bind_some, p2, Option.bind_some, hg, if_neg (by simp), if_neg (by simp), p3, Option.bind_some, he, if_pos rfl]
    simp only
    rw [p4]
    rfl
   | true =>
    have hg : letgoB t l e = (l ++ [e], true) := by unfold letgoB; rw [he, hf]; rfl
    have hx : eventsB t (l ++ [e]) = true := by rw [eventsB_snoc t l e he]; exact hf
    have hl2 : (l ++ [e]).length ≤ 9 := by rw [List.length_append]; simp; omega
    obtain ⟨K2, q2⟩ := both (impl_foA t l (by omega) (by omega)) (both (impl_foA t (l ++ [e]) (by omega) (by omega)) (both (spec_chainofA t (by omega)) (both (impl_done t (l ++ [e]) (by omega) (by omega)) (both (impl_errA t (l ++ [e]) (by omega) (by omega)) (both (impl_causeA t (l ++ [e]) (by omega) (by omega)) (both (impl_letgo t (l ++ [e]) e (by omega) (by omega)) (impl_events t (l ++ [e]) (by omega) (by omega))))))))
    have lp := letgo_loop t l e he hx (K2 + 100) (fun k hk => (q2 k (by omega)).1) (fun k hk => (q2 k (by omega)).2.1) (fun k hk => (q2 k (by omega)).2.2.1) (fun k hk => (q2 k (by omega)).2.2.2.1) (fun k hk => (q2 k (by omega)).2.2.2.2.1) (fun k hk => (q2 k (by omega)).2.2.2.2.2.1) (fun k hk => (q2 k (by omega)).2.2.2.2.2.2.1) (fun k hk => by rw [(q2 k (by omega)).2.2.2.2.2.2.2, hx]) (by omega) t.length 0
    obtain ⟨M, hM⟩ : ∃ M, M = Kd + K + K2 + 2 * t.length + 200 := ⟨_, rfl⟩
    refine ⟨M, ?_⟩
    obtain ⟨p1, p2, p3, p4⟩ := q M (by omega)
    have lp2 := lp M (by omega) (by omega)
    unfold laws_FnLetGo.f
    rw [hbig, Option.bind_some, if_neg (by simp), hd _ (by omega), Option.bind_some]
    simp only
    rw [p1, Option.bind_some, p2, Option.bind_some, hg, if_neg (by simp), if_pos rfl]
    exact lp2
 ·refine ⟨0, ?_⟩
  unfold laws_FnLetGo.f laws_big.f
  simp only [Option.bind_some]
  rw [if_pos (by simp; omega)]
end Go.Proofs.Ytcndchcepajmjaa.Pure
