/- Texts of the claim of the law FnChains, made smaller by a program of this session: what the claim does not use is left out. No condition. -/
import Derived.Test.YtcndchcepajmjaaZChOpen
import Derived.Test.YtcndchcepajmjaaZChPLib
import Derived.Test.YtcndchcepajmjaaZChPFnChainsx6
namespace Go.Proofs.Ytcndchcepajmjaa.Pure
open Go.RowKit Go.Proofs.YtcndchcepajmjaaOpen Go.Proofs.YtcndchcepajmjaaPLib Go.Proofs.Ytcndchcepajmjaa.PFnChains Go.Proofs.YtcndchcepajmjaaW.PrintWords Go.Proofs.YtcndchcepajmjaaW.PrintLast
set_option linter.unusedVariables false
set_option linter.unusedSimpArgs false
theorem l1In_eq (a b c : Int) : spec_l1In.f a b c = some (btw a b c) := by
  unfold spec_l1In.f btw
  by_cases h : b ≤ a
  · rw [if_pos h]; simp [h]
  · rw [if_neg h]; simp [h]
theorem within_eq (a b c : Int) : impl_within.f a b c = some (btw a b c) := by
  unfold impl_within.f btw
  by_cases h : b ≤ a
  · rw [if_pos h]; simp [h]
  · rw [if_neg h]; simp [h]
/-- What the document asks of a node for itself. -/
def ownB (x : S30) : Bool := ((x.f0 == 2) || (x.f2 == 9223372036854775807)) && (if x.f0 = 3 then btw x.f3 1 9 && btw x.f4 0 999 else btw x.f0 0 4 && ((x.f3 == 0) && (x.f4 == 0)))
/-- What it asks of the node above it. -/
def upB (x : S30) (i : Int) : Bool := if x.f0 = 0 then x.f1 == -1 else btw x.f1 0 (i - 1)
def nodeAt (x : S30) (i : Int) : Bool := ownB x && upB x i
theorem spec_node (k : Nat) (x : S30) : spec_l5Node.f (k + 1) x.f0 x.f1 x.f2 x.f3 x.f4 = some (ownB x) := by
  unfold spec_l5Node.f ownB
  simp only [spec_l5Node.j0, l1In_eq, Option.bind_some]
  by_cases h2 : x.f0 = 2
  · have h3 : ¬ x.f0 = 3 := by omega
    cases hk : btw x.f0 0 4 <;> by_cases hf : x.f3 = 0 <;> simp_all
  · by_cases h3 : x.f0 = 3
    · cases hk : btw x.f3 1 9 <;> by_cases hd : x.f2 = 9223372036854775807 <;> simp_all
    · cases hk : btw x.f0 0 4 <;> by_cases hf : x.f3 = 0 <;> by_cases hd : x.f2 = 9223372036854775807 <;> simp_all
theorem impl_node (k : Nat) (x : S30) (i : Int) (h0 : 0 ≤ i) (h1 : i ≤ 9223372036854775807) : impl_Node_isNode.f (k + 2) x.f0 x.f1 x.f2 x.f3 x.f4 i = some (nodeAt x i) := by
  unfold impl_Node_isNode.f nodeAt ownB upB
  simp only [impl_Node_isNode.j0, impl_Node_isNode.j1, within_eq, Option.bind_some]
  rw [wrap_id (by omega) (by omega)]
  by_cases h2 : x.f0 = 2
  · have h3 : ¬ x.f0 = 3 := by omega
    have h0 : ¬ x.f0 = 0 := by omega
    have hk : btw x.f0 0 4 = true := btw_iff.2 (by omega)
    cases hu : btw x.f1 0 (i - 1) <;> by_cases hf : x.f3 = 0 <;> simp_all
  · by_cases h3 : x.f0 = 3
    · have h0 : ¬ x.f0 = 0 := by omega
      have hk : btw x.f0 0 4 = true := btw_iff.2 (by omega)
      cases hu : btw x.f1 0 (i - 1) <;> cases hk : btw x.f3 1 9 <;> by_cases hd : x.f2 = 9223372036854775807 <;> simp_all
    · cases hk : btw x.f0 0 4
      · simp_all
      · by_cases h0 : x.f0 = 0
        · by_cases hu : x.f1 = -1 <;> by_cases hf : x.f3 = 0 <;> by_cases hd : x.f2 = 9223372036854775807 <;> simp_all
        · cases hu : btw x.f1 0 (i - 1) <;> by_cases hf : x.f3 = 0 <;> by_cases hd : x.f2 = 9223372036854775807 <;> simp_all
/-- Nodes are a tree. -/
def treeB (t : List S30) : Bool := decide (t.length ≤ 60) && allFrom (fun i => nodeAt (rd_T30 t i) i) t.length 0
theorem spec_tree (t : List S30) (hn : t.length ≤ 9223372036854775807) : ∃ K, ∀ k, K ≤ k → spec_TreeOk.f k t = some (treeB t) := by
  unfold treeB
  by_cases h : t.length ≤ 60
  · obtain ⟨K, e⟩ := ev_all (fun k i => spec_TreeOk.l0 k t i) (fun i => nodeAt (rd_T30 t i) i) t.length 1
      (fun k i hk h0 h1 => by
        obtain ⟨k, rfl⟩ : ∃ q, k = q + 1 := ⟨k - 1, by omega⟩
        show spec_TreeOk.l0 (k + 1 + 1) t i = _
        unfold nodeAt upB
        simp only [spec_TreeOk.l0, spec_node k, l1In_eq, Option.bind_some]
        rw [if_pos h1, if_pos h0, wrap_id (x := i - 1) (by omega) (by omega)]
        cases ownB (rd_T30 t i) with
        | false => simp
        | true => by_cases hf : (rd_T30 t i).f0 = 0 <;> simp [hf])
      (fun k i h => by show spec_TreeOk.l0 (k + 1) t i = _; simp only [spec_TreeOk.l0]; rw [if_neg h]) hn
    refine ⟨K, fun k hk => ?_⟩
    unfold spec_TreeOk.f
    rw [if_neg (by omega), decide_eq_true h, Bool.true_and]
    exact e k hk
  · refine ⟨0, fun k _ => ?_⟩
    unfold spec_TreeOk.f
    rw [if_pos (by omega)]
    simp [h]
theorem impl_tree (t : List S30) (hn : t.length ≤ 9223372036854775807) : ∃ K, ∀ k, K ≤ k → impl_TreeOk.f k t = some (treeB t) := by
  have e := ev_all (fun k i => impl_TreeOk.l0 k t (t.length : Int) i) (fun i => !(i == 60) && nodeAt (rd_T30 t i) i) t.length 2
      (fun k i hk h0 h1 => by
        obtain ⟨k, rfl⟩ : ∃ q, k = q + 2 := ⟨k - 2, by omega⟩
        show impl_TreeOk.l0 (k + 2 + 1) t _ i = (if _ then impl_TreeOk.l0 (k + 2) t _ _ else _)
        generalize hw : impl_TreeOk.l0 (k + 2) t (t.length : Int) (wrap64 (i + 1)) = R
        rw [impl_TreeOk.l0, impl_node k _ i h0 (by omega), hw]
        simp only [Option.bind_some]
        rw [if_pos h1, if_pos h0, if_pos h1]
        by_cases h60 : i = 60 <;> simp [h60])
      (fun k i h => by show impl_TreeOk.l0 (k + 1) t _ i = _; simp only [impl_TreeOk.l0]; rw [if_neg h]) hn
  have hb : allFrom (fun i => !(i == 60) && nodeAt (rd_T30 t i) i) t.length 0 = treeB t := by
    unfold treeB
    rw [Bool.eq_iff_iff, Bool.and_eq_true, allFrom_iff, allFrom_iff, decide_eq_true_eq]
    constructor
    · intro h
      refine ⟨?_, fun j h0 h1 => by have := h j h0 h1; simp at this; exact this.2⟩
      apply Decidable.byContradiction
      intro hc
      have := h 60 (by omega) (by omega)
      simp at this
    · rintro ⟨hl, h⟩ j h0 h1
      have := h j h0 h1
      simp [this]
      omega
  rw [hb] at e
  exact e
theorem treeB_len {t : List S30} (h : treeB t = true) : t.length ≤ 60 := by
  unfold treeB at h
  simp at h
  exact h.1
theorem treeB_at {t : List S30} (h : treeB t = true) (i : Int) (h0 : 0 ≤ i) (h1 : i < (t.length : Int)) : ownB (rd_T30 t i) = true ∧ upB (rd_T30 t i) i = true := by
  unfold treeB at h
  rw [Bool.and_eq_true, allFrom_iff] at h
  have := h.2 i (by omega) (by omega)
  unfold nodeAt at this
  simpa using this
theorem treeB_up {t : List S30} (h : treeB t = true) (i : Int) (h0 : 0 ≤ i) (h1 : i < (t.length : Int)) : -1 ≤ (rd_T30 t i).f1 ∧ (rd_T30 t i).f1 < i ∧ (¬ (rd_T30 t i).f0 = 0 → 0 ≤ (rd_T30 t i).f1) := by
  have hu := (treeB_at h i h0 h1).2
  unfold upB at hu
  split at hu
  · rename_i hz
    have : (rd_T30 t i).f1 = -1 := by simpa using hu
    omega
  · have := btw_iff.1 hu
    omega
/-- There is that node in a right tree. -/
def hasB (t : List S30) (n : Int) : Bool := treeB t && btw n 0 ((t.length : Int) - 1)
theorem hasB_iff {t : List S30} {n : Int} : hasB t n = true ↔ treeB t = true ∧ 0 ≤ n ∧ n < (t.length : Int) := by
  unfold hasB
  rw [Bool.and_eq_true, btw_iff]
  constructor <;> rintro ⟨h1, h2, h3⟩ <;> exact ⟨h1, by omega, by omega⟩
theorem impl_isIn (t : List S30) (n : Int) (hn : t.length ≤ 9223372036854775807) : impl_Node_66.f n t = some (btw n 0 ((t.length : Int) - 1)) := by
  unfold impl_Node_66.f impl_Node_63.f
  simp only [Option.bind_some]
  rw [within_eq, wrap_id (by omega) (by omega)]
  rfl
/-- A node, and those above it up to a root or a cut. -/
def chainF (t : List S30) : Nat → Int → List Int
  | 0, _ => []
  | m + 1, i => i :: (if (rd_T30 t i).f0 = 0 ∨ (rd_T30 t i).f0 = 4 then [] else chainF t m (rd_T30 t i).f1)
theorem chainF_in {t : List S30} (h : treeB t = true) : ∀ (m : Nat) (i : Int), 0 ≤ i → i < (t.length : Int) → i < m → ∀ x ∈ chainF t m i, 0 ≤ x ∧ x < (t.length : Int) := by
  intro m
  induction m with
  | zero => intro i h0 h1 h2; omega
  | succ m ih =>
    intro i h0 h1 h2 x hx
    unfold chainF at hx
    rcases List.mem_cons.1 hx with rfl | hx
    · exact ⟨h0, h1⟩
    · have hu := treeB_up h i h0 h1
      split at hx
      · simp at hx
      · rename_i hc
        have hu2 := hu.2.2 (fun e => hc (.inl e))
        exact ih _ hu2 (by omega) (by omega) x hx
theorem chainF_length (t : List S30) : ∀ (m : Nat) (i : Int), (chainF t m i).length ≤ m := by
  intro m
  induction m with
  | zero => intro i; simp [chainF]
  | succ m ih =>
    intro i
    unfold chainF
    split
    · simp
    · have := ih (rd_T30 t i).f1
      simpa using this
theorem impl_chain_loop {t : List S30} (h : treeB t = true) : ∀ (m k : Nat) (acc : List Int) (i : Int), 0 ≤ i → i < (t.length : Int) → i < m → m ≤ k → acc.length + m ≤ 1000 → impl_chain.l0 k t i acc = some (acc ++ (chainF t m i).tail) := by
  intro m
  induction m with
  | zero => intro k acc i h0 h1 h2; omega
  | succ m ih =>
    intro k acc i h0 h1 h2 hk ha
    obtain ⟨k, rfl⟩ : ∃ q, k = q + 1 := ⟨k - 1, by omega⟩
    have hu := treeB_up h i h0 h1
    rw [impl_chain.l0, if_pos h0, if_pos h1]
    unfold chainF
    by_cases hr : (rd_T30 t i).f0 = 0
    · rw [if_pos hr, if_pos (.inl hr)]
      simp
    · by_cases hc : (rd_T30 t i).f0 = 4
      · rw [if_neg hr, if_pos hc, if_pos (.inr hc)]
        simp
      · rw [if_neg hr, if_neg hc, if_pos (by omega), if_neg (by omega)]
        have hu2 := hu.2.2 hr
        rw [ih k (acc ++ [(rd_T30 t i).f1]) _ hu2 (by omega) (by omega) (by omega) (by rw [List.length_append]; simp; omega), List.append_assoc]
        obtain ⟨m, rfl⟩ : ∃ q, m = q + 1 := ⟨m - 1, by omega⟩
        simp [chainF]
theorem impl_chain_eq {t : List S30} (h : treeB t = true) (i : Int) (h0 : 0 ≤ i) (h1 : i < (t.length : Int)) (k : Nat) (hk : 61 ≤ k) : impl_chain.f k t i = some (chainF t 61 i) := by
  have hl := treeB_len h
  unfold impl_chain.f
  rw [impl_chain_loop h 61 k _ i h0 h1 (by omega) hk (by simp)]
  simp [chainF]
def chainB (t : List S30) (n : Int) : List Int := if hasB t n = true then chainF t 61 n else []
theorem impl_chainof (t : List S30) (n : Int) (hn : t.length ≤ 9223372036854775807) : ∃ K, ∀ k, K ≤ k → impl_ChainOf.f k t n = some (chainB t n) := by
  obtain ⟨K, h⟩ := impl_tree t hn
  refine ⟨K + 100, fun k hk => ?_⟩
  unfold impl_ChainOf.f chainB
  rw [h k (by omega)]
  simp only [Option.bind_some]
  rw [impl_isIn t n hn]
  simp only [Option.bind_some]
  cases ht : treeB t with
  | false => simp [hasB, ht]
  | true =>
    cases hb : btw n 0 ((t.length : Int) - 1) with
    | false => simp [hasB, ht, hb]
    | true =>
      have hbb : hasB t n = true := by simp [hasB, ht, hb]
      obtain ⟨_, h0, h1⟩ := hasB_iff.1 hbb
      rw [if_pos rfl, if_pos rfl, if_pos hbb, impl_chain_eq ht n h0 h1 k (by omega)]
      rfl
/-- The nodes below a node, of m nodes from i on. -/
def childF (t : List S30) (n : Int) : Nat → Int → List Int
  | 0, _ => []
  | m + 1, i => if (rd_T30 t i).f1 = n then i :: childF t n m (i + 1) else childF t n m (i + 1)
theorem childF_length (t : List S30) (n : Int) : ∀ (m : Nat) (i : Int), (childF t n m i).length ≤ m := by
  intro m
  induction m with
  | zero => intro i; simp [childF]
  | succ m ih =>
    intro i
    have := ih (i + 1)
    unfold childF
    split
    · simpa using this
    · omega
theorem impl_children_loop (t : List S30) (n : Int) (hn : t.length ≤ 1000) : ∀ (m j k : Nat) (acc : List Int), j + m = t.length → m < k → acc.length + m ≤ 1000 → impl_children.l0 k n acc t (t.length : Int) (j : Int) = some (acc ++ childF t n m j) := by
  intro m
  induction m with
  | zero =>
    intro j k acc hj hk ha
    obtain ⟨k, rfl⟩ : ∃ q, k = q + 1 := ⟨k - 1, by omega⟩
    rw [impl_children.l0, if_neg (by omega)]
    simp [childF]
  | succ m ih =>
    intro j k acc hj hk ha
    obtain ⟨k, rfl⟩ : ∃ q, k = q + 1 := ⟨k - 1, by omega⟩
    rw [impl_children.l0, if_pos (by omega), if_pos (by omega), if_pos (by omega), wrap_id (by omega) (by omega), show ((j : Int) + 1) = ((j + 1 : Nat) : Int) by omega]
    unfold childF
    by_cases h : (rd_T30 t (j : Int)).f1 = n
    · rw [if_pos h, if_pos (by omega), if_pos h, ih (j + 1) k _ (by omega) (by omega) (by rw [List.length_append]; simp; omega), List.append_assoc]
      rfl
    · rw [if_neg h, if_neg h, ih (j + 1) k _ (by omega) (by omega) (by omega)]
      rfl
def childB (t : List S30) (n : Int) : List Int := if hasB t n = true then childF t n t.length 0 else []
theorem childB_length (t : List S30) (n : Int) : (childB t n).length ≤ 60 := by
  unfold childB
  split
  · rename_i h
    have := treeB_len (hasB_iff.1 h).1
    have := childF_length t n t.length 0
    omega
  · simp
theorem impl_children_eq (t : List S30) (n : Int) (hl : t.length ≤ 60) (k : Nat) (hk : 100 ≤ k) : impl_children.f k t n = some (childF t n t.length 0) := by
  unfold impl_children.f
  exact impl_children_loop t n (by omega) t.length 0 k [] (by omega) (by omega) (by simp; omega)
theorem impl_childrenA (t : List S30) (hn : t.length ≤ 9223372036854775807) : ∃ K, ∀ k, K ≤ k → ∀ n, impl_ChildrenOf.f k t n = some (childB t n) := by
  obtain ⟨K, h⟩ := impl_tree t hn
  refine ⟨K + 100, fun k hk n => ?_⟩
  unfold impl_ChildrenOf.f childB
  rw [h k (by omega)]
  simp only [Option.bind_some]
  rw [impl_isIn t n hn]
  simp only [Option.bind_some]
  cases ht : treeB t with
  | false => simp [hasB, ht]
  | true =>
    cases hb : btw n 0 ((t.length : Int) - 1) with
    | false => simp [hasB, ht, hb]
    | true =>
      have hbb : hasB t n = true := by simp [hasB, ht, hb]
      have hl := treeB_len ht
      rw [if_pos rfl, if_pos rfl, if_pos hbb, impl_children_eq t n hl k (by omega)]
      rfl
/-- The smallest Due of some nodes. -/
def dueL (t : List S30) (l : List Int) (d : Int) : Int := l.foldl (fun d i => mn d (rd_T30 t i).f2) d
theorem impl_due_loop (t : List S30) (l : List Int) (hl : l.length ≤ 1000) (hin : ∀ x ∈ l, 0 ≤ x ∧ x < (t.length : Int)) : ∀ (m j k : Nat) (d : Int), j + m = l.length → m < k → impl_dueOf.l0 k t d l (l.length : Int) (j : Int) = some (dueL t (l.drop j) d) := by
  intro m
  induction m with
  | zero =>
    intro j k d hj hk
    obtain ⟨k, rfl⟩ : ∃ q, k = q + 1 := ⟨k - 1, by omega⟩
    rw [impl_dueOf.l0, if_neg (by omega), List.drop_of_length_le (by omega)]
    rfl
  | succ m ih =>
    intro j k d hj hk
    obtain ⟨k, rfl⟩ : ∃ q, k = q + 1 := ⟨k - 1, by omega⟩
    have hlt : j < l.length := by omega
    have e : rd l (j : Int) = l[j] := by unfold rd; rw [Int.toNat_natCast, getD_lt _ hlt]
    have hx := hin l[j] (List.getElem_mem hlt)
    rw [impl_dueOf.l0, if_pos (by omega), if_pos (by omega), if_pos (by omega), e, if_pos hx.1, if_pos hx.2]
    rw [wrap_id (by omega) (by omega), show ((j : Int) + 1) = ((j + 1 : Nat) : Int) by omega, ih (j + 1) k _ (by omega) (by omega), List.drop_eq_getElem_cons hlt]
    rfl
def dueB (t : List S30) (n : Int) : Int := if hasB t n = true then dueL t (chainF t 61 n) 9223372036854775807 else 9223372036854775807
theorem impl_due (t : List S30) (n : Int) (hn : t.length ≤ 9223372036854775807) : ∃ K, ∀ k, K ≤ k → impl_DueOf.f k t n = some (dueB t n) := by
  obtain ⟨K, h⟩ := impl_tree t hn
  refine ⟨K + 100, fun k hk => ?_⟩
  unfold impl_DueOf.f dueB
  rw [h k (by omega)]
  simp only [Option.bind_some]
  rw [impl_isIn t n hn]
  simp only [Option.bind_some]
  cases ht : treeB t with
  | false => simp [hasB, ht]
  | true =>
    cases hb : btw n 0 ((t.length : Int) - 1) with
    | false => simp [hasB, ht, hb]
    | true =>
      have hbb : hasB t n = true := by simp [hasB, ht, hb]
      obtain ⟨_, h0, h1⟩ := hasB_iff.1 hbb
      have hl := treeB_len ht
      have hc := chainF_length t 61 n
      rw [if_pos rfl, if_pos rfl, if_pos hbb]
      unfold impl_dueOf.f
      rw [impl_chain_eq ht n h0 h1 k (by omega)]
      simp only [Option.bind_some]
      rw [show impl_dueOf.l0 k t 9223372036854775807 (chainF t 61 n) ((chainF t 61 n).length : Int) 0 = _ from impl_due_loop t (chainF t 61 n) (by omega) (chainF_in ht 61 n h0 h1 (by omega)) (chainF t 61 n).length 0 k _ (by omega) (by omega)]
      rfl
theorem and255 (n : Int) : Go.bits .and .i64 n 255 = n % 256 := by
  have h255 : (BitVec.ofInt 64 255).toNat = 2 ^ 8 - 1 := by decide
  have key : (BitVec.ofInt 64 n &&& BitVec.ofInt 64 255).toNat = (n % ((2 ^ 64 : Nat) : Int)).toNat % 2 ^ 8 := by
    rw [BitVec.toNat_and, BitVec.toNat_ofInt, h255, Nat.and_two_pow_sub_one_eq_mod]
  show IntKind.i64.wrap ((BitVec.ofInt 64 n &&& BitVec.ofInt 64 255).toNat : Nat) = n % 256
  rw [key, IntKind.wrap_i64]
  omega
theorem wrap_span (x : Int) : -9223372036854775808 ≤ wrap64 x ∧ wrap64 x ≤ 9223372036854775807 := by unfold wrap64; omega
/-- A place in the bytes of a draw. -/
def CurOk (b : List Int) (i : Int) : Prop := 0 ≤ i ∧ i ≤ (b.length : Int)
theorem byte_ok (b : List Int) (i h : Int) (hb : b.length ≤ 4096) (hc : CurOk b i) : ∃ x j g, spec_l1Byte.f b i h = some (x, j, g) ∧ 0 ≤ x ∧ x ≤ 255 ∧ CurOk b j := by
  obtain ⟨h0, h1⟩ := hc
  unfold spec_l1Byte.f
  by_cases hl : i < (b.length : Int)
  · rw [if_pos hl, if_pos h0, and255, and255]
    exact ⟨_, _, _, rfl, by omega, by omega, by unfold CurOk wrap64; omega⟩
  · rw [if_neg hl, and255]
    exact ⟨_, _, _, rfl, by omega, by omega, h0, h1⟩
theorem tmod_ok {x n : Int} (hx : 0 ≤ x) (hn : 0 < n) : 0 ≤ Int.tmod x n ∧ Int.tmod x n < n := by
  rw [Int.tmod_eq_emod_of_nonneg hx]
  exact ⟨Int.emod_nonneg x (by omega), Int.emod_lt_of_pos x hn⟩
theorem below_ok (b : List Int) (i h n : Int) (hb : b.length ≤ 4096) (hc : CurOk b i) : ∃ r j g, spec_l1Below.f b i h n = some (r, j, g) ∧ 0 ≤ r ∧ (0 < n → r < n) ∧ (n ≤ 0 → r = 0) ∧ CurOk b j := by
  unfold spec_l1Below.f
  by_cases h0 : n ≤ 0
  · rw [if_pos h0]
    exact ⟨_, _, _, rfl, by omega, by omega, fun _ => rfl, hc⟩
  · rw [if_neg h0]
    by_cases h1 : n ≤ 256
    · obtain ⟨x, j, g, e, hx0, hx1, hj⟩ := byte_ok b i h hb hc
      rw [if_pos h1, e]
      simp only [Option.bind_some]
      rw [if_neg (by omega)]
      have ht := tmod_ok hx0 (show 0 < n by omega)
      exact ⟨_, _, _, rfl, ht.1, fun _ => ht.2, by omega, hj⟩
    · obtain ⟨x, j, g, e, hx0, hx1, hj⟩ := byte_ok b i h hb hc
      obtain ⟨x2, j2, g2, e2, hy0, hy1, hj2⟩ := byte_ok b j g hb hj
      obtain ⟨x3, j3, g3, e3, hz0, hz1, hj3⟩ := byte_ok b j2 g2 hb hj2
      obtain ⟨x4, j4, g4, e4, hw0, hw1, hj4⟩ := byte_ok b j3 g3 hb hj3
      rw [if_neg h1, e]
      simp only [Option.bind_some]
      rw [e2]
      simp only [Option.bind_some]
      rw [e3]
      simp only [Option.bind_some]
      rw [e4]
      simp only [Option.bind_some]
      rw [if_neg (by omega)]
      have hs : 0 ≤ wrap64 (wrap64 (wrap64 (wrap64 (x * 16777216) + wrap64 (x2 * 65536)) + wrap64 (x3 * 256)) + x4) := by unfold wrap64; omega
      have ht := tmod_ok hs (show 0 < n by omega)
      exact ⟨_, _, _, rfl, ht.1, fun _ => ht.2, by omega, hj4⟩
theorem new_loop (b : List Int) (hb : b.length ≤ 4096) : ∀ (m j : Nat) (x : Int), j + m = b.length → ∃ g, ∀ k, m < k → spec_l1New.l0 k b x (j : Int) = some (b, 0, g) := by
  intro m
  induction m with
  | zero =>
    intro j x hj
    refine ⟨x, fun k hk => ?_⟩
    obtain ⟨k, rfl⟩ : ∃ q, k = q + 1 := ⟨k - 1, by omega⟩
    rw [spec_l1New.l0, if_neg (by omega)]
  | succ m ih =>
    intro j x hj
    obtain ⟨g, hg⟩ := ih (j + 1) (Go.bits .and .i64 (wrap64 ((wrap64 ((wrap64 (x * 173)) + (wrap64 (rd b (j : Int))))) + 11)) 1073741823) (by omega)
    refine ⟨g, fun k hk => ?_⟩
    obtain ⟨k, rfl⟩ : ∃ q, k = q + 1 := ⟨k - 1, by omega⟩
    rw [spec_l1New.l0, if_pos (by omega), if_pos (by omega)]
    have := hg k (by omega)
    rw [wrap_id (x := (j : Int) + 1) (by omega) (by omega)]
    rw [show ((j : Int) + 1) = ((j + 1 : Nat) : Int) by omega]
    exact this
theorem new_ok (b : List Int) (hb : b.length ≤ 4096) : ∃ g, ∀ k, 4097 ≤ k → spec_l1New.f k b = some (b, 0, g) := by
  obtain ⟨g, hg⟩ := new_loop b hb b.length 0 (wrap64 (314159 + (b.length : Int))) (by omega)
  refine ⟨g, fun k hk => ?_⟩
  unfold spec_l1New.f
  exact hg k (by omega)
theorem curOk0 (b : List Int) : CurOk b 0 := ⟨Int.le_refl _, by omega⟩
theorem odd_ok (b : List Int) (i h : Int) (hb : b.length ≤ 4096) (hc : CurOk b i) : ∃ r j g, spec_l1Odd.f b i h = some (r, j, g) ∧ -9223372036854775808 ≤ r ∧ r ≤ 9223372036854775807 ∧ CurOk b j := by
  obtain ⟨r, j, g, e, h0, h1, _, hj⟩ := below_ok b i h 10 hb hc
  have h2 := h1 (by omega)
  unfold spec_l1Odd.f
  simp only [Option.bind_some]
  rw [e]
  simp only [Option.bind_some]
  rw [if_pos h0, if_pos (by simp; omega)]
  refine ⟨_, _, _, rfl, ?_, ?_, hj⟩
  · have : r = 0 ∨ r = 1 ∨ r = 2 ∨ r = 3 ∨ r = 4 ∨ r = 5 ∨ r = 6 ∨ r = 7 ∨ r = 8 ∨ r = 9 := by omega
    rcases this with rfl | rfl | rfl | rfl | rfl | rfl | rfl | rfl | rfl | rfl <;> decide
  · have : r = 0 ∨ r = 1 ∨ r = 2 ∨ r = 3 ∨ r = 4 ∨ r = 5 ∨ r = 6 ∨ r = 7 ∨ r = 8 ∨ r = 9 := by omega
    rcases this with rfl | rfl | rfl | rfl | rfl | rfl | rfl | rfl | rfl | rfl <;> decide
theorem draw2_ok (b : List Int) (i h : Int) (hb : b.length ≤ 4096) (hc : CurOk b i) : ∃ r j g, spec_l2Draw.f b i h = some (r, j, g) ∧ -9223372036854775808 ≤ r ∧ r ≤ 9223372036854775807 ∧ CurOk b j := by
  obtain ⟨q, j, g, e, _, _, _, hj⟩ := below_ok b i h 4 hb hc
  unfold spec_l2Draw.f
  rw [e]
  simp only [Option.bind_some]
  by_cases q0 : q = 0
  · obtain ⟨r, j2, g2, e2, h0, h1, hj2⟩ := odd_ok b j g hb hj
    rw [if_pos q0, e2]
    exact ⟨r, j2, g2, rfl, h0, h1, hj2⟩
  · rw [if_neg q0]
    by_cases q1 : q = 1
    · obtain ⟨r, j2, g2, e2, h0, h1, _, hj2⟩ := below_ok b j g 5 hb hj
      rw [if_pos q1, e2]
      exact ⟨_, j2, g2, rfl, (wrap_span _).1, (wrap_span _).2, hj2⟩
    · rw [if_neg q1]
      by_cases q2 : q = 2
      · obtain ⟨r, j2, g2, e2, h0, h1, _, hj2⟩ := below_ok b j g 5 hb hj
        unfold spec_l2Least.f
        rw [if_pos q2]
        simp only [Option.bind_some]
        rw [e2]
        exact ⟨_, j2, g2, rfl, (wrap_span _).1, (wrap_span _).2, hj2⟩
      · unfold spec_l1From.f
        rw [if_neg q2]
        obtain ⟨r, j2, g2, e2, h0, h1, _, hj2⟩ := below_ok b j g (wrap64 ((wrap64 (30 - -9)) + 1)) hb hj
        rw [e2]
        exact ⟨_, j2, g2, rfl, (wrap_span _).1, (wrap_span _).2, hj2⟩
theorem once_ok (b : List Int) (i h n : Int) (hb : b.length ≤ 4096) (hc : CurOk b i) : ∃ r j g, spec_l1Once.f b i h n = some (r, j, g) ∧ CurOk b j := by
  obtain ⟨r, j, g, e, _, _, _, hj⟩ := below_ok b i h n hb hc
  unfold spec_l1Once.f
  rw [e]
  exact ⟨_, _, _, rfl, hj⟩
theorem from_ok (b : List Int) (i h lo hi : Int) (hb : b.length ≤ 4096) (hc : CurOk b i) (h0 : -1000000 ≤ lo) (h1 : lo ≤ hi) (h2 : hi ≤ 1000000) : ∃ r j g, spec_l1From.f b i h lo hi = some (r, j, g) ∧ lo ≤ r ∧ r ≤ hi ∧ CurOk b j := by
  unfold spec_l1From.f
  rw [wrap_id (x := hi - lo) (by omega) (by omega), wrap_id (x := hi - lo + 1) (by omega) (by omega)]
  obtain ⟨r, j, g, e, r0, r1, _, hj⟩ := below_ok b i h (hi - lo + 1) hb hc
  have := r1 (by omega)
  rw [e]
  refine ⟨_, _, _, rfl, ?_, ?_, hj⟩
  · show lo ≤ wrap64 (lo + r)
    rw [wrap_id (by omega) (by omega)]
    omega
  · show wrap64 (lo + r) ≤ hi
    rw [wrap_id (by omega) (by omega)]
    omega
theorem min_ok (a c : Int) : spec_l1Min.f a c = some (if a < c then a else c) := by
  unfold spec_l1Min.f
  split <;> rfl
theorem drawNode_ok (b : List Int) (i h n : Int) (hb : b.length ≤ 4096) (hc : CurOk b i) : ∃ x0 x1 x2 x3 x4 j g, spec_l5DrawNode.f b i h n = some (x0, x1, x2, x3, x4, j, g) ∧ CurOk b j := by
  obtain ⟨k, j, g, e, k0, k1, hj⟩ := from_ok b i h 1 4 hb hc (by omega) (by omega) (by omega)
  obtain ⟨u, j2, g2, e2, _, _, _, hj2⟩ := below_ok b j g (if n < 4 then n else 4) hb hj
  unfold spec_l5DrawNode.f
  rw [e]
  simp only [Option.bind_some, min_ok]
  rw [e2]
  simp only [Option.bind_some]
  by_cases q2 : k = 2
  · obtain ⟨d, j3, g3, e3, _, _, _, hj3⟩ := below_ok b j2 g2 16 hb hj2
    obtain ⟨o, j4, g4, e4, hj4⟩ := once_ok b j3 g3 10 hb hj3
    rw [if_pos q2, e3]
    simp only [Option.bind_some]
    rw [e4]
    simp only [Option.bind_some]
    cases o
    · exact ⟨_, _, _, _, _, _, _, rfl, hj4⟩
    · obtain ⟨z, j5, g5, e5, _, _, hj5⟩ := draw2_ok b j4 g4 hb hj4
      rw [if_pos rfl, e5]
      exact ⟨_, _, _, _, _, _, _, rfl, hj5⟩
  · rw [if_neg q2]
    by_cases q3 : k = 3
    · obtain ⟨d, j3, g3, e3, _, _, _, hj3⟩ := below_ok b j2 g2 3 hb hj2
      obtain ⟨o, j4, g4, e4, _, _, _, hj4⟩ := below_ok b j3 g3 9 hb hj3
      rw [if_pos q3, e3]
      simp only [Option.bind_some]
      rw [e4]
      exact ⟨_, _, _, _, _, _, _, rfl, hj4⟩
    · rw [if_neg q3]
      by_cases q4 : k = 4
      · obtain ⟨o, j4, g4, e4, hj4⟩ := once_ok b j2 g2 3 hb hj2
        rw [if_pos q4, e4]
        simp only [Option.bind_some]
        cases o <;> exact ⟨_, _, _, _, _, _, _, rfl, hj4⟩
      · rw [if_neg q4]
        exact ⟨_, _, _, _, _, _, _, rfl, hj2⟩
theorem drawTree_l1 (b : List Int) (hb : b.length ≤ 4096) : ∀ (m : Nat) (t : List S30) (x i h : Int), x ≤ m → m ≤ 60 → t.length + m ≤ 1000000 → CurOk b i → ∃ t' j g, (∀ k, m < k → spec_l5Draw.l1 k t x b i h = some (t', j, g)) ∧ CurOk b j ∧ t.length ≤ t'.length ∧ t'.length ≤ t.length + m := by
  intro m
  induction m with
  | zero =>
    intro t x i h hx _ ht hc
    refine ⟨t, i, h, fun k hk => ?_, hc, by omega, by omega⟩
    obtain ⟨k, rfl⟩ : ∃ q, k = q + 1 := ⟨k - 1, by omega⟩
    rw [spec_l5Draw.l1, if_neg (by omega)]
  | succ m ih =>
    intro t x i h hx hm ht hc
    by_cases h0 : x > 0
    · obtain ⟨x0, x1, x2, x3, x4, j, g, e, hj⟩ := drawNode_ok b i h (t.length : Int) hb hc
      obtain ⟨t', j', g', e', hc', hl, hl'⟩ := ih (t ++ [⟨x0, x1, x2, x3, x4⟩]) (x - 1) j g (by omega) (by omega) (by simp; omega) hj
      refine ⟨t', j', g', fun k hk => ?_, hc', by simp at hl; omega, by simp at hl'; omega⟩
      obtain ⟨k, rfl⟩ : ∃ q, k = q + 1 := ⟨k - 1, by omega⟩
      rw [spec_l5Draw.l1, if_pos h0, e]
      simp only [Option.bind_some]
      rw [if_pos (by omega), wrap_id (by omega) (by omega)]
      exact e' k (by omega)
    · refine ⟨t, i, h, fun k hk => ?_, hc, by omega, by omega⟩
      obtain ⟨k, rfl⟩ : ∃ q, k = q + 1 := ⟨k - 1, by omega⟩
      rw [spec_l5Draw.l1, if_neg h0]
theorem drawTree_end (b : List Int) (hb : b.length ≤ 4096) (t : List S30) (x i h : Int) (h0 : ¬ x > 0) (ht : t.length ≤ 1000) (hc : CurOk b i) : ∃ t' j g, (∀ k, 62 < k → spec_l5Draw.l0 k t x b i h = some (t', j, g)) ∧ CurOk b j ∧ t.length ≤ t'.length ∧ t'.length ≤ t.length + 60 := by
  obtain ⟨o, j, g, e, hj⟩ := once_ok b i h 40 hb hc
  cases o
  · refine ⟨t, j, g, fun k hk => ?_, hj, by omega, by omega⟩
    obtain ⟨k, rfl⟩ : ∃ q, k = q + 1 := ⟨k - 1, by omega⟩
    rw [spec_l5Draw.l0, if_neg h0, e]
    rfl
  · obtain ⟨r, j2, g2, e2, r0, _, _, hj2⟩ := below_ok b j g 2 hb hj
    have hr : r ≤ 1 := by
      obtain ⟨r', j', g', e', _, r1, _, _⟩ := below_ok b j g 2 hb hj
      rw [e2] at e'
      injection e' with e'
      injection e' with e' _
      have := r1 (by omega)
      omega
    obtain ⟨t', j', g', e', hc', hl, hl'⟩ := drawTree_l1 b hb 60 t (60 - (t.length : Int) - r) j2 g2 (by omega) (by omega) (by omega) hj2
    refine ⟨t', j', g', fun k hk => ?_, hc', hl, hl'⟩
    obtain ⟨k, rfl⟩ : ∃ q, k = q + 1 := ⟨k - 1, by omega⟩
    rw [spec_l5Draw.l0, if_neg h0, e]
    simp only [Option.bind_some]
    rw [if_pos trivial, e2]
    simp only [Option.bind_some]
    rw [wrap_id (x := 60 - (t.length : Int)) (by omega) (by omega), wrap_id (by omega) (by omega)]
    exact e' k (by omega)
theorem drawTree_l0 (b : List Int) (hb : b.length ≤ 4096) : ∀ (m : Nat) (t : List S30) (x i h : Int), x ≤ m → m ≤ 20 → t.length + m ≤ 1000 → CurOk b i → ∃ t' j g, (∀ k, m + 62 < k → spec_l5Draw.l0 k t x b i h = some (t', j, g)) ∧ CurOk b j ∧ t.length ≤ t'.length ∧ t'.length ≤ t.length + m + 60 := by
  intro m
  induction m with
  | zero =>
    intro t x i h hx _ ht hc
    obtain ⟨t', j, g, e, q, hl, hl'⟩ := drawTree_end b hb t x i h (by omega) (by omega) hc
    exact ⟨t', j, g, fun k hk => e k (by omega), q, hl, by omega⟩
  | succ m ih =>
    intro t x i h hx hm ht hc
    by_cases h0 : x > 0
    · obtain ⟨o, j, g, e, hj⟩ := once_ok b i h 12 hb hc
      cases o
      · obtain ⟨x0, x1, x2, x3, x4, j2, g2, e2, hj2⟩ := drawNode_ok b j g (t.length : Int) hb hj
        obtain ⟨t', j', g', e', hc', hl, hl'⟩ := ih (t ++ [⟨x0, x1, x2, x3, x4⟩]) (x - 1) j2 g2 (by omega) (by omega) (by simp; omega) hj2
        refine ⟨t', j', g', fun k hk => ?_, hc', by simp at hl; omega, by simp at hl'; omega⟩
        obtain ⟨k, rfl⟩ : ∃ q, k = q + 1 := ⟨k - 1, by omega⟩
        rw [spec_l5Draw.l0, if_pos h0, e]
        simp only [Option.bind_some]
        rw [if_neg (by simp), e2]
        simp only [Option.bind_some]
        rw [if_pos (by omega), wrap_id (by omega) (by omega)]
        exact e' k (by omega)
      · obtain ⟨t', j', g', e', hc', hl, hl'⟩ := ih (t ++ [⟨0, -1, 9223372036854775807, 0, 0⟩]) (x - 1) j g (by omega) (by omega) (by simp; omega) hj
        refine ⟨t', j', g', fun k hk => ?_, hc', by simp at hl; omega, by simp at hl'; omega⟩
        obtain ⟨k, rfl⟩ : ∃ q, k = q + 1 := ⟨k - 1, by omega⟩
        rw [spec_l5Draw.l0, if_pos h0, e]
        simp only [Option.bind_some]
        rw [if_pos trivial, if_pos (by omega), wrap_id (by omega) (by omega)]
        exact e' k (by omega)
    · obtain ⟨t', j, g, e, q, hl, hl'⟩ := drawTree_end b hb t x i h h0 (by omega) hc
      exact ⟨t', j, g, fun k hk => e k (by omega), q, hl, by omega⟩
theorem drawTree_ok (b : List Int) (i h : Int) (hb : b.length ≤ 4096) (hc : CurOk b i) : ∃ t j g, (∀ k, 100 < k → spec_l5Draw.f k b i h = some (t, j, g)) ∧ CurOk b j ∧ 1 ≤ t.length ∧ t.length ≤ 1000 := by
  obtain ⟨r, j, g, e, r0, r1, _, hj⟩ := below_ok b i h 9 hb hc
  have := r1 (by omega)
  obtain ⟨t', j', g', e', hc', hl, hl'⟩ := drawTree_l0 b hb 10 [⟨0, -1, 9223372036854775807, 0, 0⟩] (1 + r) j g (by omega) (by omega) (by simp) hj
  refine ⟨t', j', g', fun k hk => ?_, hc', by simpa using hl, by simp at hl'; omega⟩
  unfold spec_l5Draw.f
  rw [e]
  simp only [Option.bind_some]
  rw [wrap_id (by omega) (by omega)]
  exact e' k (by omega)
theorem num_ok (b : List Int) (i h n : Int) (hb : b.length ≤ 4096) (hc : CurOk b i) : ∃ r j g, spec_l1Num.f b i h n = some (r, j, g) ∧ CurOk b j := by
  obtain ⟨o, j, g, e, hj⟩ := once_ok b i h 10 hb hc
  unfold spec_l1Num.f
  rw [e]
  simp only [Option.bind_some]
  cases o
  · obtain ⟨o, j2, g2, e2, hj2⟩ := once_ok b j g 2 hb hj
    rw [if_neg (by simp), e2]
    simp only [Option.bind_some, min_ok]
    cases o
    · obtain ⟨r, j3, g3, e3, _, _, _, hj3⟩ := below_ok b j2 g2 (wrap64 (n + 1)) hb hj2
      rw [if_neg (by simp), e3]
      exact ⟨_, _, _, rfl, hj3⟩
    · obtain ⟨r, j3, g3, e3, _, _, _, hj3⟩ := below_ok b j2 g2 (wrap64 ((if n < 4 then n else 4) + 1)) hb hj2
      rw [if_pos rfl, e3]
      exact ⟨_, _, _, rfl, hj3⟩
  · obtain ⟨r, j2, g2, e2, _, _, hj2⟩ := odd_ok b j g hb hj
    obtain ⟨q, j3, g3, e3, q0, q1, _, hj3⟩ := below_ok b j2 g2 4 hb hj2
    have := q1 (by omega)
    rw [if_pos rfl, e2]
    simp only [Option.bind_some]
    rw [e3]
    simp only [Option.bind_some]
    rw [if_pos q0, if_pos (by simp; omega)]
    exact ⟨_, _, _, rfl, hj3⟩
theorem bend_ok (b : List Int) (i h : Int) (a0 a1 a2 a3 a4 : Int) (hb : b.length ≤ 4096) (hc : CurOk b i) : ∃ x0 x1 x2 x3 x4 j g, spec_l5BendNode.f b i h a0 a1 a2 a3 a4 = some (x0, x1, x2, x3, x4, j, g) ∧ CurOk b j := by
  obtain ⟨q, j, g, e, _, _, _, hj⟩ := below_ok b i h 5 hb hc
  unfold spec_l5BendNode.f
  rw [e]
  simp only [Option.bind_some]
  by_cases q0 : q = 0
  · obtain ⟨r, j2, g2, e2, _, _, hj2⟩ := from_ok b j g (-1) 5 hb hj (by omega) (by omega) (by omega)
    rw [if_pos q0, e2]
    exact ⟨_, _, _, _, _, _, _, rfl, hj2⟩
  rw [if_neg q0]
  by_cases q1 : q = 1
  · obtain ⟨r, j2, g2, e2, _, _, hj2⟩ := from_ok b j g (-2) 9 hb hj (by omega) (by omega) (by omega)
    rw [if_pos q1, e2]
    exact ⟨_, _, _, _, _, _, _, rfl, hj2⟩
  rw [if_neg q1]
  by_cases q2 : q = 2
  · obtain ⟨r, j2, g2, e2, _, _, _, hj2⟩ := below_ok b j g 9 hb hj
    rw [if_pos q2, e2]
    exact ⟨_, _, _, _, _, _, _, rfl, hj2⟩
  rw [if_neg q2]
  by_cases q3 : q = 3
  · obtain ⟨r, j2, g2, e2, _, _, hj2⟩ := from_ok b j g 0 10 hb hj (by omega) (by omega) (by omega)
    rw [if_pos q3, e2]
    exact ⟨_, _, _, _, _, _, _, rfl, hj2⟩
  rw [if_neg q3]
  by_cases q4 : q = 4
  · obtain ⟨r, j2, g2, e2, hj2⟩ := num_ok b j g 999 hb hj
    rw [if_pos q4, e2]
    exact ⟨_, _, _, _, _, _, _, rfl, hj2⟩
  rw [if_neg q4]
  exact ⟨_, _, _, _, _, _, _, rfl, hj⟩
theorem drawAny_ok (b : List Int) (i h : Int) (hb : b.length ≤ 4096) (hc : CurOk b i) : ∃ t j g, (∀ k, 100 < k → spec_l5DrawAny.f k b i h = some (t, j, g)) ∧ CurOk b j ∧ 1 ≤ t.length ∧ t.length ≤ 1000 := by
  obtain ⟨t, j, g, e, hj, hl, hl'⟩ := drawTree_ok b i h hb hc
  obtain ⟨o, j2, g2, e2, hj2⟩ := once_ok b j g 8 hb hj
  cases o
  · refine ⟨t, j2, g2, fun k hk => ?_, hj2, hl, hl'⟩
    unfold spec_l5DrawAny.f
    rw [e k hk]
    simp only [Option.bind_some]
    rw [e2]
    rfl
  · obtain ⟨r, j3, g3, e3, r0, r1, _, hj3⟩ := below_ok b j2 g2 (t.length : Int) hb hj2
    have := r1 (by omega)
    obtain ⟨x0, x1, x2, x3, x4, j4, g4, e4, hj4⟩ := bend_ok b j3 g3 (rd_T30 t r).f0 (rd_T30 t r).f1 (rd_T30 t r).f2 (rd_T30 t r).f3 (rd_T30 t r).f4 hb hj3
    refine ⟨t.set r.toNat ⟨x0, x1, x2, x3, x4⟩, j4, g4, fun k hk => ?_, hj4, by simpa using hl, by simpa using hl'⟩
    unfold spec_l5DrawAny.f
    rw [e k hk]
    simp only [Option.bind_some]
    rw [e2]
    simp only [Option.bind_some]
    rw [if_pos trivial, e3]
    simp only [Option.bind_some]
    rw [if_pos r0, if_pos this, e4]
    rfl
theorem drawAt_ok (b : List Int) (i h : Int) (hb : b.length ≤ 4096) (hc : CurOk b i) : ∃ t u j g, (∀ k, 100 < k → spec_l5DrawAt.f k b i h = some (t, u, j, g)) ∧ CurOk b j ∧ 1 ≤ t.length ∧ t.length ≤ 1000 := by
  obtain ⟨t, j, g, e, hj, hl, hl'⟩ := drawAny_ok b i h hb hc
  obtain ⟨o, j2, g2, e2, hj2⟩ := once_ok b j g 12 hb hj
  cases o
  · obtain ⟨r, j3, g3, e3, r0, r1, _, hj3⟩ := below_ok b j2 g2 (t.length : Int) hb hj2
    refine ⟨t, r, j3, g3, fun k hk => ?_, hj3, hl, hl'⟩
    unfold spec_l5DrawAt.f
    rw [e k hk]
    simp only [Option.bind_some]
    rw [e2]
    simp only [Option.bind_some]
    rw [if_neg (by simp), e3]
    rfl
  · obtain ⟨d, j3, g3, e3, _, _, hj3⟩ := odd_ok b j2 g2 hb hj2
    obtain ⟨q, j4, g4, e4, q0, q1, _, hj4⟩ := below_ok b j3 g3 3 hb hj3
    have := q1 (by omega)
    refine ⟨t, rd [-1, (t.length : Int), d] q, j4, g4, fun k hk => ?_, hj4, hl, hl'⟩
    unfold spec_l5DrawAt.f
    rw [e k hk]
    simp only [Option.bind_some]
    rw [e2]
    simp only [Option.bind_some]
    rw [if_pos trivial, e3]
    simp only [Option.bind_some]
    rw [e4]
    simp only [Option.bind_some]
    rw [if_pos q0, if_pos (by simp; omega)]
theorem drawChainOf_ok (b : List Int) (hb : b.length ≤ 4096) : ∃ t u, (∀ k, 5000 ≤ k → spec_DrawChainOf.f k b = some (t, u)) ∧ t.length ≤ 1000 := by
  obtain ⟨g, e⟩ := new_ok b hb
  obtain ⟨t, u, j, g2, e2, hj, hl, hl'⟩ := drawAt_ok b 0 g hb (curOk0 b)
  refine ⟨t, u, fun k hk => ?_, hl'⟩
  unfold spec_DrawChainOf.f
  rw [e k (by omega)]
  simp only [Option.bind_some]
  rw [e2 k (by omega)]
  rfl
theorem has_loop (cs : List Int) (x : Int) (hl : cs.length ≤ 1000) : ∀ (m j k : Nat), j + m = cs.length → m < k → x ∈ cs.drop j → laws_has.l0 k cs x (j : Int) = some true := by
  intro m
  induction m with
  | zero =>
    intro j k hj hk hx
    rw [List.drop_of_length_le (by omega)] at hx
    cases hx
  | succ m ih =>
    intro j k hj hk hx
    obtain ⟨k, rfl⟩ : ∃ q, k = q + 1 := ⟨k - 1, by omega⟩
    have hr : rd cs (j : Int) = cs[j] := by
      unfold rd
      rw [getD_lt _ (by omega)]
      rfl
    rw [laws_has.l0, if_pos (by omega), if_pos (by omega), hr, wrap_id (by omega) (by omega)]
    by_cases h : cs[j] = x
    · rw [if_pos h]
    · rw [if_neg h]
      rw [List.drop_eq_getElem_cons (by omega)] at hx
      rcases List.mem_cons.1 hx with hx | hx
      · exact absurd hx.symm h
      · have := ih (j + 1) k (by omega) (by omega) hx
        rw [Int.natCast_add, Int.natCast_one] at this
        exact this
theorem childF_mem (t : List S30) (n x : Int) (hx : (rd_T30 t x).f1 = n) : ∀ (m : Nat) (i : Int), i ≤ x → x < i + m → x ∈ childF t n m i := by
  intro m
  induction m with
  | zero => intro i h0 h1; omega
  | succ m ih =>
    intro i h0 h1
    unfold childF
    by_cases h : i = x
    · subst h
      rw [if_pos hx]
      exact List.mem_cons_self ..
    · have := ih (i + 1) (by omega) (by omega)
      split
      · exact List.mem_cons_of_mem _ this
      · exact this
theorem w_add1 (n : Nat) (h : n ≤ 1000) : wrap64 ((n : Int) + 1) = (n : Int) + 1 := wrap_id (by omega) (by omega)
theorem w_sub1 (n : Nat) (h : n ≤ 1000) : wrap64 ((n : Int) - 1) = (n : Int) - 1 := wrap_id (by omega) (by omega)
theorem chains_loop {t : List S30} (ht : treeB t = true) (n : Int) (l : List Int) (hl : l.length ≤ 61) (D : Int) (K : Nat) (hD : ∀ k, K ≤ k → impl_DueOf.f k t n = some D) (hC : ∀ k, K ≤ k → ∀ u, impl_ChildrenOf.f k t u = some (childB t u)) (hK : 100 ≤ K) :
    ∀ (m : Nat) (A : List Int) (x d : Int) (k : Nat), l = A ++ chainF t m x → 0 ≤ x → x < (t.length : Int) → x < m → (∀ _ : Nat, D = dueL t (chainF t m x) d) → K + 4 * m + 1 < k → laws_FnChains.l0 k t n l d (A.length : Int) = some true := by
  intro m
  induction m with
  | zero => intro A x d k _ h0 h1 h2; omega
  | succ m ih =>
    intro A x d k he h0 h1 h2 hd hk
    obtain ⟨k, rfl⟩ : ∃ q, k = q + 4 := ⟨k - 4, by omega⟩
    have hk1 : K + 1 ≤ k := by omega
    have hu := treeB_up ht x h0 h1
    have hlen := treeB_len ht
    have hne : chainF t (m + 1) x = x :: (if (rd_T30 t x).f0 = 0 ∨ (rd_T30 t x).f0 = 4 then [] else chainF t m (rd_T30 t x).f1) := rfl
    have hLL : l.length = A.length + (chainF t (m + 1) x).length := by rw [he]; simp
    have hrx : rd l (A.length : Int) = x := by
      unfold rd
      rw [he, hne]
      simp
    have hcl : 1 ≤ (chainF t (m + 1) x).length := by rw [hne]; simp
    have hmn : ∀ _ : Nat, (if (rd_T30 t x).f2 < d then (rd_T30 t x).f2 else d) = mn d (rd_T30 t x).f2 := fun _ => by
      unfold mn
      rfl
    have hd' : ∀ _ : Nat, D = dueL t (if (rd_T30 t x).f0 = 0 ∨ (rd_T30 t x).f0 = 4 then [] else chainF t m (rd_T30 t x).f1) (mn d (rd_T30 t x).f2) := fun _ => by
      rw [hd 0, hne]
      rfl
    have hAl : A.length < l.length := Nat.lt_of_lt_of_le (Nat.lt_add_of_pos_right hcl) (Nat.le_of_eq hLL.symm)
    have hAl2 : (A.length : Int) < (l.length : Int) := Int.ofNat_lt.mpr hAl
    have hA0 : (0 : Int) ≤ (A.length : Int) := Int.natCast_nonneg _
    have w1 := w_add1 A.length (Nat.le_trans (Nat.le_of_lt hAl) (Nat.le_trans hl (by decide)))
    have w2 := w_sub1 l.length (Nat.le_trans hl (by decide))
    rw [laws_FnChains.l0, if_pos hAl2, if_pos hA0, hrx, if_neg (Int.not_lt.mpr h0), decide_eq_false (Int.not_le.mpr h1)]
    rw [laws_FnChains.j3, if_neg (by simp), if_pos hA0, if_pos hAl2, hrx, if_pos h0, if_pos h1]
    by_cases hend : (rd_T30 t x).f0 = 0 ∨ (rd_T30 t x).f0 = 4
    · have hl1 : (chainF t (m + 1) x).length = 1 := by rw [hne, if_pos hend]; rfl
      have hd'' : ∀ _ : Nat, D = mn d (rd_T30 t x).f2 := fun _ => by
        have q := hd' 0
        rw [if_pos hend] at q
        exact q
      clear hd' hd
      have hll : l.length = A.length + 1 := hLL.trans (by rw [hl1])
      have hz : (l.length : Int) = (A.length : Int) + 1 := by rw [hll]; exact Int.natCast_succ _
      have hbt : ((A.length : Int) == (l.length : Int) - 1) = true := by
        rw [hz, Int.add_sub_cancel]
        exact beq_self_eq_true _
      have j5 : ∀ d' y0 y1 y2 y3 y4, D = d' → laws_FnChains.j5 (k + 1) t n l d' (A.length : Int) true y0 y1 y2 y3 y4 = some true := fun d' y0 y1 y2 y3 y4 e => by
        rw [laws_FnChains.j5, w1, w2, hbt, if_neg (by simp), if_pos rfl]
        cases k with
        | zero => exact absurd hk1 (Nat.not_succ_le_zero _)
        | succ k =>
          rw [laws_FnChains.l0, if_neg (by rw [hz]; exact Int.lt_irrefl _), hD k (Nat.le_of_succ_le_succ hk1)]
          simp [e]
      have j4 : laws_FnChains.j4 (k + 1 + 1) t n l d (A.length : Int) true (rd_T30 t x).f0 (rd_T30 t x).f1 (rd_T30 t x).f2 (rd_T30 t x).f3 (rd_T30 t x).f4 = some true := by
        rw [laws_FnChains.j4]
        by_cases c : (rd_T30 t x).f2 < d
        · have q := hmn 0
          rw [if_pos c] at q ⊢
          exact j5 _ _ _ _ _ _ (by rw [hd'' 0, ← q])
        · have q := hmn 0
          rw [if_neg c] at q ⊢
          exact j5 _ _ _ _ _ _ (by rw [hd'' 0, ← q])
      by_cases h00 : (rd_T30 t x).f0 = 0
      · rw [if_pos h00]; exact j4
      · rw [if_neg h00, show ((rd_T30 t x).f0 == 4) = true from beq_iff_eq.mpr (hend.resolve_left h00)]
        exact j4
    · have hup := hu.2.2 (by omega)
      have hm1 : 1 ≤ m := by omega
      obtain ⟨m', rfl⟩ : ∃ q, m = q + 1 := ⟨m - 1, by omega⟩
      have hd'' : ∀ _ : Nat, D = dueL t (chainF t (m' + 1) (rd_T30 t x).f1) (mn d (rd_T30 t x).f2) := fun _ => by
        have q := hd' 0
        rw [if_neg hend] at q
        exact q
      clear hd' hd
      have he2 : l = (A ++ [x]) ++ chainF t (m' + 1) (rd_T30 t x).f1 := by
        rw [he, hne, if_neg hend]
        simp
      have hl2 : l.length = A.length + 1 + (chainF t (m' + 1) (rd_T30 t x).f1).length := by rw [he2]; simp; omega
      have hl3 : 1 ≤ (chainF t (m' + 1) (rd_T30 t x).f1).length := by unfold chainF; simp
      have hrx2 : rd l ((A.length : Int) + 1) = (rd_T30 t x).f1 := by
        have e3 : ((A.length : Int) + 1).toNat = (A ++ [x]).length := by simp
        unfold rd
        rw [e3, he2]
        unfold chainF
        simp
      have hA : ((A ++ [x]).length : Int) = (A.length : Int) + 1 := by simp
      have hmem : x ∈ childB t (rd_T30 t x).f1 := by
        unfold childB
        rw [if_pos (hasB_iff.2 ⟨ht, hup, by omega⟩)]
        exact childF_mem t _ x rfl t.length 0 (by omega) (by omega)
      have hcb := childB_length t (rd_T30 t x).f1
      have j5 : ∀ d' y0 y2 y3 y4, (∀ _ : Nat, D = dueL t (chainF t (m' + 1) (rd_T30 t x).f1) d') → laws_FnChains.j5 (k + 1) t n l d' (A.length : Int) false y0 (rd_T30 t x).f1 y2 y3 y4 = some true := fun d' y0 y2 y3 y4 e => by
        have hb : ((A.length : Int) == (l.length : Int) - 1) = false := by
          rw [beq_eq_false_iff_ne]
          omega
        have hlp := has_loop (childB t (rd_T30 t x).f1) x (by omega) (childB t (rd_T30 t x).f1).length 0 k (by omega) (by omega) (by simpa using hmem)
        rw [laws_FnChains.j5, w1, w2, hb, if_neg (by simp), if_neg (by simp), if_pos (by omega), if_pos (by omega), hrx2, if_pos rfl, hC k (by omega)]
        simp only [Option.bind_some]
        rw [if_pos (by omega), if_pos (by omega), hrx]
        unfold laws_has.f
        rw [show ((0 : Nat) : Int) = 0 from rfl] at hlp
        rw [hlp]
        simp only [Option.bind_some]
        rw [if_pos trivial, ← hA]
        exact ih (A ++ [x]) (rd_T30 t x).f1 d' k he2 hup (by omega) (by omega) e (by omega)
      have j4 : laws_FnChains.j4 (k + 1 + 1) t n l d (A.length : Int) false (rd_T30 t x).f0 (rd_T30 t x).f1 (rd_T30 t x).f2 (rd_T30 t x).f3 (rd_T30 t x).f4 = some true := by
        rw [laws_FnChains.j4]
        by_cases c : (rd_T30 t x).f2 < d
        · have q := hmn 0
          rw [if_pos c] at q ⊢
          exact j5 _ _ _ _ _ (fun _ => by rw [hd'' 0, ← q])
        · have q := hmn 0
          rw [if_neg c] at q ⊢
          exact j5 _ _ _ _ _ (fun _ => by rw [hd'' 0, ← q])
      have h00 : ¬ (rd_T30 t x).f0 = 0 := fun h => hend (Or.inl h)
      rw [if_neg h00, show ((rd_T30 t x).f0 == 4) = false from beq_eq_false_iff_ne.mpr (fun h => hend (Or.inr h))]
      exact j4
theorem FnChains : ∀ (l0 : List Int), l0.length ≤ 9223372036854775807 → (∀ x_ ∈ l0, wfu8 x_) → ∃ k, laws_FnChains.f k l0 = some true := by
  intro b _ _
  by_cases hb : b.length ≤ 4096
  · obtain ⟨t, n, hd, ht⟩ := drawChainOf_ok b hb
    have hbig : laws_big.f b = some false := by
      unfold laws_big.f
      rw [decide_eq_false (by omega)]
    obtain ⟨K, q⟩ := both (spec_tree t (by omega)) (both (impl_chainof t n (by omega)) (both (impl_due t n (by omega)) (impl_childrenA t (by omega))))
    obtain ⟨M, hM⟩ : ∃ M, M = K + 5000 := ⟨_, rfl⟩
    refine ⟨M + 2, ?_⟩
    unfold laws_FnChains.f
    rw [hbig]
    rw [Option.bind_some, if_neg (by simp), hd _ (by omega), Option.bind_some, (q (M + 2) (by omega)).2.1, Option.bind_some, (q (M + 2) (by omega)).1, Option.bind_some]
    show (if treeB t = true then (if n < 0 then laws_FnChains.j0 (M + 2) t n (chainB t n) true else laws_FnChains.j0 (M + 2) t n (chainB t n) (decide (n ≥ (t.length : Int)))) else laws_FnChains.j0 (M + 2) t n (chainB t n) true) = some true
    by_cases h : hasB t n = true
    · obtain ⟨c0, c1, c2⟩ := hasB_iff.1 h
      have e : chainB t n = chainF t 61 n := by
        unfold chainB
        rw [if_pos h]
      have e1 : (chainF t 61 n).length ≤ 61 := chainF_length t 61 n
      have e2 : rd (chainF t 61 n) 0 = n := by
        unfold rd chainF
        simp
      have e3 : 1 ≤ (chainF t 61 n).length := by unfold chainF; simp
      have hl := treeB_len c0
      rw [if_pos c0, if_neg (by omega), decide_eq_false (by omega), e]
      rw [laws_FnChains.j0, if_neg (by simp), if_neg (by omega), if_pos (by omega), e2, bne_self_eq_false, laws_FnChains.j1, if_neg (by simp)]
      exact chains_loop c0 n (chainF t 61 n) e1 (dueB t n) (K + 100) (fun k hk => (q k (by omega)).2.2.1) (fun k hk => (q k (by omega)).2.2.2) (by omega) 61 [] n 9223372036854775807 M (by simp) c1 c2 (by omega) (fun _ => by unfold dueB; rw [if_pos h]) (by omega)
    · have j : laws_FnChains.j0 (M + 2) t n (chainB t n) true = some true := by
        have e : chainB t n = [] := by
          unfold chainB
          rw [if_neg h]
        have e2 : dueB t n = 9223372036854775807 := by
          unfold dueB
          rw [if_neg h]
        rw [laws_FnChains.j0, if_pos rfl, e, if_pos (by simp), (q (M + 1) (by omega)).2.2.1, e2, Option.bind_some]
        rfl
      by_cases c0 : treeB t = true
      · rw [if_pos c0]
        by_cases c1 : n < 0
        · rw [if_pos c1]; exact j
        · rw [if_neg c1, decide_eq_true (by
            apply Decidable.byContradiction
            intro c2
            exact h (hasB_iff.2 ⟨c0, by omega, by omega⟩))]
          exact j
      · rw [if_neg c0]; exact j
  · refine ⟨0, ?_⟩
    unfold laws_FnChains.f laws_big.f
    simp only [Option.bind_some]
    rw [if_pos (by simp; omega)]
end Go.Proofs.Ytcndchcepajmjaa.Pure
