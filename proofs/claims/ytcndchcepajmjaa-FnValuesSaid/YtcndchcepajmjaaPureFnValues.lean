/- A value added below a node is the one found at nodes below it, across a cut, the next key has the last added value, and what was found before stays; for all drawn trees, nodes and keys; no condition. -/
import Derived.Test.YtcndchcepajmjaaOpen
import Derived.Test.YtcndchcepajmjaaPLib
import Derived.Test.YtcndchcepajmjaaPFnValuesx6
namespace Go.Proofs.Ytcndchcepajmjaa.Pure
open Go.RowKit Go.Proofs.YtcndchcepajmjaaOpen Go.Proofs.YtcndchcepajmjaaPLib Go.Proofs.Ytcndchcepajmjaa.PFnValues Go.Proofs.YtcndchcepajmjaaW.PrintWords Go.Proofs.YtcndchcepajmjaaW.PrintLast
set_option linter.unusedVariables false
set_option linter.unusedSimpArgs false

theorem l1In_eq (a b c : Int) : spec_l1In.f a b c = some (btw a b c) := by
  unfold spec_l1In.f btw
  by_cases h : b ≤ a
  · rw [if_pos h]; simp [h]
  · rw [if_neg h]; simp [h]
theorem within_eq (a b c : Int) : impl_within.f a b c = some (btw a b c) := by
  unfold impl_within.f btw
  by_cases h : b ≤ a
  · rw [if_pos h]; simp [h]
  · rw [if_neg h]; simp [h]
/-- What the document asks of a node for itself. -/
def ownB (x : S30) : Bool := ((x.f0 == 2) || (x.f2 == 9223372036854775807)) && (if x.f0 = 3 then btw x.f3 1 9 && btw x.f4 0 999 else btw x.f0 0 4 && ((x.f3 == 0) && (x.f4 == 0)))
/-- What it asks of the node above it. -/
def upB (x : S30) (i : Int) : Bool := if x.f0 = 0 then x.f1 == -1 else btw x.f1 0 (i - 1)
def nodeAt (x : S30) (i : Int) : Bool := ownB x && upB x i
theorem spec_node (k : Nat) (x : S30) : spec_l5Node.f (k + 1) x.f0 x.f1 x.f2 x.f3 x.f4 = some (ownB x) := by
  unfold spec_l5Node.f ownB
  simp only [spec_l5Node.j0, l1In_eq, Option.bind_some]
  by_cases h2 : x.f0 = 2
  · have h3 : ¬ x.f0 = 3 := by omega
    cases hk : btw x.f0 0 4 <;> by_cases hf : x.f3 = 0 <;> simp_all
  · by_cases h3 : x.f0 = 3
    · cases hk : btw x.f3 1 9 <;> by_cases hd : x.f2 = 9223372036854775807 <;> simp_all
    · cases hk : btw x.f0 0 4 <;> by_cases hf : x.f3 = 0 <;> by_cases hd : x.f2 = 9223372036854775807 <;> simp_all
theorem impl_node (k : Nat) (x : S30) (i : Int) (h0 : 0 ≤ i) (h1 : i ≤ 9223372036854775807) : impl_Node_isNode.f (k + 2) x.f0 x.f1 x.f2 x.f3 x.f4 i = some (nodeAt x i) := by
  unfold impl_Node_isNode.f nodeAt ownB upB
  simp only [impl_Node_isNode.j0, impl_Node_isNode.j1, within_eq, Option.bind_some]
  rw [wrap_id (by omega) (by omega)]
  by_cases h2 : x.f0 = 2
  · have h3 : ¬ x.f0 = 3 := by omega
    have h0 : ¬ x.f0 = 0 := by omega
    have hk : btw x.f0 0 4 = true := btw_iff.2 (by omega)
    cases hu : btw x.f1 0 (i - 1) <;> by_cases hf : x.f3 = 0 <;> simp_all
  · by_cases h3 : x.f0 = 3
    · have h0 : ¬ x.f0 = 0 := by omega
      have hk : btw x.f0 0 4 = true := btw_iff.2 (by omega)
      cases hu : btw x.f1 0 (i - 1) <;> cases hk : btw x.f3 1 9 <;> by_cases hd : x.f2 = 9223372036854775807 <;> simp_all
    · cases hk : btw x.f0 0 4
      · simp_all
      · by_cases h0 : x.f0 = 0
        · by_cases hu : x.f1 = -1 <;> by_cases hf : x.f3 = 0 <;> by_cases hd : x.f2 = 9223372036854775807 <;> simp_all
        · cases hu : btw x.f1 0 (i - 1) <;> by_cases hf : x.f3 = 0 <;> by_cases hd : x.f2 = 9223372036854775807 <;> simp_all
/-- Nodes are a tree. -/
def treeB (t : List S30) : Bool := decide (t.length ≤ 60) && allFrom (fun i => nodeAt (rd_T30 t i) i) t.length 0
theorem spec_tree (t : List S30) (hn : t.length ≤ 9223372036854775807) : ∃ K, ∀ k, K ≤ k → spec_TreeOk.f k t = some (treeB t) := by
  unfold treeB
  by_cases h : t.length ≤ 60
  · obtain ⟨K, e⟩ := ev_all (fun k i => spec_TreeOk.l0 k t i) (fun i => nodeAt (rd_T30 t i) i) t.length 1
      (fun k i hk h0 h1 => by
        obtain ⟨k, rfl⟩ : ∃ q, k = q + 1 := ⟨k - 1, by omega⟩
        show spec_TreeOk.l0 (k + 1 + 1) t i = _
        unfold nodeAt upB
        simp only [spec_TreeOk.l0, spec_node k, l1In_eq, Option.bind_some]
        rw [if_pos h1, if_pos h0, wrap_id (x := i - 1) (by omega) (by omega)]
        cases ownB (rd_T30 t i) with
        | false => simp
        | true => by_cases hf : (rd_T30 t i).f0 = 0 <;> simp [hf])
      (fun k i h => by show spec_TreeOk.l0 (k + 1) t i = _; simp only [spec_TreeOk.l0]; rw [if_neg h]) hn
    refine ⟨K, fun k hk => ?_⟩
    unfold spec_TreeOk.f
    rw [if_neg (by omega), decide_eq_true h, Bool.true_and]
    exact e k hk
  · refine ⟨0, fun k _ => ?_⟩
    unfold spec_TreeOk.f
    rw [if_pos (by omega)]
    simp [h]
theorem impl_tree (t : List S30) (hn : t.length ≤ 9223372036854775807) : ∃ K, ∀ k, K ≤ k → impl_TreeOk.f k t = some (treeB t) := by
  have e := ev_all (fun k i => impl_TreeOk.l0 k t (t.length : Int) i) (fun i => !(i == 60) && nodeAt (rd_T30 t i) i) t.length 2
      (fun k i hk h0 h1 => by
        obtain ⟨k, rfl⟩ : ∃ q, k = q + 2 := ⟨k - 2, by omega⟩
        show impl_TreeOk.l0 (k + 2 + 1) t _ i = (if _ then impl_TreeOk.l0 (k + 2) t _ _ else _)
        generalize hw : impl_TreeOk.l0 (k + 2) t (t.length : Int) (wrap64 (i + 1)) = R
        rw [impl_TreeOk.l0, impl_node k _ i h0 (by omega), hw]
        simp only [Option.bind_some]
        rw [if_pos h1, if_pos h0, if_pos h1]
        by_cases h60 : i = 60 <;> simp [h60])
      (fun k i h => by show impl_TreeOk.l0 (k + 1) t _ i = _; simp only [impl_TreeOk.l0]; rw [if_neg h]) hn
  have hb : allFrom (fun i => !(i == 60) && nodeAt (rd_T30 t i) i) t.length 0 = treeB t := by
    unfold treeB
    rw [Bool.eq_iff_iff, Bool.and_eq_true, allFrom_iff, allFrom_iff, decide_eq_true_eq]
    constructor
    · intro h
      refine ⟨?_, fun j h0 h1 => by have := h j h0 h1; simp at this; exact this.2⟩
      apply Decidable.byContradiction
      intro hc
      have := h 60 (by omega) (by omega)
      simp at this
    · rintro ⟨hl, h⟩ j h0 h1
      have := h j h0 h1
      simp [this]
      omega
  rw [hb] at e
  exact e
theorem treeB_len {t : List S30} (h : treeB t = true) : t.length ≤ 60 := by
  unfold treeB at h
  simp at h
  exact h.1
theorem treeB_at {t : List S30} (h : treeB t = true) (i : Int) (h0 : 0 ≤ i) (h1 : i < (t.length : Int)) : ownB (rd_T30 t i) = true ∧ upB (rd_T30 t i) i = true := by
  unfold treeB at h
  rw [Bool.and_eq_true, allFrom_iff] at h
  have := h.2 i (by omega) (by omega)
  unfold nodeAt at this
  simpa using this
theorem treeB_up {t : List S30} (h : treeB t = true) (i : Int) (h0 : 0 ≤ i) (h1 : i < (t.length : Int)) : -1 ≤ (rd_T30 t i).f1 ∧ (rd_T30 t i).f1 < i ∧ (¬ (rd_T30 t i).f0 = 0 → 0 ≤ (rd_T30 t i).f1) := by
  have hu := (treeB_at h i h0 h1).2
  unfold upB at hu
  split at hu
  · rename_i hz
    have : (rd_T30 t i).f1 = -1 := by simpa using hu
    omega
  · have := btw_iff.1 hu
    omega
/-- There is that node in a right tree. -/
def hasB (t : List S30) (n : Int) : Bool := treeB t && btw n 0 ((t.length : Int) - 1)
theorem hasB_iff {t : List S30} {n : Int} : hasB t n = true ↔ treeB t = true ∧ 0 ≤ n ∧ n < (t.length : Int) := by
  unfold hasB
  rw [Bool.and_eq_true, btw_iff]
  constructor <;> rintro ⟨h1, h2, h3⟩ <;> exact ⟨h1, by omega, by omega⟩
theorem spec_hasA (t : List S30) (hn : t.length ≤ 9223372036854775807) : ∃ K, ∀ k, K ≤ k → ∀ n, spec_l5Has.f k t n = some (hasB t n) := by
  obtain ⟨K, h⟩ := spec_tree t hn
  refine ⟨K, fun k hk n => ?_⟩
  unfold spec_l5Has.f hasB
  rw [h k hk]
  simp only [Option.bind_some]
  rw [l1In_eq, wrap_id (by omega) (by omega)]
  cases treeB t <;> simp
theorem spec_has (t : List S30) (n : Int) (hn : t.length ≤ 9223372036854775807) : ∃ K, ∀ k, K ≤ k → spec_l5Has.f k t n = some (hasB t n) := by
  obtain ⟨K, h⟩ := spec_hasA t hn
  exact ⟨K, fun k hk => h k hk n⟩
theorem impl_isIn (t : List S30) (n : Int) (hn : t.length ≤ 9223372036854775807) : impl_Node_66.f n t = some (btw n 0 ((t.length : Int) - 1)) := by
  unfold impl_Node_66.f impl_Node_63.f
  simp only [Option.bind_some]
  rw [within_eq, wrap_id (by omega) (by omega)]
  rfl
/-- The value of a key at a node. -/
def valF (t : List S30) (key : Int) : Nat → Int → Int × Bool
  | 0, _ => (0, false)
  | m + 1, i => if i < 0 then (0, false) else if (rd_T30 t i).f0 = 3 ∧ (rd_T30 t i).f3 = key then ((rd_T30 t i).f4, true) else valF t key m (rd_T30 t i).f1
theorem spec_value_loop {t : List S30} (h : treeB t = true) (key : Int) : ∀ (m k : Nat) (i : Int), -1 ≤ i → i < (t.length : Int) → i + 1 < m → m ≤ k → spec_ValueIn.l0 k t key i = some (valF t key m i) := by
  intro m
  induction m with
  | zero => intro k i h0 h1 h2; omega
  | succ m ih =>
    intro k i h0 h1 h2 hk
    obtain ⟨k, rfl⟩ : ∃ q, k = q + 1 := ⟨k - 1, by omega⟩
    rw [spec_ValueIn.l0]
    unfold valF
    by_cases hi : i < 0
    · rw [if_neg (by omega), if_pos hi]
    · have hu := treeB_up h i (by omega) h1
      rw [if_pos (by omega), if_pos (by omega), if_pos h1, if_neg hi, ih k _ hu.1 (by omega) (by omega) (by omega)]
      by_cases h3 : (rd_T30 t i).f0 = 3 <;> by_cases h4 : (rd_T30 t i).f3 = key <;> simp [h3, h4]
theorem impl_value_loop {t : List S30} (h : treeB t = true) (key : Int) : ∀ (m k : Nat) (i : Int), -1 ≤ i → i < (t.length : Int) → i + 1 < m → m ≤ k → impl_valueIn.l0 k t i key = some (valF t key m i) := by
  intro m
  induction m with
  | zero => intro k i h0 h1 h2; omega
  | succ m ih =>
    intro k i h0 h1 h2 hk
    obtain ⟨k, rfl⟩ : ∃ q, k = q + 1 := ⟨k - 1, by omega⟩
    rw [impl_valueIn.l0]
    unfold valF
    by_cases hi : i < 0
    · rw [if_neg (by omega), if_pos hi]
    · have hu := treeB_up h i (by omega) h1
      rw [if_pos (by omega), if_pos (by omega), if_pos h1, if_neg hi, ih k _ hu.1 (by omega) (by omega) (by omega)]
      by_cases h3 : (rd_T30 t i).f0 = 3 <;> by_cases h4 : (rd_T30 t i).f3 = key <;> simp [h3, h4]
def valB (t : List S30) (n key : Int) : Int × Bool := if hasB t n = true then valF t key 100 n else (0, false)
theorem spec_value (t : List S30) (n key : Int) (hn : t.length ≤ 9223372036854775807) : ∃ K, ∀ k, K ≤ k → spec_ValueIn.f k t n key = some (valB t n key) := by
  obtain ⟨K, h⟩ := spec_has t n hn
  refine ⟨K + 100, fun k hk => ?_⟩
  unfold spec_ValueIn.f valB
  rw [h k (by omega)]
  simp only [Option.bind_some]
  cases hb : hasB t n with
  | false => rfl
  | true =>
    obtain ⟨ht, h0, h1⟩ := hasB_iff.1 hb
    have hl := treeB_len ht
    rw [if_pos rfl, if_pos rfl]
    exact spec_value_loop ht key 100 k n (by omega) h1 (by omega) (by omega)
theorem impl_value (t : List S30) (n key : Int) (hn : t.length ≤ 9223372036854775807) : ∃ K, ∀ k, K ≤ k → impl_ValueIn.f k t n key = some (valB t n key) := by
  obtain ⟨K, h⟩ := impl_tree t hn
  refine ⟨K + 100, fun k hk => ?_⟩
  unfold impl_ValueIn.f valB
  rw [h k (by omega)]
  simp only [Option.bind_some]
  rw [impl_isIn t n hn]
  simp only [Option.bind_some]
  cases ht : treeB t with
  | false => simp [hasB, ht]
  | true =>
    cases hb : btw n 0 ((t.length : Int) - 1) with
    | false => simp [hasB, ht, hb]
    | true =>
      have hbb : hasB t n = true := by simp [hasB, ht, hb]
      obtain ⟨_, h0, h1⟩ := hasB_iff.1 hbb
      have hl := treeB_len ht
      rw [if_pos rfl, if_pos rfl, if_pos hbb]
      unfold impl_valueIn.f
      rw [impl_value_loop ht key 100 k n (by omega) h1 (by omega) (by omega)]
      rfl
theorem and255 (n : Int) : Go.bits .and .i64 n 255 = n % 256 := by
  have h255 : (BitVec.ofInt 64 255).toNat = 2 ^ 8 - 1 := by decide
  have key : (BitVec.ofInt 64 n &&& BitVec.ofInt 64 255).toNat = (n % ((2 ^ 64 : Nat) : Int)).toNat % 2 ^ 8 := by
    rw [BitVec.toNat_and, BitVec.toNat_ofInt, h255, Nat.and_two_pow_sub_one_eq_mod]
  show IntKind.i64.wrap ((BitVec.ofInt 64 n &&& BitVec.ofInt 64 255).toNat : Nat) = n % 256
  rw [key, IntKind.wrap_i64]
  omega
theorem wrap_span (x : Int) : -9223372036854775808 ≤ wrap64 x ∧ wrap64 x ≤ 9223372036854775807 := by unfold wrap64; omega
/-- A place in the bytes of a draw. -/
def CurOk (b : List Int) (i : Int) : Prop := 0 ≤ i ∧ i ≤ (b.length : Int)
theorem byte_ok (b : List Int) (i h : Int) (hb : b.length ≤ 4096) (hc : CurOk b i) : ∃ x j g, spec_l1Byte.f b i h = some (x, j, g) ∧ 0 ≤ x ∧ x ≤ 255 ∧ CurOk b j := by
  obtain ⟨h0, h1⟩ := hc
  unfold spec_l1Byte.f
  by_cases hl : i < (b.length : Int)
  · rw [if_pos hl, if_pos h0, and255, and255]
    exact ⟨_, _, _, rfl, by omega, by omega, by unfold CurOk wrap64; omega⟩
  · rw [if_neg hl, and255]
    exact ⟨_, _, _, rfl, by omega, by omega, h0, h1⟩
theorem tmod_ok {x n : Int} (hx : 0 ≤ x) (hn : 0 < n) : 0 ≤ Int.tmod x n ∧ Int.tmod x n < n := by
  rw [Int.tmod_eq_emod_of_nonneg hx]
  exact ⟨Int.emod_nonneg x (by omega), Int.emod_lt_of_pos x hn⟩
theorem below_ok (b : List Int) (i h n : Int) (hb : b.length ≤ 4096) (hc : CurOk b i) : ∃ r j g, spec_l1Below.f b i h n = some (r, j, g) ∧ 0 ≤ r ∧ (0 < n → r < n) ∧ (n ≤ 0 → r = 0) ∧ CurOk b j := by
  unfold spec_l1Below.f
  by_cases h0 : n ≤ 0
  · rw [if_pos h0]
    exact ⟨_, _, _, rfl, by omega, by omega, fun _ => rfl, hc⟩
  · rw [if_neg h0]
    by_cases h1 : n ≤ 256
    · obtain ⟨x, j, g, e, hx0, hx1, hj⟩ := byte_ok b i h hb hc
      rw [if_pos h1, e]
      simp only [Option.bind_some]
      rw [if_neg (by omega)]
      have ht := tmod_ok hx0 (show 0 < n by omega)
      exact ⟨_, _, _, rfl, ht.1, fun _ => ht.2, by omega, hj⟩
    · obtain ⟨x, j, g, e, hx0, hx1, hj⟩ := byte_ok b i h hb hc
      obtain ⟨x2, j2, g2, e2, hy0, hy1, hj2⟩ := byte_ok b j g hb hj
      obtain ⟨x3, j3, g3, e3, hz0, hz1, hj3⟩ := byte_ok b j2 g2 hb hj2
      obtain ⟨x4, j4, g4, e4, hw0, hw1, hj4⟩ := byte_ok b j3 g3 hb hj3
      rw [if_neg h1, e]
      simp only [Option.bind_some]
      rw [e2]
      simp only [Option.bind_some]
      rw [e3]
      simp only [Option.bind_some]
      rw [e4]
      simp only [Option.bind_some]
      rw [if_neg (by omega)]
      have hs : 0 ≤ wrap64 (wrap64 (wrap64 (wrap64 (x * 16777216) + wrap64 (x2 * 65536)) + wrap64 (x3 * 256)) + x4) := by unfold wrap64; omega
      have ht := tmod_ok hs (show 0 < n by omega)
      exact ⟨_, _, _, rfl, ht.1, fun _ => ht.2, by omega, hj4⟩
theorem new_loop (b : List Int) (hb : b.length ≤ 4096) : ∀ (m j : Nat) (x : Int), j + m = b.length → ∃ g, ∀ k, m < k → spec_l1New.l0 k b x (j : Int) = some (b, 0, g) := by
  intro m
  induction m with
  | zero =>
    intro j x hj
    refine ⟨x, fun k hk => ?_⟩
    obtain ⟨k, rfl⟩ : ∃ q, k = q + 1 := ⟨k - 1, by omega⟩
    rw [spec_l1New.l0, if_neg (by omega)]
  | succ m ih =>
    intro j x hj
    obtain ⟨g, hg⟩ := ih (j + 1) (Go.bits .and .i64 (wrap64 ((wrap64 ((wrap64 (x * 173)) + (wrap64 (rd b (j : Int))))) + 11)) 1073741823) (by omega)
    refine ⟨g, fun k hk => ?_⟩
    obtain ⟨k, rfl⟩ : ∃ q, k = q + 1 := ⟨k - 1, by omega⟩
    rw [spec_l1New.l0, if_pos (by omega), if_pos (by omega)]
    have := hg k (by omega)
    rw [wrap_id (x := (j : Int) + 1) (by omega) (by omega)]
    rw [show ((j : Int) + 1) = ((j + 1 : Nat) : Int) by omega]
    exact this
theorem new_ok (b : List Int) (hb : b.length ≤ 4096) : ∃ g, ∀ k, 4097 ≤ k → spec_l1New.f k b = some (b, 0, g) := by
  obtain ⟨g, hg⟩ := new_loop b hb b.length 0 (wrap64 (314159 + (b.length : Int))) (by omega)
  refine ⟨g, fun k hk => ?_⟩
  unfold spec_l1New.f
  exact hg k (by omega)
theorem curOk0 (b : List Int) : CurOk b 0 := ⟨Int.le_refl _, by omega⟩
theorem odd_ok (b : List Int) (i h : Int) (hb : b.length ≤ 4096) (hc : CurOk b i) : ∃ r j g, spec_l1Odd.f b i h = some (r, j, g) ∧ -9223372036854775808 ≤ r ∧ r ≤ 9223372036854775807 ∧ CurOk b j := by
  obtain ⟨r, j, g, e, h0, h1, _, hj⟩ := below_ok b i h 10 hb hc
  have h2 := h1 (by omega)
  unfold spec_l1Odd.f
  simp only [Option.bind_some]
  rw [e]
  simp only [Option.bind_some]
  rw [if_pos h0, if_pos (by simp; omega)]
  refine ⟨_, _, _, rfl, ?_, ?_, hj⟩
  · have : r = 0 ∨ r = 1 ∨ r = 2 ∨ r = 3 ∨ r = 4 ∨ r = 5 ∨ r = 6 ∨ r = 7 ∨ r = 8 ∨ r = 9 := by omega
    rcases this with rfl | rfl | rfl | rfl | rfl | rfl | rfl | rfl | rfl | rfl <;> decide
  · have : r = 0 ∨ r = 1 ∨ r = 2 ∨ r = 3 ∨ r = 4 ∨ r = 5 ∨ r = 6 ∨ r = 7 ∨ r = 8 ∨ r = 9 := by omega
    rcases this with rfl | rfl | rfl | rfl | rfl | rfl | rfl | rfl | rfl | rfl <;> decide
theorem draw2_ok (b : List Int) (i h : Int) (hb : b.length ≤ 4096) (hc : CurOk b i) : ∃ r j g, spec_l2Draw.f b i h = some (r, j, g) ∧ -9223372036854775808 ≤ r ∧ r ≤ 9223372036854775807 ∧ CurOk b j := by
  obtain ⟨q, j, g, e, _, _, _, hj⟩ := below_ok b i h 4 hb hc
  unfold spec_l2Draw.f
  rw [e]
  simp only [Option.bind_some]
  by_cases q0 : q = 0
  · obtain ⟨r, j2, g2, e2, h0, h1, hj2⟩ := odd_ok b j g hb hj
    rw [if_pos q0, e2]
    exact ⟨r, j2, g2, rfl, h0, h1, hj2⟩
  · rw [if_neg q0]
    by_cases q1 : q = 1
    · obtain ⟨r, j2, g2, e2, h0, h1, _, hj2⟩ := below_ok b j g 5 hb hj
      rw [if_pos q1, e2]
      exact ⟨_, j2, g2, rfl, (wrap_span _).1, (wrap_span _).2, hj2⟩
    · rw [if_neg q1]
      by_cases q2 : q = 2
      · obtain ⟨r, j2, g2, e2, h0, h1, _, hj2⟩ := below_ok b j g 5 hb hj
        unfold spec_l2Least.f
        rw [if_pos q2]
        simp only [Option.bind_some]
        rw [e2]
        exact ⟨_, j2, g2, rfl, (wrap_span _).1, (wrap_span _).2, hj2⟩
      · unfold spec_l1From.f
        rw [if_neg q2]
        obtain ⟨r, j2, g2, e2, h0, h1, _, hj2⟩ := below_ok b j g (wrap64 ((wrap64 (30 - -9)) + 1)) hb hj
        rw [e2]
        exact ⟨_, j2, g2, rfl, (wrap_span _).1, (wrap_span _).2, hj2⟩
theorem once_ok (b : List Int) (i h n : Int) (hb : b.length ≤ 4096) (hc : CurOk b i) : ∃ r j g, spec_l1Once.f b i h n = some (r, j, g) ∧ CurOk b j := by
  obtain ⟨r, j, g, e, _, _, _, hj⟩ := below_ok b i h n hb hc
  unfold spec_l1Once.f
  rw [e]
  exact ⟨_, _, _, rfl, hj⟩
theorem from_ok (b : List Int) (i h lo hi : Int) (hb : b.length ≤ 4096) (hc : CurOk b i) (h0 : -1000000 ≤ lo) (h1 : lo ≤ hi) (h2 : hi ≤ 1000000) : ∃ r j g, spec_l1From.f b i h lo hi = some (r, j, g) ∧ lo ≤ r ∧ r ≤ hi ∧ CurOk b j := by
  unfold spec_l1From.f
  rw [wrap_id (x := hi - lo) (by omega) (by omega), wrap_id (x := hi - lo + 1) (by omega) (by omega)]
  obtain ⟨r, j, g, e, r0, r1, _, hj⟩ := below_ok b i h (hi - lo + 1) hb hc
  have := r1 (by omega)
  rw [e]
  refine ⟨_, _, _, rfl, ?_, ?_, hj⟩
  · show lo ≤ wrap64 (lo + r)
    rw [wrap_id (by omega) (by omega)]
    omega
  · show wrap64 (lo + r) ≤ hi
    rw [wrap_id (by omega) (by omega)]
    omega
theorem min_ok (a c : Int) : spec_l1Min.f a c = some (if a < c then a else c) := by
  unfold spec_l1Min.f
  split <;> rfl
theorem drawNode_ok (b : List Int) (i h n : Int) (hb : b.length ≤ 4096) (hc : CurOk b i) : ∃ x0 x1 x2 x3 x4 j g, spec_l5DrawNode.f b i h n = some (x0, x1, x2, x3, x4, j, g) ∧ CurOk b j := by
  obtain ⟨k, j, g, e, k0, k1, hj⟩ := from_ok b i h 1 4 hb hc (by omega) (by omega) (by omega)
  obtain ⟨u, j2, g2, e2, _, _, _, hj2⟩ := below_ok b j g (if n < 4 then n else 4) hb hj
  unfold spec_l5DrawNode.f
  rw [e]
  simp only [Option.bind_some, min_ok]
  rw [e2]
  simp only [Option.bind_some]
  by_cases q2 : k = 2
  · obtain ⟨d, j3, g3, e3, _, _, _, hj3⟩ := below_ok b j2 g2 16 hb hj2
    obtain ⟨o, j4, g4, e4, hj4⟩ := once_ok b j3 g3 10 hb hj3
    rw [if_pos q2, e3]
    simp only [Option.bind_some]
    rw [e4]
    simp only [Option.bind_some]
    cases o
    · exact ⟨_, _, _, _, _, _, _, rfl, hj4⟩
    · obtain ⟨z, j5, g5, e5, _, _, hj5⟩ := draw2_ok b j4 g4 hb hj4
      rw [if_pos rfl, e5]
      exact ⟨_, _, _, _, _, _, _, rfl, hj5⟩
  · rw [if_neg q2]
    by_cases q3 : k = 3
    · obtain ⟨d, j3, g3, e3, _, _, _, hj3⟩ := below_ok b j2 g2 3 hb hj2
      obtain ⟨o, j4, g4, e4, _, _, _, hj4⟩ := below_ok b j3 g3 9 hb hj3
      rw [if_pos q3, e3]
      simp only [Option.bind_some]
      rw [e4]
      exact ⟨_, _, _, _, _, _, _, rfl, hj4⟩
    · rw [if_neg q3]
      by_cases q4 : k = 4
      · obtain ⟨o, j4, g4, e4, hj4⟩ := once_ok b j2 g2 3 hb hj2
        rw [if_pos q4, e4]
        simp only [Option.bind_some]
        cases o <;> exact ⟨_, _, _, _, _, _, _, rfl, hj4⟩
      · rw [if_neg q4]
        exact ⟨_, _, _, _, _, _, _, rfl, hj2⟩
theorem drawTree_l1 (b : List Int) (hb : b.length ≤ 4096) : ∀ (m : Nat) (t : List S30) (x i h : Int), x ≤ m → m ≤ 60 → t.length + m ≤ 1000000 → CurOk b i → ∃ t' j g, (∀ k, m < k → spec_l5Draw.l1 k t x b i h = some (t', j, g)) ∧ CurOk b j ∧ t.length ≤ t'.length ∧ t'.length ≤ t.length + m := by
  intro m
  induction m with
  | zero =>
    intro t x i h hx _ ht hc
    refine ⟨t, i, h, fun k hk => ?_, hc, by omega, by omega⟩
    obtain ⟨k, rfl⟩ : ∃ q, k = q + 1 := ⟨k - 1, by omega⟩
    rw [spec_l5Draw.l1, if_neg (by omega)]
  | succ m ih =>
    intro t x i h hx hm ht hc
    by_cases h0 : x > 0
    · obtain ⟨x0, x1, x2, x3, x4, j, g, e, hj⟩ := drawNode_ok b i h (t.length : Int) hb hc
      obtain ⟨t', j', g', e', hc', hl, hl'⟩ := ih (t ++ [⟨x0, x1, x2, x3, x4⟩]) (x - 1) j g (by omega) (by omega) (by simp; omega) hj
      refine ⟨t', j', g', fun k hk => ?_, hc', by simp at hl; omega, by simp at hl'; omega⟩
      obtain ⟨k, rfl⟩ : ∃ q, k = q + 1 := ⟨k - 1, by omega⟩
      rw [spec_l5Draw.l1, if_pos h0, e]
      simp only [Option.bind_some]
      rw [if_pos (by omega), wrap_id (by omega) (by omega)]
      exact e' k (by omega)
    · refine ⟨t, i, h, fun k hk => ?_, hc, by omega, by omega⟩
      obtain ⟨k, rfl⟩ : ∃ q, k = q + 1 := ⟨k - 1, by omega⟩
      rw [spec_l5Draw.l1, if_neg h0]
theorem drawTree_end (b : List Int) (hb : b.length ≤ 4096) (t : List S30) (x i h : Int) (h0 : ¬ x > 0) (ht : t.length ≤ 1000) (hc : CurOk b i) : ∃ t' j g, (∀ k, 62 < k → spec_l5Draw.l0 k t x b i h = some (t', j, g)) ∧ CurOk b j ∧ t.length ≤ t'.length ∧ t'.length ≤ t.length + 60 := by
  obtain ⟨o, j, g, e, hj⟩ := once_ok b i h 40 hb hc
  cases o
  · refine ⟨t, j, g, fun k hk => ?_, hj, by omega, by omega⟩
    obtain ⟨k, rfl⟩ : ∃ q, k = q + 1 := ⟨k - 1, by omega⟩
    rw [spec_l5Draw.l0, if_neg h0, e]
    rfl
  · obtain ⟨r, j2, g2, e2, r0, _, _, hj2⟩ := below_ok b j g 2 hb hj
    have hr : r ≤ 1 := by
      obtain ⟨r', j', g', e', _, r1, _, _⟩ := below_ok b j g 2 hb hj
      rw [e2] at e'
      injection e' with e'
      injection e' with e' _
      have := r1 (by omega)
      omega
    obtain ⟨t', j', g', e', hc', hl, hl'⟩ := drawTree_l1 b hb 60 t (60 - (t.length : Int) - r) j2 g2 (by omega) (by omega) (by omega) hj2
    refine ⟨t', j', g', fun k hk => ?_, hc', hl, hl'⟩
    obtain ⟨k, rfl⟩ : ∃ q, k = q + 1 := ⟨k - 1, by omega⟩
    rw [spec_l5Draw.l0, if_neg h0, e]
    simp only [Option.bind_some]
    rw [if_pos trivial, e2]
    simp only [Option.bind_some]
    rw [wrap_id (x := 60 - (t.length : Int)) (by omega) (by omega), wrap_id (by omega) (by omega)]
    exact e' k (by omega)
theorem drawTree_l0 (b : List Int) (hb : b.length ≤ 4096) : ∀ (m : Nat) (t : List S30) (x i h : Int), x ≤ m → m ≤ 20 → t.length + m ≤ 1000 → CurOk b i → ∃ t' j g, (∀ k, m + 62 < k → spec_l5Draw.l0 k t x b i h = some (t', j, g)) ∧ CurOk b j ∧ t.length ≤ t'.length ∧ t'.length ≤ t.length + m + 60 := by
  intro m
  induction m with
  | zero =>
    intro t x i h hx _ ht hc
    obtain ⟨t', j, g, e, q, hl, hl'⟩ := drawTree_end b hb t x i h (by omega) (by omega) hc
    exact ⟨t', j, g, fun k hk => e k (by omega), q, hl, by omega⟩
  | succ m ih =>
    intro t x i h hx hm ht hc
    by_cases h0 : x > 0
    · obtain ⟨o, j, g, e, hj⟩ := once_ok b i h 12 hb hc
      cases o
      · obtain ⟨x0, x1, x2, x3, x4, j2, g2, e2, hj2⟩ := drawNode_ok b j g (t.length : Int) hb hj
        obtain ⟨t', j', g', e', hc', hl, hl'⟩ := ih (t ++ [⟨x0, x1, x2, x3, x4⟩]) (x - 1) j2 g2 (by omega) (by omega) (by simp; omega) hj2
        refine ⟨t', j', g', fun k hk => ?_, hc', by simp at hl; omega, by simp at hl'; omega⟩
        obtain ⟨k, rfl⟩ : ∃ q, k = q + 1 := ⟨k - 1, by omega⟩
        rw [spec_l5Draw.l0, if_pos h0, e]
        simp only [Option.bind_some]
        rw [if_neg (by simp), e2]
        simp only [Option.bind_some]
        rw [if_pos (by omega), wrap_id (by omega) (by omega)]
        exact e' k (by omega)
      · obtain ⟨t', j', g', e', hc', hl, hl'⟩ := ih (t ++ [⟨0, -1, 9223372036854775807, 0, 0⟩]) (x - 1) j g (by omega) (by omega) (by simp; omega) hj
        refine ⟨t', j', g', fun k hk => ?_, hc', by simp at hl; omega, by simp at hl'; omega⟩
        obtain ⟨k, rfl⟩ : ∃ q, k = q + 1 := ⟨k - 1, by omega⟩
        rw [spec_l5Draw.l0, if_pos h0, e]
        simp only [Option.bind_some]
        rw [if_pos trivial, if_pos (by omega), wrap_id (by omega) (by omega)]
        exact e' k (by omega)
    · obtain ⟨t', j, g, e, q, hl, hl'⟩ := drawTree_end b hb t x i h h0 (by omega) hc
      exact ⟨t', j, g, fun k hk => e k (by omega), q, hl, by omega⟩
theorem drawTree_ok (b : List Int) (i h : Int) (hb : b.length ≤ 4096) (hc : CurOk b i) : ∃ t j g, (∀ k, 100 < k → spec_l5Draw.f k b i h = some (t, j, g)) ∧ CurOk b j ∧ 1 ≤ t.length ∧ t.length ≤ 1000 := by
  obtain ⟨r, j, g, e, r0, r1, _, hj⟩ := below_ok b i h 9 hb hc
  have := r1 (by omega)
  obtain ⟨t', j', g', e', hc', hl, hl'⟩ := drawTree_l0 b hb 10 [⟨0, -1, 9223372036854775807, 0, 0⟩] (1 + r) j g (by omega) (by omega) (by simp) hj
  refine ⟨t', j', g', fun k hk => ?_, hc', by simpa using hl, by simp at hl'; omega⟩
  unfold spec_l5Draw.f
  rw [e]
  simp only [Option.bind_some]
  rw [wrap_id (by omega) (by omega)]
  exact e' k (by omega)
theorem num_ok (b : List Int) (i h n : Int) (hb : b.length ≤ 4096) (hc : CurOk b i) : ∃ r j g, spec_l1Num.f b i h n = some (r, j, g) ∧ CurOk b j := by
  obtain ⟨o, j, g, e, hj⟩ := once_ok b i h 10 hb hc
  unfold spec_l1Num.f
  rw [e]
  simp only [Option.bind_some]
  cases o
  · obtain ⟨o, j2, g2, e2, hj2⟩ := once_ok b j g 2 hb hj
    rw [if_neg (by simp), e2]
    simp only [Option.bind_some, min_ok]
    cases o
    · obtain ⟨r, j3, g3, e3, _, _, _, hj3⟩ := below_ok b j2 g2 (wrap64 (n + 1)) hb hj2
      rw [if_neg (by simp), e3]
      exact ⟨_, _, _, rfl, hj3⟩
    · obtain ⟨r, j3, g3, e3, _, _, _, hj3⟩ := below_ok b j2 g2 (wrap64 ((if n < 4 then n else 4) + 1)) hb hj2
      rw [if_pos rfl, e3]
      exact ⟨_, _, _, rfl, hj3⟩
  · obtain ⟨r, j2, g2, e2, _, _, hj2⟩ := odd_ok b j g hb hj
    obtain ⟨q, j3, g3, e3, q0, q1, _, hj3⟩ := below_ok b j2 g2 4 hb hj2
    have := q1 (by omega)
    rw [if_pos rfl, e2]
    simp only [Option.bind_some]
    rw [e3]
    simp only [Option.bind_some]
    rw [if_pos q0, if_pos (by simp; omega)]
    exact ⟨_, _, _, rfl, hj3⟩
theorem bend_ok (b : List Int) (i h : Int) (a0 a1 a2 a3 a4 : Int) (hb : b.length ≤ 4096) (hc : CurOk b i) : ∃ x0 x1 x2 x3 x4 j g, spec_l5BendNode.f b i h a0 a1 a2 a3 a4 = some (x0, x1, x2, x3, x4, j, g) ∧ CurOk b j := by
  obtain ⟨q, j, g, e, _, _, _, hj⟩ := below_ok b i h 5 hb hc
  unfold spec_l5BendNode.f
  rw [e]
  simp only [Option.bind_some]
  by_cases q0 : q = 0
  · obtain ⟨r, j2, g2, e2, _, _, hj2⟩ := from_ok b j g (-1) 5 hb hj (by omega) (by omega) (by omega)
    rw [if_pos q0, e2]
    exact ⟨_, _, _, _, _, _, _, rfl, hj2⟩
  rw [if_neg q0]
  by_cases q1 : q = 1
  · obtain ⟨r, j2, g2, e2, _, _, hj2⟩ := from_ok b j g (-2) 9 hb hj (by omega) (by omega) (by omega)
    rw [if_pos q1, e2]
    exact ⟨_, _, _, _, _, _, _, rfl, hj2⟩
  rw [if_neg q1]
  by_cases q2 : q = 2
  · obtain ⟨r, j2, g2, e2, _, _, _, hj2⟩ := below_ok b j g 9 hb hj
    rw [if_pos q2, e2]
    exact ⟨_, _, _, _, _, _, _, rfl, hj2⟩
  rw [if_neg q2]
  by_cases q3 : q = 3
  · obtain ⟨r, j2, g2, e2, _, _, hj2⟩ := from_ok b j g 0 10 hb hj (by omega) (by omega) (by omega)
    rw [if_pos q3, e2]
    exact ⟨_, _, _, _, _, _, _, rfl, hj2⟩
  rw [if_neg q3]
  by_cases q4 : q = 4
  · obtain ⟨r, j2, g2, e2, hj2⟩ := num_ok b j g 999 hb hj
    rw [if_pos q4, e2]
    exact ⟨_, _, _, _, _, _, _, rfl, hj2⟩
  rw [if_neg q4]
  exact ⟨_, _, _, _, _, _, _, rfl, hj⟩
theorem drawAny_ok (b : List Int) (i h : Int) (hb : b.length ≤ 4096) (hc : CurOk b i) : ∃ t j g, (∀ k, 100 < k → spec_l5DrawAny.f k b i h = some (t, j, g)) ∧ CurOk b j ∧ 1 ≤ t.length ∧ t.length ≤ 1000 := by
  obtain ⟨t, j, g, e, hj, hl, hl'⟩ := drawTree_ok b i h hb hc
  obtain ⟨o, j2, g2, e2, hj2⟩ := once_ok b j g 8 hb hj
  cases o
  · refine ⟨t, j2, g2, fun k hk => ?_, hj2, hl, hl'⟩
    unfold spec_l5DrawAny.f
    rw [e k hk]
    simp only [Option.bind_some]
    rw [e2]
    rfl
  · obtain ⟨r, j3, g3, e3, r0, r1, _, hj3⟩ := below_ok b j2 g2 (t.length : Int) hb hj2
    have := r1 (by omega)
    obtain ⟨x0, x1, x2, x3, x4, j4, g4, e4, hj4⟩ := bend_ok b j3 g3 (rd_T30 t r).f0 (rd_T30 t r).f1 (rd_T30 t r).f2 (rd_T30 t r).f3 (rd_T30 t r).f4 hb hj3
    refine ⟨t.set r.toNat ⟨x0, x1, x2, x3, x4⟩, j4, g4, fun k hk => ?_, hj4, by simpa using hl, by simpa using hl'⟩
    unfold spec_l5DrawAny.f
    rw [e k hk]
    simp only [Option.bind_some]
    rw [e2]
    simp only [Option.bind_some]
    rw [if_pos trivial, e3]
    simp only [Option.bind_some]
    rw [if_pos r0, if_pos this, e4]
    rfl
theorem drawAt_ok (b : List Int) (i h : Int) (hb : b.length ≤ 4096) (hc : CurOk b i) : ∃ t u j g, (∀ k, 100 < k → spec_l5DrawAt.f k b i h = some (t, u, j, g)) ∧ CurOk b j ∧ 1 ≤ t.length ∧ t.length ≤ 1000 := by
  obtain ⟨t, j, g, e, hj, hl, hl'⟩ := drawAny_ok b i h hb hc
  obtain ⟨o, j2, g2, e2, hj2⟩ := once_ok b j g 12 hb hj
  cases o
  · obtain ⟨r, j3, g3, e3, r0, r1, _, hj3⟩ := below_ok b j2 g2 (t.length : Int) hb hj2
    refine ⟨t, r, j3, g3, fun k hk => ?_, hj3, hl, hl'⟩
    unfold spec_l5DrawAt.f
    rw [e k hk]
    simp only [Option.bind_some]
    rw [e2]
    simp only [Option.bind_some]
    rw [if_neg (by simp), e3]
    rfl
  · obtain ⟨d, j3, g3, e3, _, _, hj3⟩ := odd_ok b j2 g2 hb hj2
    obtain ⟨q, j4, g4, e4, q0, q1, _, hj4⟩ := below_ok b j3 g3 3 hb hj3
    have := q1 (by omega)
    refine ⟨t, rd [-1, (t.length : Int), d] q, j4, g4, fun k hk => ?_, hj4, hl, hl'⟩
    unfold spec_l5DrawAt.f
    rw [e k hk]
    simp only [Option.bind_some]
    rw [e2]
    simp only [Option.bind_some]
    rw [if_pos trivial, e3]
    simp only [Option.bind_some]
    rw [e4]
    simp only [Option.bind_some]
    rw [if_pos q0, if_pos (by simp; omega)]
theorem clone_eq (l : List S30) (hn : l.length ≤ 1048576) : impl_Node_62.f l = some l := by
  unfold impl_Node_62.f
  simp only [Option.bind_some, List.nil_append, List.length_nil]
  rw [if_pos (by omega)]
/-- A node more. -/
def grownB (t : List S30) (n : S30) : List S30 × Int :=
  if treeB t = true then (if t.length < 60 ∧ nodeAt n (t.length : Int) = true then (t ++ [n], (t.length : Int)) else (t, -1)) else ([], -1)
theorem rd_snoc_lt (t : List S30) (n : S30) (i : Int) (h0 : 0 ≤ i) (h1 : i < (t.length : Int)) : rd_T30 (t ++ [n]) i = rd_T30 t i := by
  unfold rd_T30
  rw [getD_lt _ (by rw [List.length_append]; simp; omega), getD_lt _ (by omega), List.getElem_append_left]
theorem rd_snoc_eq (t : List S30) (n : S30) : rd_T30 (t ++ [n]) (t.length : Int) = n := by
  unfold rd_T30
  rw [getD_lt _ (by rw [List.length_append]; simp), List.getElem_append_right (by simp)]
  simp
theorem treeB_snoc (t : List S30) (n : S30) (h : treeB t = true) : treeB (t ++ [n]) = (decide (t.length < 60) && nodeAt n (t.length : Int)) := by
  have hl := treeB_len h
  rw [Bool.eq_iff_iff]
  unfold treeB at h ⊢
  rw [Bool.and_eq_true, allFrom_iff, decide_eq_true_eq] at h
  rw [Bool.and_eq_true, Bool.and_eq_true, allFrom_iff, decide_eq_true_eq, decide_eq_true_eq]
  have e : (t ++ [n]).length = t.length + 1 := by simp
  constructor
  · rintro ⟨h1, h2⟩
    refine ⟨by omega, ?_⟩
    have := h2 (t.length : Int) (by omega) (by rw [e]; omega)
    rwa [rd_snoc_eq] at this
  · rintro ⟨h1, h2⟩
    refine ⟨by omega, fun j h0 h3 => ?_⟩
    rw [e] at h3
    by_cases hj : j = (t.length : Int)
    · rw [hj, rd_snoc_eq]; exact h2
    · rw [rd_snoc_lt t n j h0 (by omega)]
      exact h.2 j h0 (by omega)
theorem grownB_length (t : List S30) (n : S30) : (grownB t n).1.length ≤ t.length + 1 := by
  unfold grownB
  split
  · split <;> simp
  · simp
theorem impl_grown (t : List S30) (n : S30) (hn : t.length ≤ 1048576) : ∃ K, ∀ k, K ≤ k → impl_Grown.f k t n.f0 n.f1 n.f2 n.f3 n.f4 = some (grownB t n) := by
  obtain ⟨K, h⟩ := impl_tree t (by omega)
  refine ⟨K + 3, fun k hk => ?_⟩
  obtain ⟨k, rfl⟩ : ∃ q, k = q + 3 := ⟨k - 3, by omega⟩
  have jt : impl_Grown.j0 (k + 3) t true n.f0 n.f1 n.f2 n.f3 n.f4 = some (t, -1) := by
    rw [impl_Grown.j0, clone_eq t hn]
    rfl
  have jf : impl_Grown.j0 (k + 3) t false n.f0 n.f1 n.f2 n.f3 n.f4 = some (t ++ [n], (t.length : Int)) := by
    rw [impl_Grown.j0, clone_eq t hn]
    unfold impl_Node_63.f
    simp only [Option.bind_some, Bool.false_eq_true, if_false]
    rw [if_pos (by simp; omega)]
  unfold impl_Grown.f grownB
  rw [h (k + 3) (by omega), impl_node (k + 1) n (t.length : Int) (by omega) (by omega)]
  simp only [Option.bind_some]
  cases ht : treeB t with
  | false => rfl
  | true =>
    have hl := treeB_len ht
    rw [if_pos rfl, if_pos rfl]
    by_cases h60 : (t.length : Int) = 60
    · rw [if_pos h60, jt, if_neg (by omega)]
    · rw [if_neg h60]
      cases hc : nodeAt n (t.length : Int) with
      | false => rw [if_neg (by simp)]; exact jt
      | true => rw [if_pos (by simp; omega)]; exact jf
theorem drawValueIn_ok (b : List Int) (hb : b.length ≤ 4096) : ∃ t u key, (∀ k, 5000 ≤ k → spec_DrawValueIn.f k b = some (t, u, key)) ∧ t.length ≤ 1000 ∧ 0 ≤ key ∧ key ≤ 4 := by
  obtain ⟨g, e⟩ := new_ok b hb
  obtain ⟨t, u, j, g2, e2, hj, hl, hl'⟩ := drawAt_ok b 0 g hb (curOk0 b)
  obtain ⟨r, j3, g3, e3, r0, r1, hj3⟩ := from_ok b j g2 0 4 hb hj (by omega) (by omega) (by omega)
  refine ⟨t, u, r, fun k hk => ?_, hl', r0, r1⟩
  unfold spec_DrawValueIn.f
  rw [e k (by omega)]
  simp only [Option.bind_some]
  rw [e2 k (by omega)]
  simp only [Option.bind_some]
  rw [e3]
  rfl
theorem valF_snoc {t : List S30} (n : S30) (h : treeB t = true) (key : Int) : ∀ (m : Nat) (i : Int), i < (t.length : Int) → valF (t ++ [n]) key m i = valF t key m i := by
  intro m
  induction m with
  | zero => intro i _; rfl
  | succ m ih =>
    intro i hi
    unfold valF
    by_cases h0 : i < 0
    · rw [if_pos h0, if_pos h0]
    · rw [if_neg h0, if_neg h0, rd_snoc_lt t n i (by omega) hi]
      have hu := treeB_up h i (by omega) hi
      rw [ih _ (by omega)]
theorem grownB_pos {t : List S30} {n : S30} (h : treeB t = true) (hl : t.length < 60) (hn : nodeAt n (t.length : Int) = true) : grownB t n = (t ++ [n], (t.length : Int)) ∧ treeB (t ++ [n]) = true := by
  refine ⟨?_, ?_⟩
  · unfold grownB
    rw [if_pos h, if_pos ⟨hl, hn⟩]
  · rw [treeB_snoc t n h, hn, decide_eq_true hl]
    rfl
theorem FnValues : ∀ (l0 : List Int), l0.length ≤ 9223372036854775807 → (∀ x_ ∈ l0, wfu8 x_) → ∃ k, laws_FnValues.f k l0 = some true := by
  intro b _ _
  by_cases hb : b.length ≤ 4096
  · obtain ⟨t, u, key, hd, ht, k0, k4⟩ := drawValueIn_ok b hb
    have hbig : laws_big.f b = some false := by
      unfold laws_big.f
      rw [decide_eq_false (by omega)]
    obtain ⟨K, q⟩ := both (spec_tree t (by omega)) (both (impl_value t u key (by omega)) (spec_value t u key (by omega)))
    have jt : ∀ k, K ≤ k → laws_FnValues.j0 (k + 1) t u key true = some true := fun k hk => by
      rw [laws_FnValues.j0, if_pos rfl, (q k hk).2.1, (q k hk).2.2]
      simp only [Option.bind_some]
      rw [if_pos trivial]
      simp
    by_cases hcase : treeB t = true ∧ ¬ u < 0 ∧ ¬ u ≥ (t.length : Int) ∧ ¬ key < 1 ∧ ¬ (t.length : Int) > 57
    · obtain ⟨c0, c1, c2, c3, c4⟩ := hcase
      have hkm : Int.tmod key 9 = key := by
        rw [Int.tmod_eq_emod_of_nonneg k0]
        omega
      have hkk : wrap64 (Int.tmod key 9 + 1) = key + 1 := by
        rw [hkm, wrap_id (by omega) (by omega)]
      -- the three nodes
      have o1 : nodeAt (⟨3, u, 9223372036854775807, key, 77⟩ : S30) (t.length : Int) = true := by
        have a1 : btw key 1 9 = true := btw_iff.2 (by omega)
        have a2 : btw u 0 ((t.length : Int) - 1) = true := btw_iff.2 (by omega)
        have a3 : btw 77 0 999 = true := by decide
        simp [nodeAt, ownB, upB, a1, a2, a3]
      obtain ⟨ga, ta⟩ := grownB_pos c0 (by omega) o1
      generalize ha : t ++ [(⟨3, u, 9223372036854775807, key, 77⟩ : S30)] = a at ga ta
      have la : a.length = t.length + 1 := by rw [← ha]; simp
      have o2 : nodeAt (⟨4, (t.length : Int), 9223372036854775807, 0, 0⟩ : S30) (a.length : Int) = true := by
        have a2 : btw (t.length : Int) 0 ((a.length : Int) - 1) = true := btw_iff.2 (by omega)
        have a3 : btw 4 0 4 = true := by decide
        simp [nodeAt, ownB, upB, a2, a3]
      obtain ⟨gb, tb⟩ := grownB_pos ta (by omega) o2
      generalize hb2 : a ++ [(⟨4, (t.length : Int), 9223372036854775807, 0, 0⟩ : S30)] = b2 at gb tb
      have lb : b2.length = a.length + 1 := by rw [← hb2]; simp
      have o3 : nodeAt (⟨3, (a.length : Int), 9223372036854775807, key + 1, 5⟩ : S30) (b2.length : Int) = true := by
        have a1 : btw (key + 1) 1 9 = true := btw_iff.2 (by omega)
        have a2 : btw (a.length : Int) 0 ((b2.length : Int) - 1) = true := btw_iff.2 (by omega)
        have a3 : btw 5 0 999 = true := by decide
        simp [nodeAt, ownB, upB, a1, a2, a3]
      obtain ⟨gc, tc⟩ := grownB_pos tb (by omega) o3
      generalize hc : b2 ++ [(⟨3, (a.length : Int), 9223372036854775807, key + 1, 5⟩ : S30)] = c at gc tc
      have lc : c.length = b2.length + 1 := by rw [← hc]; simp
      -- what is read in them
      have rc : rd_T30 c (b2.length : Int) = ⟨3, (a.length : Int), 9223372036854775807, key + 1, 5⟩ := by rw [← hc]; exact rd_snoc_eq ..
      have rb : rd_T30 c (a.length : Int) = ⟨4, (t.length : Int), 9223372036854775807, 0, 0⟩ := by
        rw [← hc, rd_snoc_lt _ _ _ (by omega) (by omega), ← hb2]; exact rd_snoc_eq ..
      have ra : rd_T30 c (t.length : Int) = ⟨3, u, 9223372036854775807, key, 77⟩ := by
        rw [← hc, rd_snoc_lt _ _ _ (by omega) (by omega), ← hb2, rd_snoc_lt _ _ _ (by omega) (by omega), ← ha]; exact rd_snoc_eq ..
      have v1 : valB c (b2.length : Int) key = (77, true) := by
        unfold valB
        rw [if_pos (hasB_iff.2 ⟨tc, by omega, by omega⟩)]
        rw [show (100 : Nat) = 97 + 1 + 1 + 1 from rfl]
        rw [valF, if_neg (by omega), rc, if_neg (by simp; omega)]
        show valF c key (97 + 1 + 1) (a.length : Int) = _
        rw [valF, if_neg (by omega), rb, if_neg (by simp)]
        show valF c key (97 + 1) (t.length : Int) = _
        rw [valF, if_neg (by omega), ra, if_pos (by simp)]
      have v2 : valB c (b2.length : Int) (key + 1) = (5, true) := by
        unfold valB
        rw [if_pos (hasB_iff.2 ⟨tc, by omega, by omega⟩)]
        rw [show (100 : Nat) = 99 + 1 from rfl]
        rw [valF, if_neg (by omega), rc, if_pos (by simp)]
      have v3 : valB c u key = valB t u key := by
        unfold valB
        rw [if_pos (hasB_iff.2 ⟨tc, by omega, by omega⟩), if_pos (hasB_iff.2 ⟨c0, by omega, by omega⟩), ← hc, valF_snoc _ tb key 100 u (by omega), ← hb2, valF_snoc _ ta key 100 u (by omega), ← ha, valF_snoc _ c0 key 100 u (by omega)]
      obtain ⟨K2, q2⟩ := both (impl_grown t ⟨3, u, 9223372036854775807, key, 77⟩ (by omega)) (both (impl_grown a ⟨4, (t.length : Int), 9223372036854775807, 0, 0⟩ (by omega)) (both (impl_grown b2 ⟨3, (a.length : Int), 9223372036854775807, key + 1, 5⟩ (by omega)) (both (impl_value c (b2.length : Int) key (by omega)) (both (impl_value c (b2.length : Int) (key + 1) (by omega)) (both (impl_value c u key (by omega)) (impl_tree c (by omega)))))))
      obtain ⟨M, hM⟩ : ∃ M, M = K + K2 + 5000 := ⟨_, rfl⟩
      refine ⟨M + 1, ?_⟩
      have p := q2 M (by omega)
      rw [ga, gb, gc, v3, tc] at p
      generalize valB c (b2.length : Int) key = V1 at p v1
      generalize valB c (b2.length : Int) (key + 1) = V2 at p v2
      generalize valB t u key = V3 at p q
      obtain ⟨p1, p2, p3, p4, p5, p6, p7⟩ := p
      have p8 := (q M (by omega)).2.1
      unfold laws_FnValues.f
      rw [hbig]
      simp only [Option.bind_some]
      rw [if_neg (by simp), hd _ (by omega)]
      simp only [Option.bind_some]
      rw [(q _ (by omega)).1, c0]
      simp only [Option.bind_some]
      rw [if_pos trivial, if_neg c1, if_neg c2, if_neg c3, decide_eq_false c4]
      rw [laws_FnValues.j0, if_neg (by simp), hkk]
      dsimp only at p1 p2 p3
      rw [p1]
      rw [Option.bind_some]
      rw [p2]
      rw [Option.bind_some]
      rw [p3]
      rw [Option.bind_some]
      rw [p4]
      rw [Option.bind_some]
      rw [p5]
      rw [Option.bind_some]
      rw [p8]
      rw [Option.bind_some]
      rw [p6]
      rw [Option.bind_some]
      rw [if_pos (by rw [wrap_id (by omega) (by omega)]; omega), if_pos (show V1.2 = true by rw [v1]), if_pos (show V1.1 = 77 by rw [v1]), if_pos (show V2.2 = true by rw [v2]), if_pos (show V2.1 = 5 by rw [v2]), if_pos (by simp), if_pos rfl]
      show (impl_TreeOk.f M c).bind _ = _
      rw [p7, Option.bind_some]
    · obtain ⟨M, hM⟩ : ∃ M, M = K + 5000 := ⟨_, rfl⟩
      refine ⟨M + 1, ?_⟩
      have j := jt M (by omega)
      unfold laws_FnValues.f
      rw [hbig]
      simp only [Option.bind_some]
      rw [if_neg (by simp), hd _ (by omega)]
      simp only [Option.bind_some]
      rw [(q _ (by omega)).1]
      simp only [Option.bind_some]
      by_cases c0 : treeB t = true
      · rw [if_pos c0]
        by_cases c1 : u < 0
        · rw [if_pos c1]; exact j
        rw [if_neg c1]
        by_cases c2 : u ≥ (t.length : Int)
        · rw [if_pos c2]; exact j
        rw [if_neg c2]
        by_cases c3 : key < 1
        · rw [if_pos c3]; exact j
        rw [if_neg c3]
        by_cases c4 : (t.length : Int) > 57
        · rw [decide_eq_true c4]; exact j
        · exact absurd ⟨c0, c1, c2, c3, c4⟩ hcase
      · rw [if_neg c0]; exact j
  · refine ⟨0, ?_⟩
    unfold laws_FnValues.f laws_big.f
    simp only [Option.bind_some]
    rw [if_pos (by simp; omega)]

end Go.Proofs.Ytcndchcepajmjaa.Pure
