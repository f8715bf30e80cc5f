/- Texts of the claim of the law FnExactReadProg, made smaller by a program of this session: what the claim does not use is left out. No condition. -/
import Derived.Test.YtggajlaifoddeaaDoorZRWWords
namespace Go.Proofs.YtggajlaifoddeaaDoorPLib
open Go.RowKit Go.Proofs.YtggajlaifoddeaaDoorW.PrintWords
set_option linter.unusedVariables false
set_option linter.unusedSimpArgs false
theorem wrap_id {x : Int} (h0 : -9223372036854775808 ≤ x) (h1 : x ≤ 9223372036854775807) : wrap64 x = x := by unfold wrap64; omega
/-- Enough rounds. -/
theorem Ev.mk {α : Type} {g : Nat → Option α} {r : α} (K : Nat) (h : ∀ k, K ≤ k → g k = some r) : Ev g r := ⟨K, h⟩
section
variable {α β : Type}
theorem getD_lt {xs : List α} {j : Nat} (d : α) (h : j < xs.length) : xs.getD j d = xs[j] := by
  rw [List.getD_eq_getElem?_getD, List.getElem?_eq_getElem h]; rfl
/-- A loop that compares a list with itself. -/
theorem same_loop (F : Nat → List α → List α → Int → Option Bool)
    (xs : List α) (hF : ∀ k (i : Int), 0 ≤ i → i < (xs.length : Int) → F (k + 1) xs xs i = F k xs xs (wrap64 (i + 1)))
    (hE : ∀ k (i : Int), ¬ i < (xs.length : Int) → F (k + 1) xs xs i = some true)
    (hn : xs.length ≤ 4611686018427387904) : ∀ (m j k : Nat), j + m = xs.length → m < k → F k xs xs (j : Int) = some true := by
  intro m
  induction m with
  | zero =>
    intro j k hj hk
    obtain ⟨k, rfl⟩ : ∃ q, k = q + 1 := ⟨k - 1, by omega⟩
    exact hE k j (by omega)
  | succ m ih =>
    intro j k hj hk
    obtain ⟨k, rfl⟩ : ∃ q, k = q + 1 := ⟨k - 1, by omega⟩
    rw [hF k j (by omega) (by omega), wrap_id (by omega) (by omega), show ((j : Int) + 1) = ((j + 1 : Nat) : Int) by omega]
    exact ih (j + 1) k (by omega) (by omega)
theorem ev_same (F : Nat → List α → List α → Int → Option Bool)
    (xs : List α) (hF : ∀ k (i : Int), 0 ≤ i → i < (xs.length : Int) → F (k + 1) xs xs i = F k xs xs (wrap64 (i + 1)))
    (hE : ∀ k (i : Int), ¬ i < (xs.length : Int) → F (k + 1) xs xs i = some true)
    (hn : xs.length ≤ 4611686018427387904) : Ev (fun k => F k xs xs 0) true :=
  ⟨xs.length + 1, fun k hk => same_loop F xs hF hE hn xs.length 0 k (by omega) (by omega)⟩
/-- The marks from c on: n elements. -/
def marks (mk : Int → α) (nx : Int → Int) : Nat → Int → List α
  | 0, _ => []
  | n + 1, c => mk c :: marks mk nx n (nx c)
def endOf (nx : Int → Int) : Nat → Int → Int
  | 0, c => c
  | n + 1, c => endOf nx n (nx c)
theorem marks_length (mk : Int → α) (nx : Int → Int) : ∀ n c, (marks mk nx n c).length = n := by
  intro n
  induction n with
  | zero => intro c; rfl
  | succ n ih => intro c; simp [marks, ih]
theorem mark_loop (F : Nat → List α → Int → Int → Option (Int × List α)) (mk : Int → α) (nx : Int → Int)
    (hF : ∀ k x0 c (i : Int), F (k + 1) x0 c i = if i < (x0.length : Int) then (if 0 ≤ i then F k (x0.set i.toNat (mk c)) (nx c) (wrap64 (i + 1)) else none) else some (c, x0)) :
    ∀ (m k : Nat) (A ys : List α) (c : Int), ys.length = m → A.length + m ≤ 4611686018427387904 → m < k → F k (A ++ ys) c (A.length : Int) = some (endOf nx m c, A ++ marks mk nx m c) := by
  intro m
  induction m with
  | zero =>
    intro k A ys c hy hn hk
    obtain ⟨k, rfl⟩ : ∃ q, k = q + 1 := ⟨k - 1, by omega⟩
    obtain rfl : ys = [] := List.length_eq_zero_iff.1 hy
    rw [hF, if_neg (by simp)]
    rfl
  | succ m ih =>
    intro k A ys c hy hn hk
    obtain ⟨k, rfl⟩ : ∃ q, k = q + 1 := ⟨k - 1, by omega⟩
    obtain ⟨y, ys, rfl⟩ : ∃ y t, ys = y :: t := by
      cases ys with
      | nil => simp at hy
      | cons y t => exact ⟨y, t, rfl⟩
    rw [hF, if_pos (by rw [List.length_append, List.length_cons]; omega), if_pos (by omega), wrap_id (by omega) (by omega), Int.toNat_natCast, List.set_append_right _ _ (by omega), Nat.sub_self, List.set_cons_zero]
    have := ih k (A ++ [mk c]) ys (nx c) (by simpa using hy) (by rw [List.length_append]; simp; omega) (by omega)
    rw [List.append_assoc, List.append_assoc] at this
    rw [show ((A.length : Int) + 1) = ((A ++ [mk c]).length : Int) by simp]
    exact this
theorem ev_mark (F : Nat → List α → Int → Int → Option (Int × List α)) (mk : Int → α) (nx : Int → Int)
    (hF : ∀ k x0 c (i : Int), F (k + 1) x0 c i = if i < (x0.length : Int) then (if 0 ≤ i then F k (x0.set i.toNat (mk c)) (nx c) (wrap64 (i + 1)) else none) else some (c, x0))
    (xs : List α) (c : Int) (hn : xs.length ≤ 4611686018427387904) : Ev (fun k => F k xs c 0) (endOf nx xs.length c, marks mk nx xs.length c) :=
  ⟨xs.length + 1, fun k hk => by
    have := mark_loop F mk nx hF xs.length k [] xs c rfl (by simpa using hn) (by omega)
    simpa using this⟩
theorem held_loop (F : Nat → List α → Int → Int → Option Int) (mk : Int → α) (nx : Int → Int) (d : α)
    (hF : ∀ k x0 c (i : Int), 0 ≤ i → i < (x0.length : Int) → x0.getD i.toNat d = mk c → F (k + 1) x0 c i = F k x0 (nx c) (wrap64 (i + 1)))
    (hE : ∀ k x0 c (i : Int), ¬ i < (x0.length : Int) → F (k + 1) x0 c i = some c) :
    ∀ (m k : Nat) (A : List α) (c : Int), A.length + m ≤ 4611686018427387904 → m < k → F k (A ++ marks mk nx m c) c (A.length : Int) = some (endOf nx m c) := by
  intro m
  induction m with
  | zero =>
    intro k A c hn hk
    obtain ⟨k, rfl⟩ : ∃ q, k = q + 1 := ⟨k - 1, by omega⟩
    rw [hE _ _ _ _ (by simp [marks])]
    rfl
  | succ m ih =>
    intro k A c hn hk
    obtain ⟨k, rfl⟩ : ∃ q, k = q + 1 := ⟨k - 1, by omega⟩
    rw [hF k _ c _ (by omega) (by rw [List.length_append, marks_length]; omega) (by rw [Int.toNat_natCast, List.getD_eq_getElem?_getD, List.getElem?_append_right (by omega), Nat.sub_self]; rfl), wrap_id (by omega) (by omega)]
    have := ih k (A ++ [mk c]) (nx c) (by rw [List.length_append]; simp; omega) (by omega)
    rw [List.append_assoc] at this
    rw [show ((A.length : Int) + 1) = ((A ++ [mk c]).length : Int) by simp]
    exact this
theorem ev_held (F : Nat → List α → Int → Int → Option Int) (mk : Int → α) (nx : Int → Int) (d : α)
    (hF : ∀ k x0 c (i : Int), 0 ≤ i → i < (x0.length : Int) → x0.getD i.toNat d = mk c → F (k + 1) x0 c i = F k x0 (nx c) (wrap64 (i + 1)))
    (hE : ∀ k x0 c (i : Int), ¬ i < (x0.length : Int) → F (k + 1) x0 c i = some c) (n : Nat) (c : Int) (hn : n ≤ 4611686018427387904) : Ev (fun k => F k (marks mk nx n c) c 0) (endOf nx n c) :=
  ⟨n + 1, fun k hk => by
    have := held_loop F mk nx d hF hE n k [] c (by simpa using hn) (by omega)
    simpa using this⟩
theorem endOf_add (nx : Int → Int) (w : Int) (h0 : 0 ≤ w) (hw : w ≤ 16) (hnx : ∀ c, 0 ≤ c → c ≤ 4611686018427387904 → nx c = c + w) : ∀ (n : Nat) (c : Int), 0 ≤ c → c + w * n ≤ 4611686018427387904 → endOf nx n c = c + w * n := by
  intro n
  induction n with
  | zero => intro c _ _; simp [endOf]
  | succ n ih =>
    intro c hc hb
    have e : w * ((n + 1 : Nat) : Int) = w * n + w := by rw [Int.natCast_add, Int.mul_add]; simp
    rw [e] at hb
    have hwn : 0 ≤ w * (n : Int) := Int.mul_nonneg h0 (by omega)
    show endOf nx n (nx c) = _
    rw [hnx c hc (by omega), ih (c + w) (by omega) (by omega), e]
    omega
end
end Go.Proofs.YtggajlaifoddeaaDoorPLib
namespace Go.Proofs.YtggajlaifoddeaaDoorPLib
open Go.RowKit Go.Proofs.YtggajlaifoddeaaDoorW.PrintWords
set_option linter.unusedVariables false
set_option linter.unusedSimpArgs false
/-- Between two numbers. -/
def btw (a lo hi : Int) : Bool := decide (lo ≤ a) && decide (a ≤ hi)
theorem btw_iff {a lo hi : Int} : btw a lo hi = true ↔ lo ≤ a ∧ a ≤ hi := by simp [btw]
/-- All of m numbers from i on. -/
def allFrom (p : Int → Bool) : Nat → Int → Bool
  | 0, _ => true
  | m + 1, i => p i && allFrom p m (i + 1)
theorem allFrom_iff {p : Int → Bool} : ∀ {m : Nat} {i : Int}, allFrom p m i = true ↔ ∀ j, i ≤ j → j < i + m → p j = true := by
  intro m
  induction m with
  | zero => intro i; simp [allFrom]; intro j h1 h2; omega
  | succ m ih =>
    intro i
    unfold allFrom
    rw [Bool.and_eq_true, ih]
    constructor
    · rintro ⟨h1, h2⟩ j hj hj2
      by_cases e : j = i
      · subst e; exact h1
      · exact h2 j (by omega) (by omega)
    · intro h
      exact ⟨h i (by omega) (by omega), fun j h1 h2 => h j (by omega) (by omega)⟩
theorem all_loop (F : Nat → Int → Option Bool) (p : Int → Bool) (n K0 : Nat)
    (hF : ∀ k (i : Int), K0 ≤ k → 0 ≤ i → i < (n : Int) → F (k + 1) i = if p i = true then F k (wrap64 (i + 1)) else some false)
    (hE : ∀ k (i : Int), ¬ i < (n : Int) → F (k + 1) i = some true) (hn : n ≤ 9223372036854775807) :
    ∀ (m j k : Nat), j + m = n → m + K0 < k → F k (j : Int) = some (allFrom p m j) := by
  intro m
  induction m with
  | zero =>
    intro j k hj hk
    obtain ⟨k, rfl⟩ : ∃ q, k = q + 1 := ⟨k - 1, by omega⟩
    exact hE k j (by omega)
  | succ m ih =>
    intro j k hj hk
    obtain ⟨k, rfl⟩ : ∃ q, k = q + 1 := ⟨k - 1, by omega⟩
    rw [hF k j (by omega) (by omega) (by omega), wrap_id (by omega) (by omega)]
    unfold allFrom
    cases hp : p (j : Int) with
    | false => simp
    | true =>
      rw [if_pos rfl, Bool.true_and, show ((j : Int) + 1) = ((j + 1 : Nat) : Int) by omega]
      exact ih (j + 1) k (by omega) (by omega)
theorem ev_all (F : Nat → Int → Option Bool) (p : Int → Bool) (n K0 : Nat)
    (hF : ∀ k (i : Int), K0 ≤ k → 0 ≤ i → i < (n : Int) → F (k + 1) i = if p i = true then F k (wrap64 (i + 1)) else some false)
    (hE : ∀ k (i : Int), ¬ i < (n : Int) → F (k + 1) i = some true) (hn : n ≤ 9223372036854775807) : Ev (fun k => F k 0) (allFrom p n 0) :=
  ⟨n + K0 + 1, fun k hk => all_loop F p n K0 hF hE hn n 0 k (by omega) (by omega)⟩
end Go.Proofs.YtggajlaifoddeaaDoorPLib
namespace Go.Proofs.YtggajlaifoddeaaDoorPLib
theorem both {p q : Nat → Prop} (h : ∃ K, ∀ k, K ≤ k → p k) (h' : ∃ K, ∀ k, K ≤ k → q k) : ∃ K, ∀ k, K ≤ k → p k ∧ q k := by
  obtain ⟨K, h⟩ := h
  obtain ⟨K', h'⟩ := h'
  exact ⟨K + K', fun k hk => ⟨h k (by omega), h' k (by omega)⟩⟩
end Go.Proofs.YtggajlaifoddeaaDoorPLib
