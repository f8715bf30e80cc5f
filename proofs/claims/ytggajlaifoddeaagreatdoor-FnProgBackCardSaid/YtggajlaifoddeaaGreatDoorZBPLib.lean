/- Texts of the claim of the law FnProgBack, made smaller by a program of this session: what the claim does not use is left out. No condition. -/
import Derived.Test.YtggajlaifoddeaaGreatDoorZBWWords
namespace Go.Proofs.YtggajlaifoddeaaGreatDoorPLib
open Go.RowKit Go.Proofs.YtggajlaifoddeaaGreatDoorW.PrintWords
set_option linter.unusedVariables false
set_option linter.unusedSimpArgs false
theorem wrap_id {x : Int} (h0 : -9223372036854775808 ≤ x) (h1 : x ≤ 9223372036854775807) : wrap64 x = x := by unfold wrap64; omega
/-- Enough rounds. -/
theorem Ev.mk {α : Type} {g : Nat → Option α} {r : α} (K : Nat) (h : ∀ k, K ≤ k → g k = some r) : Ev g r := ⟨K, h⟩
section
variable {α β : Type}
theorem getD_lt {xs : List α} {j : Nat} (d : α) (h : j < xs.length) : xs.getD j d = xs[j] := by
  rw [List.getD_eq_getElem?_getD, List.getElem?_eq_getElem h]; rfl
end
end Go.Proofs.YtggajlaifoddeaaGreatDoorPLib
namespace Go.Proofs.YtggajlaifoddeaaGreatDoorPLib
open Go.RowKit Go.Proofs.YtggajlaifoddeaaGreatDoorW.PrintWords
set_option linter.unusedVariables false
set_option linter.unusedSimpArgs false
/-- Between two numbers. -/
def btw (a lo hi : Int) : Bool := decide (lo ≤ a) && decide (a ≤ hi)
theorem btw_iff {a lo hi : Int} : btw a lo hi = true ↔ lo ≤ a ∧ a ≤ hi := by simp [btw]
/-- All of m numbers from i on. -/
def allFrom (p : Int → Bool) : Nat → Int → Bool
  | 0, _ => true
  | m + 1, i => p i && allFrom p m (i + 1)
theorem allFrom_iff {p : Int → Bool} : ∀ {m : Nat} {i : Int}, allFrom p m i = true ↔ ∀ j, i ≤ j → j < i + m → p j = true := by
  intro m
  induction m with
  | zero => intro i; simp [allFrom]; intro j h1 h2; omega
  | succ m ih =>
    intro i
    unfold allFrom
    rw [Bool.and_eq_true, ih]
    constructor
    · rintro ⟨h1, h2⟩ j hj hj2
      by_cases e : j = i
      · subst e; exact h1
      · exact h2 j (by omega) (by omega)
    · intro h
      exact ⟨h i (by omega) (by omega), fun j h1 h2 => h j (by omega) (by omega)⟩
theorem all_loop (F : Nat → Int → Option Bool) (p : Int → Bool) (n K0 : Nat)
    (hF : ∀ k (i : Int), K0 ≤ k → 0 ≤ i → i < (n : Int) → F (k + 1) i = if p i = true then F k (wrap64 (i + 1)) else some false)
    (hE : ∀ k (i : Int), ¬ i < (n : Int) → F (k + 1) i = some true) (hn : n ≤ 9223372036854775807) :
    ∀ (m j k : Nat), j + m = n → m + K0 < k → F k (j : Int) = some (allFrom p m j) := by
  intro m
  induction m with
  | zero =>
    intro j k hj hk
    obtain ⟨k, rfl⟩ : ∃ q, k = q + 1 := ⟨k - 1, by omega⟩
    exact hE k j (by omega)
  | succ m ih =>
    intro j k hj hk
    obtain ⟨k, rfl⟩ : ∃ q, k = q + 1 := ⟨k - 1, by omega⟩
    rw [hF k j (by omega) (by omega) (by omega), wrap_id (by omega) (by omega)]
    unfold allFrom
    cases hp : p (j : Int) with
    | false => simp
    | true =>
      rw [if_pos rfl, Bool.true_and, show ((j : Int) + 1) = ((j + 1 : Nat) : Int) by omega]
      exact ih (j + 1) k (by omega) (by omega)
theorem ev_all (F : Nat → Int → Option Bool) (p : Int → Bool) (n K0 : Nat)
    (hF : ∀ k (i : Int), K0 ≤ k → 0 ≤ i → i < (n : Int) → F (k + 1) i = if p i = true then F k (wrap64 (i + 1)) else some false)
    (hE : ∀ k (i : Int), ¬ i < (n : Int) → F (k + 1) i = some true) (hn : n ≤ 9223372036854775807) : Ev (fun k => F k 0) (allFrom p n 0) :=
  ⟨n + K0 + 1, fun k hk => all_loop F p n K0 hF hE hn n 0 k (by omega) (by omega)⟩
end Go.Proofs.YtggajlaifoddeaaGreatDoorPLib
namespace Go.Proofs.YtggajlaifoddeaaGreatDoorPLib
end Go.Proofs.YtggajlaifoddeaaGreatDoorPLib
