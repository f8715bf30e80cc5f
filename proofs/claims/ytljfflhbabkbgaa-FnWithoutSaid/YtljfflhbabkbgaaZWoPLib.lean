/- Texts of the claim of the law FnWithout, made smaller by a program of this session: what the claim does not use is left out. No condition. -/
import Derived.Test.YtljfflhbabkbgaaZWoWWords
namespace Go.Proofs.YtljfflhbabkbgaaPLib
open Go.RowKit Go.Proofs.YtljfflhbabkbgaaW.PrintWords
set_option linter.unusedVariables false
set_option linter.unusedSimpArgs false
theorem wrap_id {x : Int} (h0 : -9223372036854775808 ≤ x) (h1 : x ≤ 9223372036854775807) : wrap64 x = x := by unfold wrap64; omega
/-- Enough rounds. -/
theorem Ev.mk {α : Type} {g : Nat → Option α} {r : α} (K : Nat) (h : ∀ k, K ≤ k → g k = some r) : Ev g r := ⟨K, h⟩
section
variable {α β : Type}
theorem getD_lt {xs : List α} {j : Nat} (d : α) (h : j < xs.length) : xs.getD j d = xs[j] := by
  rw [List.getD_eq_getElem?_getD, List.getElem?_eq_getElem h]; rfl
/-- A loop that compares a list with itself. -/
theorem same_loop (F : Nat → List α → List α → Int → Option Bool)
    (xs : List α) (hF : ∀ k (i : Int), 0 ≤ i → i < (xs.length : Int) → F (k + 1) xs xs i = F k xs xs (wrap64 (i + 1)))
    (hE : ∀ k (i : Int), ¬ i < (xs.length : Int) → F (k + 1) xs xs i = some true)
    (hn : xs.length ≤ 4611686018427387904) : ∀ (m j k : Nat), j + m = xs.length → m < k → F k xs xs (j : Int) = some true := by
  intro m
  induction m with
  | zero =>
    intro j k hj hk
    obtain ⟨k, rfl⟩ : ∃ q, k = q + 1 := ⟨k - 1, by omega⟩
    exact hE k j (by omega)
  | succ m ih =>
    intro j k hj hk
    obtain ⟨k, rfl⟩ : ∃ q, k = q + 1 := ⟨k - 1, by omega⟩
    rw [hF k j (by omega) (by omega), wrap_id (by omega) (by omega), show ((j : Int) + 1) = ((j + 1 : Nat) : Int) by omega]
    exact ih (j + 1) k (by omega) (by omega)
theorem ev_same (F : Nat → List α → List α → Int → Option Bool)
    (xs : List α) (hF : ∀ k (i : Int), 0 ≤ i → i < (xs.length : Int) → F (k + 1) xs xs i = F k xs xs (wrap64 (i + 1)))
    (hE : ∀ k (i : Int), ¬ i < (xs.length : Int) → F (k + 1) xs xs i = some true)
    (hn : xs.length ≤ 4611686018427387904) : Ev (fun k => F k xs xs 0) true :=
  ⟨xs.length + 1, fun k hk => same_loop F xs hF hE hn xs.length 0 k (by omega) (by omega)⟩
end
end Go.Proofs.YtljfflhbabkbgaaPLib
namespace Go.Proofs.YtljfflhbabkbgaaPLib
open Go.RowKit Go.Proofs.YtljfflhbabkbgaaW.PrintWords
set_option linter.unusedVariables false
set_option linter.unusedSimpArgs false
end Go.Proofs.YtljfflhbabkbgaaPLib
namespace Go.Proofs.YtljfflhbabkbgaaPLib
end Go.Proofs.YtljfflhbabkbgaaPLib
