/- Texts of the claim of the law FnAnyOrder, made smaller by a program of this session: what the claim does not use is left out. No condition. -/
import Derived.Test.YtljfflhbabkbgaaZAoWWords
namespace Go.Proofs.YtljfflhbabkbgaaPLib
open Go.RowKit Go.Proofs.YtljfflhbabkbgaaW.PrintWords
set_option linter.unusedVariables false
set_option linter.unusedSimpArgs false
theorem wrap_id {x : Int} (h0 : -9223372036854775808 ≤ x) (h1 : x ≤ 9223372036854775807) : wrap64 x = x := by unfold wrap64; omega
/-- Enough rounds. -/
theorem Ev.mk {α : Type} {g : Nat → Option α} {r : α} (K : Nat) (h : ∀ k, K ≤ k → g k = some r) : Ev g r := ⟨K, h⟩
section
variable {α β : Type}
theorem getD_lt {xs : List α} {j : Nat} (d : α) (h : j < xs.length) : xs.getD j d = xs[j] := by
  rw [List.getD_eq_getElem?_getD, List.getElem?_eq_getElem h]; rfl
end
end Go.Proofs.YtljfflhbabkbgaaPLib
namespace Go.Proofs.YtljfflhbabkbgaaPLib
open Go.RowKit Go.Proofs.YtljfflhbabkbgaaW.PrintWords
set_option linter.unusedVariables false
set_option linter.unusedSimpArgs false
end Go.Proofs.YtljfflhbabkbgaaPLib
namespace Go.Proofs.YtljfflhbabkbgaaPLib
end Go.Proofs.YtljfflhbabkbgaaPLib
