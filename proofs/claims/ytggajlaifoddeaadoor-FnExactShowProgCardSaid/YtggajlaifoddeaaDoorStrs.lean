/- The texts of numbers and the joining of texts in the Go program, met by the contracts of the library that are laid at this dump: what the calls come to. The condition: the table of powers of ten holds what its initialiser lays. -/
import Derived.Test.YtggajlaifoddeaaDoorShelf
import Derived.Test.YtggajlaifoddeaaDoorWWords
import Derived.Test.YtggajlaifoddeaaDoorWLast
import Derived.Lib.SmallJoins
import Derived.BigQuiet
import Derived.Deep.QuietTactic
import Derived.WalkKit
import Derived.RowKit3
namespace Go.Proofs.YtggajlaifoddeaaDoorStrs
open Go.RowKit Go.Proofs.YtggajlaifoddeaaDoorW.PrintWords
set_option linter.unusedVariables false
/-- A walk in the order of the data may take up a fact that holds from here on. -/
theorem strong_ {P : Program} {md : Region.Mode} {ops : Array Oper} {Q : Exit → Act → World → Prop} {S S' : World → Prop} (hs : ∀ w, S' w → S w) : ∀ {fuel : Nat} {l : Array Bool} {a : Act} {w : World}, S' w → (S' w → Go.Proofs.YtggajlaifoddeaaDoorW.PrintLast.wpAnyLast P md ops Q S' [] fuel l a w) → Go.Proofs.YtggajlaifoddeaaDoorW.PrintLast.wpAnyLast P md ops Q S [] fuel l a w := by
  intro fuel
  induction fuel with
  | zero => intro l a w h' h; exact h h'
  | succ fuel ih =>
    intro l a w h' h
    have h := h h'
    refine ⟨h.1, fun i hi => wpOp_mono (fun a' w' q => ?_) (h.2 i hi)⟩
    have hw := q.1 (by simp) h'
    exact ⟨fun _ _ => hs _ hw, ih hw (fun _ => q.2)⟩
/-- The table of powers of ten lies as its initialiser lays it. -/
def LW (w : World) : Prop := Lib.TabIs Tryd.prog w "internal/strconv.uint64pow10" .u64 Lib.pow10Tab
theorem LW.mono {w w' : World} (h : LW w) (hb : Below w.heap.size w w') : LW w' := by
  obtain ⟨g, hg⟩ : ∃ g, Tryd.prog.globalNamed "internal/strconv.uint64pow10" = some g := ⟨5, by kernel_rfl⟩
  exact Go.Joins.var_stays hg h hb (Nat.le_refl _)
theorem below_grown (w : World) (k : Nat) (os : Array Obj) : Below w.heap.size w (Go.Sort.grow (w.drewN k) os) :=
  ⟨rfl, rfl, rfl, by show w.heap.size ≤ (w.heap ++ os).size; rw [Array.size_append]; omega, fun i hi => by show (w.heap ++ os)[i]? = w.heap[i]?; rw [Array.getElem?_append_left hi]⟩
def textF (a0 : Int) : Option ByteArray := if -9223372036854775808 ≤ a0 ∧ a0 ≤ 9223372036854775807 then some ⟨(Lib.itoa a0).toArray⟩ else none
theorem text_calls (a0 : Int) (r : ByteArray) (w : World) (hl : LW w) (h : textF a0 = some r) : Calls Tryd.prog 45 #[.int .i64 a0] w fun e w' => e = .returned (.string r) ∧ Below w.heap.size w w' := by
  unfold textF at h
  split at h
  · rename_i hc
    obtain rfl := Option.some.inj h
    have c := Tryd.strconv_FormatInt_10 a0 hc.1 hc.2 w hl
    clear h
    go_enter Tryd.func45, Tryd.ntmps45
    go_wp2_with (go_at_call 60; refine c.mono ?_; rintro e w' ⟨rfl, k, os, rfl⟩)
    go_ret
    exact ⟨rfl, below_grown _ _ _⟩
  · cases h
def joinF (l0 : List ByteArray) (a1 : ByteArray) : Option ByteArray := if l0.length ≤ 140737488355328 ∧ (Lib.join (l0.map (·.data.toList)) a1.data.toList).length ≤ 140737488355328 then some ⟨(Lib.join (l0.map (·.data.toList)) a1.data.toList).toArray⟩ else none
theorem join_calls (A0 : Option Addr) (c0 : Nat) (l0 : List ByteArray) (a1 : ByteArray) (r : ByteArray) (w : World) (hr0 : Kd.C Kd.string w A0 l0.length l0) (hc0 : l0.length ≤ c0) (h : joinF l0 a1 = some r) :
    Calls Tryd.prog 37 #[.slice A0 l0.length c0, .string a1] w fun e w' => e = .returned (.string r) ∧ Below w.heap.size w w' := by
  unfold joinF at h
  split at h
  · rename_i hc
    obtain rfl := Option.some.inj h
    by_cases hn : l0.length = 0
    · obtain rfl := List.eq_nil_of_length_eq_zero hn
      refine (Tryd.strings_Join_none A0 c0 a1 w).mono ?_
      rintro e w' ⟨rfl, rfl⟩
      exact ⟨by simp [Lib.join_nil], Below.refl _ _⟩
    · obtain ⟨ad, rfl, h0⟩ := Kd.at_string hr0 0 (by omega) (by omega)
      obtain ⟨bk, o, sp⟩ := ad
      have h1 : w.cell? ⟨bk, o, sp⟩ = some (.string (rdOf ByteArray.empty l0 0)) := by simpa [Addr.add] using h0
      obtain rfl : sp = none := by
        cases sp with
        | none => rfl
        | some s =>
          unfold World.cell? at h1
          split at h1
          · simp at h1
          · cases h1
      refine (Tryd.strings_Join bk o c0 l0 a1 w ?_ (World.block_lt_of_cell? w _ h1) hc.1 hc0 hc.2).mono ?_
      · intro j x hj
        have hl : j < l0.length := by
          rcases Nat.lt_or_ge j l0.length with q | q
          · exact q
          · rw [List.getElem?_eq_none q] at hj; cases hj
        obtain ⟨ad, e, hx⟩ := Kd.at_string hr0 (j : Int) (by omega) (by omega)
        obtain rfl := Option.some.inj e
        have e2 : rdOf ByteArray.empty l0 (j : Int) = x := by
          unfold rdOf
          rw [Int.toNat_natCast, List.getD_eq_getElem?_getD, hj]
          rfl
        rw [e2, Int.toNat_natCast] at hx
        by_cases hj0 : j = 0
        · subst hj0
          simpa [Addr.add] using hx
        · simpa [Addr.add, hj0] using hx
      · rintro e w' ⟨rfl, hb⟩
        exact ⟨rfl, hb⟩
  · cases h
end Go.Proofs.YtggajlaifoddeaaDoorStrs
