/- Texts of the claim of the law FnProgBack, made smaller by a program of this session: what the claim does not use is left out. No condition. -/
import Derived.Test.YtggajlaifoddeaaGreatDoorZBWWords
import Derived.ChangeArms
import Derived.WideShapes
import Derived.DataReads
namespace Go.Proofs.YtggajlaifoddeaaGreatDoorOpen
open Go.RowKit Go.WideShapes Go.Proofs.YtggajlaifoddeaaGreatDoorW.PrintWords
set_option linter.unusedVariables false
/-- What the reading says of cells at type t: they hold a value of the kind d that is good. -/
def Opens {α : Type} (P : Program) (w : World) (t : TypeId) (d : Kd α) (good : α → Prop) : Prop :=
  ∀ (H : Type) (enc : TypeId × Value → H) (base : Nat) (spare : Nat → Bool) (held : Bool) (fuel : Nat) (cs : List Value) (x : DataW H × List MemPlace), DataW.trod enc P w base spare held fuel t cs = some x → ∃ a : α, d.K w a cs ∧ good a
def wfu8 (n : Int) : Prop := (Lit.int .u8 n).wf = true
theorem opens_u8 {P : Program} {w : World} {t : TypeId} (ht : P.underlying t = some (.int .u8)) : Opens P w t (Kd.int .u8) wfu8 := by
  intro H enc base spare held fuel cs x h
  obtain ⟨n, rfl, _, hw⟩ := DataW.trod_int ht h
  exact ⟨n, rfl, hw⟩
theorem choose_list {α : Type} {p : Nat → α → Prop} : ∀ (n : Nat), (∀ i, i < n → ∃ a, p i a) → ∃ l : List α, l.length = n ∧ ∀ i a, l[i]? = some a → p i a := by
  intro n
  induction n with
  | zero => intro _; exact ⟨[], rfl, fun i a h => by simp at h⟩
  | succ n ih =>
    intro h
    obtain ⟨l, hl, hp⟩ := ih (fun i hi => h i (by omega))
    obtain ⟨a, ha⟩ := h n (by omega)
    refine ⟨l ++ [a], by simp [hl], fun i b hb => ?_⟩
    rcases Nat.lt_or_ge i l.length with hi | hi
    · rw [List.getElem?_append_left hi] at hb
      exact hp i b hb
    · rw [List.getElem?_append_right hi] at hb
      have hi2 : i - l.length = 0 := by
        have := (List.getElem?_eq_some_iff.1 hb).1
        simp at this
        omega
      rw [hi2] at hb
      have : a = b := by simpa using hb
      have e : i = n := by omega
      rw [e, ← this]
      exact ha
theorem opens_slice {α : Type} {P : Program} {w : World} {t e : TypeId} {d : Kd α} {good : α → Prop} (ht : P.underlying t = some (.slice e)) (he : Opens P w e d good) (hc : P.cellsOf e = d.sz) : Opens P w t (Kd.slice e d) (fun xs => ∀ x ∈ xs, good x) := by
  intro H enc base spare held fuel cs x h
  rcases DataW.trod_slice ht h with ⟨rfl, _⟩ | ⟨a, len, cap, elems, rest, n, _, rfl, _, hb, hl, hm, hlen, hel, _, _⟩
  · exact ⟨[], ⟨none, 0, rfl, Nat.le_refl _, rfl, by simp, fun h0 => absurd h0 (Nat.lt_irrefl _)⟩, fun x hx => by simp at hx⟩
  · have each : ∀ i, i < len → ∃ v : α, good v ∧ ∃ c, c.length = d.sz ∧ d.K w v c ∧ ∀ j u, c[j]? = some u → w.cell? (a.add (i * d.sz + j)) = some u := by
      intro i hi
      have h1 := hel i hi
      rw [List.getElem?_eq_getElem (by omega), Option.bind_eq_some_iff] at h1
      obtain ⟨c, hcell, ht1⟩ := h1
      obtain ⟨_, hcl, hcc⟩ := World.cells?_some hcell
      obtain ⟨v, hK, hg⟩ := he H enc base spare held n c _ ht1
      refine ⟨v, hg, c, by rw [hcl, hc], hK, fun j u hu => ?_⟩
      have := hcc j (by have := (List.getElem?_eq_some_iff.1 hu).1; rw [hcl] at this; exact this)
      rw [hc] at this
      rw [← Addr.add_add, this]
      exact hu
    obtain ⟨l, hll, hlp⟩ := choose_list len each
    refine ⟨l, ⟨some a, cap, by rw [hll], by omega, ⟨by rw [hll], by rw [hll]; exact Nat.le_trans hl (Nat.le_trans hm (by decide)), fun _ => ⟨a, rfl, fun j p hj => ?_⟩⟩⟩, fun v hv => ?_⟩
    · obtain ⟨_, c, h1, h2, h3⟩ := hlp j p hj
      exact ⟨c, h1, h2, h3⟩
    · obtain ⟨i, hi⟩ := List.getElem?_of_mem hv
      exact (hlp i v hi).1
end Go.Proofs.YtggajlaifoddeaaGreatDoorOpen
