/- How an argument of a statement's reading stands in memory: a slice or a struct that reads as the statement says holds values of the kind that the printed contracts ask for; no condition. -/
import Derived.Test.YtggajlaifoddeaaDoorWWords
import Derived.ChangeArms
import Derived.WideShapes
import Derived.DataReads
namespace Go.Proofs.YtggajlaifoddeaaDoorOpen
open Go.RowKit Go.WideShapes Go.Proofs.YtggajlaifoddeaaDoorW.PrintWords
set_option linter.unusedVariables false

/-- What the reading says of cells at type t: they hold a value of the kind d that is good. -/
def Opens {α : Type} (P : Program) (w : World) (t : TypeId) (d : Kd α) (good : α → Prop) : Prop :=
  ∀ (H : Type) (enc : TypeId × Value → H) (base : Nat) (spare : Nat → Bool) (held : Bool) (fuel : Nat) (cs : List Value) (x : DataW H × List MemPlace), DataW.trod enc P w base spare held fuel t cs = some x → ∃ a : α, d.K w a cs ∧ good a

def wf64 (n : Int) : Prop := (Lit.int .i64 n).wf = true
theorem wf64.span {x : Int} (h : wf64 x) : -9223372036854775808 ≤ x ∧ x ≤ 9223372036854775807 := by
  have h2 : (decide (IntKind.i64.min ≤ x) && decide (x ≤ IntKind.i64.max)) = true := h
  rw [Bool.and_eq_true, decide_eq_true_eq, decide_eq_true_eq] at h2
  have e1 : IntKind.i64.min = -9223372036854775808 := by decide
  have e2 : IntKind.i64.max = 9223372036854775807 := by decide
  omega

theorem opens_int {P : Program} {w : World} {t : TypeId} (ht : P.underlying t = some (.int .i64)) : Opens P w t (Kd.int .i64) wf64 := by
  intro H enc base spare held fuel cs x h
  obtain ⟨n, rfl, _, hw⟩ := DataW.trod_int ht h
  exact ⟨n, rfl, hw⟩
def wfu8 (n : Int) : Prop := (Lit.int .u8 n).wf = true
theorem opens_u8 {P : Program} {w : World} {t : TypeId} (ht : P.underlying t = some (.int .u8)) : Opens P w t (Kd.int .u8) wfu8 := by
  intro H enc base spare held fuel cs x h
  obtain ⟨n, rfl, _, hw⟩ := DataW.trod_int ht h
  exact ⟨n, rfl, hw⟩
theorem opens_bool {P : Program} {w : World} {t : TypeId} (ht : P.underlying t = some .bool) : Opens P w t Kd.bool (fun _ => True) := by
  intro H enc base spare held fuel cs x h
  obtain ⟨n, rfl, _⟩ := DataW.trod_bool ht h
  exact ⟨n, rfl, trivial⟩
theorem choose_list {α : Type} {p : Nat → α → Prop} : ∀ (n : Nat), (∀ i, i < n → ∃ a, p i a) → ∃ l : List α, l.length = n ∧ ∀ i a, l[i]? = some a → p i a := by
  intro n
  induction n with
  | zero => intro _; exact ⟨[], rfl, fun i a h => by simp at h⟩
  | succ n ih =>
    intro h
    obtain ⟨l, hl, hp⟩ := ih (fun i hi => h i (by omega))
    obtain ⟨a, ha⟩ := h n (by omega)
    refine ⟨l ++ [a], by simp [hl], fun i b hb => ?_⟩
    rcases Nat.lt_or_ge i l.length with hi | hi
    · rw [List.getElem?_append_left hi] at hb
      exact hp i b hb
    · rw [List.getElem?_append_right hi] at hb
      have hi2 : i - l.length = 0 := by
        have := (List.getElem?_eq_some_iff.1 hb).1
        simp at this
        omega
      rw [hi2] at hb
      have : a = b := by simpa using hb
      have e : i = n := by omega
      rw [e, ← this]
      exact ha
theorem opens_slice {α : Type} {P : Program} {w : World} {t e : TypeId} {d : Kd α} {good : α → Prop} (ht : P.underlying t = some (.slice e)) (he : Opens P w e d good) (hc : P.cellsOf e = d.sz) : Opens P w t (Kd.slice e d) (fun xs => ∀ x ∈ xs, good x) := by
  intro H enc base spare held fuel cs x h
  rcases DataW.trod_slice ht h with ⟨rfl, _⟩ | ⟨a, len, cap, elems, rest, n, _, rfl, _, hb, hl, hm, hlen, hel, _, _⟩
  · exact ⟨[], ⟨none, 0, rfl, Nat.le_refl _, rfl, by simp, fun h0 => absurd h0 (Nat.lt_irrefl _)⟩, fun x hx => by simp at hx⟩
  · have each : ∀ i, i < len → ∃ v : α, good v ∧ ∃ c, c.length = d.sz ∧ d.K w v c ∧ ∀ j u, c[j]? = some u → w.cell? (a.add (i * d.sz + j)) = some u := by
      intro i hi
      have h1 := hel i hi
      rw [List.getElem?_eq_getElem (by omega), Option.bind_eq_some_iff] at h1
      obtain ⟨c, hcell, ht1⟩ := h1
      obtain ⟨_, hcl, hcc⟩ := World.cells?_some hcell
      obtain ⟨v, hK, hg⟩ := he H enc base spare held n c _ ht1
      refine ⟨v, hg, c, by rw [hcl, hc], hK, fun j u hu => ?_⟩
      have := hcc j (by have := (List.getElem?_eq_some_iff.1 hu).1; rw [hcl] at this; exact this)
      rw [hc] at this
      rw [← Addr.add_add, this]
      exact hu
    obtain ⟨l, hll, hlp⟩ := choose_list len each
    refine ⟨l, ⟨some a, cap, by rw [hll], by omega, ⟨by rw [hll], by rw [hll]; exact Nat.le_trans hl (Nat.le_trans hm (by decide)), fun _ => ⟨a, rfl, fun j p hj => ?_⟩⟩⟩, fun v hv => ?_⟩
    · obtain ⟨_, c, h1, h2, h3⟩ := hlp j p hj
      exact ⟨c, h1, h2, h3⟩
    · obtain ⟨i, hi⟩ := List.getElem?_of_mem hv
      exact (hlp i v hi).1
/-- The fields fs, the first of them at off, hold the kind d. -/
def OpensF {α : Type} (P : Program) (w : World) (fs : List Field) (off : Nat) (d : Kd α) (good : α → Prop) : Prop :=
  ∀ (H : Type) (enc : TypeId × Value → H) (base : Nat) (spare : Nat → Bool) (held : Bool) (n : Nat) (cs : List Value) (xs : List (DataW H × List MemPlace)), cs.length = off + d.sz → xs.length = fs.length →
    (∀ (i : Nat) (f : Field), fs[i]? = some f → DataW.trod enc P w base spare held n f.type ((cs.drop f.offset).take (P.cellsOf f.type)) = xs[i]?) → ∃ a : α, d.K w a (cs.drop off) ∧ good a
theorem opensF_one {α : Type} {P : Program} {w : World} {f : Field} {off : Nat} {d : Kd α} {good : α → Prop} (ho : f.offset = off) (hc : P.cellsOf f.type = d.sz) (h : Opens P w f.type d good) : OpensF P w [f] off d good := by
  intro H enc base spare held n cs xs hl hx hf
  have h1 := hf 0 f rfl
  rw [List.getElem?_eq_getElem (by rw [hx]; exact Nat.zero_lt_one), ho, hc, List.take_of_length_le (by rw [List.length_drop]; omega)] at h1
  exact h H enc base spare held n _ _ h1
theorem opensF_cons {α β : Type} {P : Program} {w : World} {f : Field} {fs : List Field} {off : Nat} {a : Kd α} {b : Kd β} {ga : α → Prop} {gb : β → Prop} (ho : f.offset = off) (hc : P.cellsOf f.type = a.sz) (h : Opens P w f.type a ga) (hs : OpensF P w fs (off + a.sz) b gb) :
    OpensF P w (f :: fs) off (Kd.pair a b) (fun x => ga x.1 ∧ gb x.2) := by
  intro H enc base spare held n cs xs hl hx hf
  have hl2 : cs.length = off + (a.sz + b.sz) := hl
  match xs, hx with
  | y :: ys, hx =>
  have h1 := hf 0 f rfl
  rw [ho, hc] at h1
  obtain ⟨u, hu, gu⟩ := h H enc base spare held n _ y h1
  obtain ⟨v, hv, gv⟩ := hs H enc base spare held n cs ys (by omega) (by simpa using hx) (fun i g hg => by simpa using hf (i + 1) g (by simpa using hg))
  exact ⟨(u, v), ⟨_, _, by rw [← List.drop_drop, List.take_append_drop], hu, hv⟩, gu, gv⟩
theorem opens_struct {α : Type} {P : Program} {w : World} {t : TypeId} {fs : Array Field} {d : Kd α} {good : α → Prop} (ht : P.underlying t = some (.struct fs)) (hc : P.cellsOf t = d.sz) (h : OpensF P w fs.toList 0 d good) : Opens P w t d good := by
  intro H enc base spare held fuel cs x hx
  obtain ⟨xs, n, _, _, hl, hlen, hf⟩ := DataW.trod_struct ht hx
  obtain ⟨a, ha, ga⟩ := h H enc base spare held n cs xs (by omega) (by simpa using hlen) (fun i f hi => hf i f (by simpa using hi))
  exact ⟨a, ha, ga⟩
theorem opens_iso {α β : Type} {P : Program} {w : World} {t : TypeId} {d : Kd α} {good : α → Prop} (f : β → α) (g : α → β) (hfg : ∀ a, f (g a) = a) (h : Opens P w t d good) : Opens P w t (Kd.iso d f) (fun b => good (f b)) := by
  intro H enc base spare held fuel cs x hx
  obtain ⟨a, ha, ga⟩ := h H enc base spare held fuel cs x hx
  exact ⟨g a, by show d.K w (f (g a)) cs; rw [hfg]; exact ha, by show good (f (g a)); rw [hfg]; exact ga⟩
end Go.Proofs.YtggajlaifoddeaaDoorOpen
