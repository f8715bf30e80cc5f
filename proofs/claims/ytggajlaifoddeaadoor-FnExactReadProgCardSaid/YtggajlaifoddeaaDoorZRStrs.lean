/- Texts of the claim of the law FnExactReadProg, made smaller by a program of this session: what the claim does not use is left out. No condition. -/
import Derived.Test.YtggajlaifoddeaaDoorZRShelf
import Derived.Test.YtggajlaifoddeaaDoorZRWWords
import Derived.Test.YtggajlaifoddeaaDoorZRWLast
import Derived.Lib.SmallJoins
import Derived.BigQuiet
import Derived.Deep.QuietTactic
import Derived.WalkKit
import Derived.RowKit3
namespace Go.Proofs.YtggajlaifoddeaaDoorStrs
open Go.RowKit Go.Proofs.YtggajlaifoddeaaDoorW.PrintWords
set_option linter.unusedVariables false
/-- A walk in the order of the data may take up a fact that holds from here on. -/
theorem strong_ {P : Program} {md : Region.Mode} {ops : Array Oper} {Q : Exit → Act → World → Prop} {S S' : World → Prop} (hs : ∀ w, S' w → S w) : ∀ {fuel : Nat} {l : Array Bool} {a : Act} {w : World}, S' w → (S' w → Go.Proofs.YtggajlaifoddeaaDoorW.PrintLast.wpAnyLast P md ops Q S' [] fuel l a w) → Go.Proofs.YtggajlaifoddeaaDoorW.PrintLast.wpAnyLast P md ops Q S [] fuel l a w := by
  intro fuel
  induction fuel with
  | zero => intro l a w h' h; exact h h'
  | succ fuel ih =>
    intro l a w h' h
    have h := h h'
    refine ⟨h.1, fun i hi => wpOp_mono (fun a' w' q => ?_) (h.2 i hi)⟩
    have hw := q.1 (by simp) h'
    exact ⟨fun _ _ => hs _ hw, ih hw (fun _ => q.2)⟩
/-- The table of powers of ten lies as its initialiser lays it. -/
def LW (w : World) : Prop := Lib.TabIs Tryd.prog w "internal/strconv.uint64pow10" .u64 Lib.pow10Tab
theorem LW.mono {w w' : World} (h : LW w) (hb : Below w.heap.size w w') : LW w' := by
  obtain ⟨g, hg⟩ : ∃ g, Tryd.prog.globalNamed "internal/strconv.uint64pow10" = some g := ⟨5, by kernel_rfl⟩
  exact Go.Joins.var_stays hg h hb (Nat.le_refl _)
theorem below_grown (w : World) (k : Nat) (os : Array Obj) : Below w.heap.size w (Go.Sort.grow (w.drewN k) os) :=
  ⟨rfl, rfl, rfl, by show w.heap.size ≤ (w.heap ++ os).size; rw [Array.size_append]; omega, fun i hi => by show (w.heap ++ os)[i]? = w.heap[i]?; rw [Array.getElem?_append_left hi]⟩
def textF (a0 : Int) : Option ByteArray := if -9223372036854775808 ≤ a0 ∧ a0 ≤ 9223372036854775807 then some ⟨(Lib.itoa a0).toArray⟩ else none
theorem text_calls (a0 : Int) (r : ByteArray) (w : World) (hl : LW w) (h : textF a0 = some r) : Calls Tryd.prog 45 #[.int .i64 a0] w fun e w' => e = .returned (.string r) ∧ Below w.heap.size w w' := by
  unfold textF at h
  split at h
  · rename_i hc
    obtain rfl := Option.some.inj h
    have c := Tryd.strconv_FormatInt_10 a0 hc.1 hc.2 w hl
    clear h
    go_enter Tryd.func45, Tryd.ntmps45
    go_wp2_with (go_at_call 60; refine c.mono ?_; rintro e w' ⟨rfl, k, os, rfl⟩)
    go_ret
    exact ⟨rfl, below_grown _ _ _⟩
  · cases h
def joinF (l0 : List ByteArray) (a1 : ByteArray) : Option ByteArray := if l0.length ≤ 140737488355328 ∧ (Lib.join (l0.map (·.data.toList)) a1.data.toList).length ≤ 140737488355328 then some ⟨(Lib.join (l0.map (·.data.toList)) a1.data.toList).toArray⟩ else none
theorem join_calls (A0 : Option Addr) (c0 : Nat) (l0 : List ByteArray) (a1 : ByteArray) (r : ByteArray) (w : World) (hr0 : Kd.C Kd.string w A0 l0.length l0) (hc0 : l0.length ≤ c0) (h : joinF l0 a1 = some r) :
    Calls Tryd.prog 37 #[.slice A0 l0.length c0, .string a1] w fun e w' => e = .returned (.string r) ∧ Below w.heap.size w w' := by
  unfold joinF at h
  split at h
  · rename_i hc
    obtain rfl := Option.some.inj h
    by_cases hn : l0.length = 0
    · obtain rfl := List.eq_nil_of_length_eq_zero hn
      refine (Tryd.strings_Join_none A0 c0 a1 w).mono ?_
      rintro e w' ⟨rfl, rfl⟩
      exact ⟨by simp [Lib.join_nil], Below.refl _ _⟩
    · obtain ⟨ad, rfl, h0⟩ := Kd.at_string hr0 0 (by omega) (by omega)
      obtain ⟨bk, o, sp⟩ := ad
      have h1 : w.cell? ⟨bk, o, sp⟩ = some (.string (rdOf ByteArray.empty l0 0)) := by simpa [Addr.add] using h0
      obtain rfl : sp = none := by
        cases sp with
        | none => rfl
        | some s =>
          unfold World.cell? at h1
          split at h1
          · simp at h1
          · cases h1
      refine (Tryd.strings_Join bk o c0 l0 a1 w ?_ (World.block_lt_of_cell? w _ h1) hc.1 hc0 hc.2).mono ?_
      · intro j x hj
        have hl : j < l0.length := by
          rcases Nat.lt_or_ge j l0.length with q | q
          · exact q
          · rw [List.getElem?_eq_none q] at hj; cases hj
        obtain ⟨ad, e, hx⟩ := Kd.at_string hr0 (j : Int) (by omega) (by omega)
        obtain rfl := Option.some.inj e
        have e2 : rdOf ByteArray.empty l0 (j : Int) = x := by
          unfold rdOf
          rw [Int.toNat_natCast, List.getD_eq_getElem?_getD, hj]
          rfl
        rw [e2, Int.toNat_natCast] at hx
        by_cases hj0 : j = 0
        · subst hj0
          simpa [Addr.add] using hx
        · simpa [Addr.add, hj0] using hx
      · rintro e w' ⟨rfl, hb⟩
        exact ⟨rfl, hb⟩
  · cases h
/-- The library's variables lie as the program's start leaves them: the table, the longest search, the two errors. -/
def LR (w : World) : Prop := LW w ∧ (∃ m, w.cell? ⟨0, 0, none⟩ = some (.int .i64 m)) ∧ (∃ tp p, w.cell? ⟨3, 0, none⟩ = some (.iface tp p)) ∧ ∃ tp p, w.cell? ⟨4, 0, none⟩ = some (.iface tp p)
theorem LR.mono {w w' : World} (h : LR w) (hb : Below w.heap.size w w') : LR w' := by
  obtain ⟨h0, ⟨m, h1⟩, ⟨t2, p2, h2⟩, t3, p3, h3⟩ := h
  exact ⟨h0.mono hb, ⟨m, (hb.cell (World.block_lt_of_cell? w _ h1)).trans h1⟩, ⟨t2, p2, (hb.cell (World.block_lt_of_cell? w _ h2)).trans h2⟩, t3, p3, (hb.cell (World.block_lt_of_cell? w _ h3)).trans h3⟩
def numberF (a0 : ByteArray) : Option (Int × Bool) := if a0.size ≤ 281474976710656 then (match Lib.parseIntB 64 a0.data.toList with
  | .ok v => if -9223372036854775808 ≤ v ∧ v ≤ 9223372036854775807 then some (v, decide (Lib.itoa v = a0.toList) && decide ((Lib.trimPrefix a0.data.toList [45]).length ≤ 12)) else none
  | .range => some (Lib.intSat 64 a0.data.toList, false)
  | _ => some (0, false)) else none
set_option maxHeartbeats 4000000 in
theorem number_calls (a0 : ByteArray) (r1 : Int) (r2 : Bool) (w : World) (hl : LR w) (h : numberF a0 = some (r1, r2)) :
    Calls Tryd.prog 32 #[.string a0] w fun e w' => e = .returned (.tuple #[.int .i64 r1, .bool r2]) ∧ Below w.heap.size w w' := by
  unfold numberF at h
  split at h
  · rename_i hs
    cases hp : Lib.parseIntB 64 a0.data.toList with
    | range =>
      rw [hp] at h
      obtain ⟨rfl, rfl⟩ := Prod.mk.inj (Option.some.inj h)
      obtain ⟨_, _, _, tp, p, hc⟩ := hl
      have c := Tryd.strconv_ParseInt_10_at64_range a0 hs hp _ w hc (Or.inr ⟨tp, p, rfl⟩)
      clear h
      go_enter Tryd.func32, Tryd.ntmps32
      go_wp2_with (go_at_call 44; refine c.mono ?_; rintro e w1 ⟨N, rfl, hN, hB, hb⟩)
      go_ret2
      exact ⟨rfl, hb⟩
    | ok v =>
      rw [hp] at h
      simp only at h
      split at h
      · rename_i hv
        have h := Option.some.inj h
        obtain ⟨rfl, h2⟩ := Prod.mk.inj h
        have c : Calls Tryd.prog 44 #[.string a0, .int .i64 10, .int .i64 64] w fun e w' => e = .returned (.tuple #[.int .i64 v, .nilIface]) ∧ Below w.heap.size w w' := (Tryd.strconv_ParseInt_10_at64_ok a0 (by omega) v hp w).mono (by
          rintro e w1 ⟨he, hw⟩
          refine ⟨he, ?_⟩
          rcases hw with rfl | ⟨t, rfl⟩
          · exact Below.refl _ _
          · exact Lib.bytesWorld_below _ _ _)
        have ct : ∀ w1, Below w.heap.size w w1 → Calls Tryd.prog 45 #[.int .i64 v] w1 fun e w' => e = .returned (.string ⟨(Lib.itoa v).toArray⟩) ∧ Below w1.heap.size w1 w' := fun w1 hb => text_calls v _ w1 (hl.1.mono hb) (by unfold textF; rw [if_pos hv])
        have cp : ∀ w1, Calls Tryd.prog 46 #[.string a0, .string ⟨#[45]⟩] w1 fun e w' => e = .returned (.string ⟨(Lib.trimPrefix a0.data.toList [45]).toArray⟩) ∧ w' = w1 := fun w1 => Tryd.strings_TrimPrefix a0 ⟨#[45]⟩ w1
        have hz : (⟨(Lib.trimPrefix a0.data.toList [45]).toArray⟩ : ByteArray).size = (Lib.trimPrefix a0.data.toList [45]).length := by show (Lib.trimPrefix a0.data.toList [45]).toArray.size = _; simp
        have hzi : ((⟨(Lib.trimPrefix a0.data.toList [45]).toArray⟩ : ByteArray).size : Int) = ((Lib.trimPrefix a0.data.toList [45]).length : Int) := by rw [hz]
        by_cases q1 : Lib.itoa v = a0.toList
        · have q1b : (Lib.itoa v == a0.toList) = true := beq_iff_eq.mpr q1
          rw [decide_eq_true q1, Bool.true_and] at h2
          by_cases q2 : (Lib.trimPrefix a0.data.toList [45]).length ≤ 12
          · have q2b : decide (((⟨(Lib.trimPrefix a0.data.toList [45]).toArray⟩ : ByteArray).size : Int) ≤ 12) = true := by rw [hzi]; exact decide_eq_true (by omega)
            have q2c := of_decide_eq_true q2b
            rw [decide_eq_true q2] at h2
            subst h2
            clear h
            go_enter Tryd.func32, Tryd.ntmps32
            go_wp2_with (first | (go_at_call 44; refine c.mono ?_; rintro e w1 ⟨rfl, hb⟩) | (go_at_call 45; refine (ct _ hb).mono ?_; rintro e w2 ⟨rfl, hb2⟩) | (go_at_call 46; refine (cp _).mono ?_; rintro e w3 ⟨rfl, rfl⟩))
            go_ret2
            exact ⟨by first | (simp [*]; done) | (simp [*]; omega), below_step hb hb2⟩
          · have q2b : decide (((⟨(Lib.trimPrefix a0.data.toList [45]).toArray⟩ : ByteArray).size : Int) ≤ 12) = false := by rw [hzi]; exact decide_eq_false (by omega)
            have q2c := of_decide_eq_false q2b
            rw [decide_eq_false q2] at h2
            subst h2
            clear h
            go_enter Tryd.func32, Tryd.ntmps32
            go_wp2_with (first | (go_at_call 44; refine c.mono ?_; rintro e w1 ⟨rfl, hb⟩) | (go_at_call 45; refine (ct _ hb).mono ?_; rintro e w2 ⟨rfl, hb2⟩) | (go_at_call 46; refine (cp _).mono ?_; rintro e w3 ⟨rfl, rfl⟩))
            go_ret2
            exact ⟨by first | (simp [*]; done) | (simp [*]; omega), below_step hb hb2⟩
        · have q1b : (Lib.itoa v == a0.toList) = false := beq_eq_false_iff_ne.mpr q1
          rw [decide_eq_false q1, Bool.false_and] at h2
          subst h2
          clear h
          go_enter Tryd.func32, Tryd.ntmps32
          go_wp2_with (first | (go_at_call 44; refine c.mono ?_; rintro e w1 ⟨rfl, hb⟩) | (go_at_call 45; refine (ct _ hb).mono ?_; rintro e w2 ⟨rfl, hb2⟩) | (go_at_call 46; refine (cp _).mono ?_; rintro e w3 ⟨rfl, rfl⟩))
          go_ret2
          exact ⟨by first | (simp [*]; done) | (simp [*]; omega), below_step hb hb2⟩
      · cases h
    | _ =>
      rw [hp] at h
      obtain ⟨rfl, rfl⟩ := Prod.mk.inj (Option.some.inj h)
      obtain ⟨_, _, ⟨tp, p, hc⟩, _⟩ := hl
      have c := Tryd.strconv_ParseInt_10_at64_syntax a0 hs hp _ w hc (Or.inr ⟨tp, p, rfl⟩)
      clear h
      go_enter Tryd.func32, Tryd.ntmps32
      go_wp2_with (go_at_call 44; refine c.mono ?_; rintro e w1 ⟨N, rfl, hN, hB, hb⟩)
      go_ret2
      exact ⟨rfl, hb⟩
  · cases h
def splitF (a0 : ByteArray) (a1 : ByteArray) : Option (List ByteArray) := if a0.size < 4294967281 ∧ 1 ≤ a1.size then some (Lib.splitB a1 0 (Lib.countB a0 a1) a0) else none
theorem split_calls (a0 : ByteArray) (a1 : ByteArray) (r : List ByteArray) (w : World) (hl : LR w) (h : splitF a0 a1 = some r) :
    Calls Tryd.prog 15 #[.string a0, .string a1] w fun e w' => ∃ v0_ : Value, e = .returned (v0_) ∧ Kd.R Kd.string 9 w' w.heap.size (fun _ => True) v0_ r ∧ Below w.heap.size w w' := by
  unfold splitF at h
  split at h
  · rename_i hc
    obtain rfl := Option.some.inj h
    obtain ⟨_, ⟨m, hm⟩, _⟩ := hl
    have hlen := Lib.splitB_all a1 hc.2 0 _ a0 rfl
    have hbd := Lib.countB_le a1 hc.2 a0.size a0 (Nat.le_refl _)
    refine (Tryd.strings_Split a0 a1 m w hc.1 hm hc.2).mono ?_
    rintro e w' ⟨rfl, rfl⟩
    refine ⟨_, rfl, ?_, below_alloc (Below.refl _ _) _⟩
    refine Kd.R_of_own ?_ (fun _ _ => trivial)
    have h2 := World.ownsRow_lit (base := w.heap.size) (e := 9) (size := 1) w (encs Value.string (Lib.splitB a1 0 (Lib.countB a0 a1) a0)).toArray (Lib.splitB a1 0 (Lib.countB a0 a1) a0).length (Nat.le_refl _) (by unfold maxLen; omega) (by simp [encs])
    rw [hlen] at h2 ⊢
    simpa [encs] using h2
  · cases h
end Go.Proofs.YtggajlaifoddeaaDoorStrs
