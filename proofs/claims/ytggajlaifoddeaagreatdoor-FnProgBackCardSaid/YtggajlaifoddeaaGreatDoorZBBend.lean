/- Texts of the claim of the law FnProgBack, made smaller by a program of this session: what the claim does not use is left out. No condition. -/
import Derived.Test.YtggajlaifoddeaaGreatDoorZBBytes
import Derived.Test.YtggajlaifoddeaaGreatDoorZBPFnProgBackx9
namespace Go.Proofs.YtggajlaifoddeaaGreatDoor.PFnProgBack
open Go.RowKit Go.Proofs.YtggajlaifoddeaaGreatDoorW.PrintWords Go.Proofs.YtggajlaifoddeaaGreatDoorW.PrintLast Go.Proofs.YtggajlaifoddeaaGreatDoorW.PrintMore
open List (setIfInBounds_toArray set_cons_zero set_cons_succ map_toArray map_cons map_nil length_drop length_take)
open Option (bind_eq_some_iff)
open Kd (R_reads')
attribute [local go_sem] max2_int min2_int max_two min_two max_three min_three max_four min_four   -- for this text's walks alone
set_option linter.unusedVariables false
set_option linter.unusedSimpArgs false
mutual
def spec_l1Bend.l0 : Nat → ByteArray → List Int → Int → List Int → Int → Int → Option (ByteArray × Int × Int)
  | 0, _, _, _, _, _, _ => none
  | k + 1, x2, x7, x8, x1000, x1001, x1002 => if x8 > 0 then (spec_l1Bend.j1 k x2 x7 x8 (decide ((x7.length : Int) > 0)) x1000 x1001 x1002) else (spec_l1Bend.j1 k x2 x7 x8 false x1000 x1001 x1002)
def spec_l1Bend.j1 : Nat → ByteArray → List Int → Int → Bool → List Int → Int → Int → Option (ByteArray × Int × Int)
  | 0, _, _, _, _, _, _, _ => none
  | k + 1, x2, x7, x8, x23, x1000, x1001, x1002 => if x23 = true then ((spec_l1Below.f x1000 x1001 x1002 (x7.length : Int)).bind fun bt404 => ((spec_l1Below.f x1000 bt404.2.1 bt404.2.2 4).bind fun bt407 => (if bt407.1 = 0 then ((spec_l1Below.f x1000 bt407.2.1 bt407.2.2 (x2.size : Int)).bind fun bt410 => (if 0 ≤ bt410.1 then (if bt410.1 < (x2.size : Int) then (if 0 ≤ bt404.1 then (if bt404.1 < (x7.length : Int) then (spec_l1Bend.l0 k x2 (x7.set (bt404.1 : Int).toNat (bt x2 bt410.1)) (wrap64 (x8 - 1)) x1000 bt410.2.1 bt410.2.2) else (none)) else (none)) else (none)) else (none))) else (if bt407.1 = 1 then (if 0 ≤ bt404.1 then (if bt404.1 ≤ (x7.length : Int) then (spec_l1Bend.l0 k x2 (x7.take (bt404.1 : Int).toNat) (wrap64 (x8 - 1)) x1000 bt407.2.1 bt407.2.2) else (none)) else (none)) else (if bt407.1 = 2 then ((some (([] : List Int) : List Int)).bind fun y417 => (if 0 ≤ bt404.1 then (if bt404.1 ≤ (x7.length : Int) then ((some (x7.take (bt404.1 : Int).toNat : List Int)).bind fun y420 => (if y417.length + y420.length < 140737488355328 then ((some (y417 ++ y420 : List Int)).bind fun y424 => (if 0 ≤ (wrap64 (bt404.1 + 1)) then (if (wrap64 (bt404.1 + 1)) ≤ (x7.length : Int) then ((some (x7.drop ((wrap64 (bt404.1 + 1)) : Int).toNat : List Int)).bind fun y427 => (if y424.length + y427.length < 140737488355328 then (spec_l1Bend.l0 k x2 (y424 ++ y427) (wrap64 (x8 - 1)) x1000 bt407.2.1 bt407.2.2) else (none))) else (none)) else (none))) else (none))) else (none)) else (none))) else (if bt407.1 = 3 then ((some (([] : List Int) : List Int)).bind fun y434 => (if 0 ≤ bt404.1 then (if bt404.1 ≤ (x7.length : Int) then ((some (x7.take (bt404.1 : Int).toNat : List Int)).bind fun y437 => (if y434.length + y437.length < 140737488355328 then ((some (y434 ++ y437 : List Int)).bind fun y441 => ((spec_l1Below.f x1000 bt407.2.1 bt407.2.2 (x2.size : Int)).bind fun bt444 => (if 0 ≤ bt444.1 then (if bt444.1 < (x2.size : Int) then (if y441.length < 140737488355328 then ((some (y441 ++ [bt x2 bt444.1] : List Int)).bind fun y447 => ((some (x7.drop (bt404.1 : Int).toNat : List Int)).bind fun y450 => (if y447.length + y450.length < 140737488355328 then (spec_l1Bend.l0 k x2 (y447 ++ y450) (wrap64 (x8 - 1)) x1000 bt444.2.1 bt444.2.2) else (none)))) else (none)) else (none)) else (none)))) else (none))) else (none)) else (none))) else (spec_l1Bend.l0 k x2 x7 (wrap64 (x8 - 1)) x1000 bt407.2.1 bt407.2.2))))))) else (some (strOfNums x7, x1001, x1002))
end
def spec_l1Bend.f (k : Nat) (s0_0 : List Int) (s0_1 : Int) (s0_2 : Int) (a1 : ByteArray) (a2 : ByteArray) : Option (ByteArray × Int × Int) := (some (([] : List Int) : List Int)).bind fun y395 => (if y395.length + a1.size < 140737488355328 then ((spec_l1Below.f s0_0 s0_1 s0_2 3).bind fun bt401 => (spec_l1Bend.l0 k a2 (y395 ++ bytesOf a1) bt401.1 s0_0 bt401.2.1 bt401.2.2)) else (none))
theorem spec_l1Bend.mono_l : ∀ k, (∀ y0 y1 y2 y3 y4 y5, LeO (spec_l1Bend.l0 k y0 y1 y2 y3 y4 y5) (spec_l1Bend.l0 (k + 1) y0 y1 y2 y3 y4 y5)) ∧ (∀ y0 y1 y2 y3 y4 y5 y6, LeO (spec_l1Bend.j1 k y0 y1 y2 y3 y4 y5 y6) (spec_l1Bend.j1 (k + 1) y0 y1 y2 y3 y4 y5 y6))
  | 0 => ⟨fun _ _ _ _ _ _ r h => by simp [spec_l1Bend.l0] at h, fun _ _ _ _ _ _ _ r h => by simp [spec_l1Bend.j1] at h⟩
  | k + 1 => by
    obtain ⟨ih0, ih1⟩ := spec_l1Bend.mono_l k
    refine ⟨?_, ?_⟩
    · intro y0 y1 y2 y3 y4 y5
      unfold spec_l1Bend.l0
      repeat' first
      | (with_reducible exact ih0 _ _ _ _ _ _)
      | (with_reducible exact ih1 _ _ _ _ _ _ _)
      | (with_reducible exact LeO.refl _)
      | (with_reducible exact LeO.none _)
      | (with_reducible refine LeO.ite ?_ ?_)
      | (with_reducible refine LeO.bind ?_ (fun _ => ?_))
      | exact ih0 _ _ _ _ _ _
      | exact ih1 _ _ _ _ _ _ _
      | exact LeO.none _
      | refine LeO.ite ?_ ?_
      | refine LeO.bind ?_ (fun _ => ?_)
    · intro y0 y1 y2 y3 y4 y5 y6
      unfold spec_l1Bend.j1
      repeat' first
      | (with_reducible exact ih0 _ _ _ _ _ _)
      | (with_reducible exact ih1 _ _ _ _ _ _ _)
      | (with_reducible exact LeO.refl _)
      | (with_reducible exact LeO.none _)
      | (with_reducible refine LeO.ite ?_ ?_)
      | (with_reducible refine LeO.bind ?_ (fun _ => ?_))
      | exact ih0 _ _ _ _ _ _
      | exact ih1 _ _ _ _ _ _ _
      | exact LeO.none _
      | refine LeO.ite ?_ ?_
      | refine LeO.bind ?_ (fun _ => ?_)
theorem spec_l1Bend.mono : ∀ a0 a1 a2 a3 a4 k, LeO (spec_l1Bend.f k a0 a1 a2 a3 a4) (spec_l1Bend.f (k + 1) a0 a1 a2 a3 a4) := by
  intro a0 a1 a2 a3 a4 k
  obtain ⟨ih0, ih1⟩ := spec_l1Bend.mono_l k
  unfold spec_l1Bend.f
  repeat' first
      | (with_reducible exact ih0 _ _ _ _ _ _)
      | (with_reducible exact ih1 _ _ _ _ _ _ _)
      | (with_reducible exact LeO.refl _)
      | (with_reducible exact LeO.none _)
      | (with_reducible refine LeO.ite ?_ ?_)
      | (with_reducible refine LeO.bind ?_ (fun _ => ?_))
      | exact ih0 _ _ _ _ _ _
      | exact ih1 _ _ _ _ _ _ _
      | exact LeO.none _
      | refine LeO.ite ?_ ?_
      | refine LeO.bind ?_ (fun _ => ?_)
set_option maxHeartbeats 8000000 in
set_option maxRecDepth 100000 in
theorem spec_l1Bend.calls (k : Nat) (g : Nat) (s0_0 : List Int) (s0_1 : Int) (s0_2 : Int) (a1 : ByteArray) (a2 : ByteArray) (r1 : ByteArray) (r2 : Int) (r3 : Int) (w0 w : World) (hI : IsS45 w0 w g s0_0 s0_1 s0_2) (hB : Below w0.heap.size w0 w) (h : spec_l1Bend.f k s0_0 s0_1 s0_2 a1 a2 = some (r1, r2, r3)) :
    Calls Tryz.prog 23 #[.pointer (some ⟨g, 0, none⟩), .string a1, .string a2] w fun e w' => e = .returned (.string r1) ∧ IsS45 w0 w' g s0_0 r2 r3 ∧ Below w0.heap.size w0 w' ∧ KeepBut w w' g none := by
  have HI0 := Aside0.mk hI
  have HK := Aside0.mk (KeepBut.refl w g none)
  have HL := Aside0.mk hB.size
  clear hI
  have HW0 := Aside0.mk hB.size
  have HB := Aside0.mk hB
  clear hB
  have H : ((some (([] : List Int) : List Int)).bind fun y395 => (if y395.length + a1.size < 140737488355328 then ((spec_l1Below.f s0_0 s0_1 s0_2 3).bind fun bt401 => (spec_l1Bend.l0 k a2 (y395 ++ bytesOf a1) bt401.1 s0_0 bt401.2.1 bt401.2.2)) else (none))) = some (r1, r2, r3) := h
  clear h
  obtain ⟨y395, hy395⟩ : ∃ y_ : List Int, y_ = (([] : List Int)) := ⟨_, rfl⟩
  replace H : (if y395.length + a1.size < 140737488355328 then ((spec_l1Below.f s0_0 s0_1 s0_2 3).bind fun bt401 => (spec_l1Bend.l0 k a2 (y395 ++ bytesOf a1) bt401.1 s0_0 bt401.2.1 bt401.2.2)) else (none)) = some (r1, r2, r3) := by first | (rw [hy395]; with_reducible exact H) | (have H2_ := (Option.bind_some _ _).symm.trans H; rw [hy395]; with_reducible exact H2_) | (have H2_ := (Option.bind_some _ _).symm.trans H; with_reducible exact H2_) | with_reducible exact H | (rw [hy395]; exact H) | exact H
  have Ny395 := Aside0.mk hy395
  clear hy395
  by_cases c4 : y395.length + a1.size < 140737488355328
  · rw [if_pos c4] at H
    have LMc4 := Aside0.mk c4
    clear c4
    obtain ⟨y398, hy398⟩ : ∃ y_ : List Int, y_ = (y395 ++ bytesOf a1) := ⟨_, rfl⟩
    replace H : ((spec_l1Below.f s0_0 s0_1 s0_2 3).bind fun bt401 => (spec_l1Bend.l0 k a2 y398 bt401.1 s0_0 bt401.2.1 bt401.2.2)) = some (r1, r2, r3) := by first | (rw [hy398]; with_reducible exact H) | (have H2_ := (Option.bind_some _ _).symm.trans H; rw [hy398]; with_reducible exact H2_) | (have H2_ := (Option.bind_some _ _).symm.trans H; with_reducible exact H2_) | with_reducible exact H | (rw [hy398]; exact H) | exact H
    have Ny398 := Aside0.mk hy398
    clear hy398
    replace H := bind_eq_some_iff.mp H
    obtain ⟨⟨t401, t402, t403⟩, A50, H⟩ := H
    replace H : (spec_l1Bend.l0 k a2 y398 t401 s0_0 t402 t403) = some (r1, r2, r3) := H
    have A5 := Aside0.mk A50
    clear A50
    have H' := Aside0.mk H
    clear H
    go_enter Tryz.func23, Tryz.ntmps23
    have E398 : y398 = bytesOf a1 := by rw [Ny398.out, Ny395.out]; rfl
    have hsz : a1.size ≤ 9223372036854775807 := by have := LMc4.out; omega
    go_wp2_with (first | ((with_reducible refine gate_dst (N := 11) rfl ?_); refine bytes_event rfl (.tmp 10) a1 rfl rfl ?_; intro v1_ W1_ hv1 hW1; have HS : Aside0 (St w0 w W1_ g s0_0 s0_1 s0_2 v1_ y398) := ⟨by rw [hv1, hW1, E398]; exact St.begin (by repeat (first | (with_reducible first | exact HI0.out | apply IsS45.drewN | apply IsS45.drew) | exact HI0.out)) (by repeat (first | (with_reducible first | exact HB.out | apply pw_below_drewN | apply below_drew1) | exact HB.out)) (by repeat (first | (with_reducible first | exact HK.out | apply keep_drewN | apply keep_drew) | exact HK.out)) a1 hsz⟩; clear HI0 HK HB hv1 hW1) | ((with_reducible refine gate_callee (f := 26) rfl ?_); refine goesL_ (some 13) rfl rfl Tryz.func26 (by kernel_rfl) rfl #[.pointer (some ⟨g, 0, none⟩), .int .i64 3] rfl (by (try simp only [map_toArray, map_cons, map_nil]); first | done | rfl) ?_; (with_reducible refine (spec_l1Below.calls g s0_0 s0_1 s0_2 3 t401 t402 t403 w0 _ ?side1 ?side2 A5.out).mono ?_); (case side1 => exact St.is (by repeat (first | (with_reducible exact HS.out) | apply St.drewN | apply St.drew | exact HS.out))); (case side2 => exact St.bl (by repeat (first | (with_reducible exact HS.out) | apply St.drewN | apply St.drew | exact HS.out))); rintro e wz ⟨rfl, hi, hb, hk⟩; refine ⟨_, rfl, ?_⟩; have n0_ := Aside0.mk (St.call (by repeat (first | (with_reducible exact HS.out) | apply St.drewN | apply St.drew | exact HS.out)) hi hb hk); clear HS; have HS := n0_; clear n0_ hi hb hk))
    go_loopg [7, 8] k (fun kq v7 v8 w' => ∃ (x7_1 : List Int) (x8_1 : Int) (x1001_1 : Int) (x1002_1 : Int), v8 = .int .i64 x8_1 ∧ Aside0 (spec_l1Bend.l0 kq a2 x7_1 x8_1 s0_0 x1001_1 x1002_1 = some (r1, r2, r3)) ∧ Aside0 (kq ≤ k) ∧ Aside0 (St w0 w w' g s0_0 x1001_1 x1002_1 v7 x7_1))
    case atStart => exact ⟨(y398), (t401), (t402), (t403), (by first | rfl | (simp; done) | (simp [*]; done)), H', ⟨Nat.le_refl _⟩, ⟨(by repeat (first | (with_reducible exact HS.out) | apply St.drewN | apply St.drew | exact HS.out))⟩⟩
    case round =>
      clear H'
      try clear c2
      try clear p2
      try clear c4
      obtain ⟨x7_1, x8_1, x1001_1, x1002_1, rfl, HA, HK1, HS⟩ := hrel
      cases gk with
      | zero => exact absurd HA.out (by simp [spec_l1Bend.l0])
      | succ k1 =>
        have H := HA.out
        clear HA
        simp only [spec_l1Bend.l0] at H
        have HC10 := Aside0.mk H
        clear H
        go_upto_region 3 with (fail)
        go_cut [20] (fun v23 wc => ∃ (kq : Nat) (x23_9 : Bool), v23 = .bool x23_9 ∧ Aside0 (spec_l1Bend.j1 kq a2 x7_1 x8_1 x23_9 s0_0 x1001_1 x1002_1 = some (r1, r2, r3)) ∧ Aside0 (kq ≤ k1) ∧ Aside0 (St w0 w wc g s0_0 x1001_1 x1002_1 u7 x7_1))
        case first =>
          have H := HC10.out
          clear HC10
          by_cases c11 : x8_1 > 0
          · rw [if_pos c11] at H
            have c11b0 : decide (0 < x8_1) = true := decide_eq_true c11
            clear c11
            (first | rw [c11b0] | (simp only [i64_w, i32_w]; rw [c11b0]) | skip)
            have H' := Aside0.mk H
            clear H
            obtain ⟨Ao12, co12, eo12⟩ := HS.out.bb.slice
            subst eo12
            go_wp2
            go_meet
            case rel => exact ⟨_, (decide ((x7_1.length : Int) > 0)), (by first | rfl | (simp; done) | (simp [*]; done)), H', ⟨by have := HK1.out; first | omega | exact Nat.le_refl _⟩, ⟨(by repeat (first | (with_reducible exact HS.out) | apply St.drewN | apply St.drew | exact HS.out))⟩⟩
          · rw [if_neg c11] at H
            have c11b0 : decide (0 < x8_1) = false := decide_eq_false c11
            clear c11
            (first | rw [c11b0] | (simp only [i64_w, i32_w]; rw [c11b0]) | skip)
            have H' := Aside0.mk H
            clear H
            go_wp2
            go_meet
            case rel => exact ⟨_, (false), (by first | rfl | (simp; done) | (simp [*]; done)), H', ⟨by have := HK1.out; first | omega | exact Nat.le_refl _⟩, ⟨(by repeat (first | (with_reducible exact HS.out) | apply St.drewN | apply St.drew | exact HS.out))⟩⟩
        case rest =>
          clear HC10
          try clear c1
          try clear c2
          try clear p2
          try clear c4
          try clear c11
          try clear c11b0
          try clear p2
          obtain ⟨kq, x23_9, rfl, HA, HJ9, HS⟩ := hcut
          cases kq with
          | zero => exact absurd HA.out (by simp [spec_l1Bend.j1])
          | succ kj9 =>
            have H := HA.out
            clear HA
            simp only [spec_l1Bend.j1] at H
            by_cases c13 : x23_9 = true
            · subst c13
              have H1 : ((spec_l1Below.f s0_0 x1001_1 x1002_1 (x7_1.length : Int)).bind fun bt404 => ((spec_l1Below.f s0_0 bt404.2.1 bt404.2.2 4).bind fun bt407 => (if bt407.1 = 0 then ((spec_l1Below.f s0_0 bt407.2.1 bt407.2.2 (a2.size : Int)).bind fun bt410 => (if 0 ≤ bt410.1 then (if bt410.1 < (a2.size : Int) then (if 0 ≤ bt404.1 then (if bt404.1 < (x7_1.length : Int) then (spec_l1Bend.l0 kj9 a2 (x7_1.set (bt404.1 : Int).toNat (bt a2 bt410.1)) (wrap64 (x8_1 - 1)) s0_0 bt410.2.1 bt410.2.2) else (none)) else (none)) else (none)) else (none))) else (if bt407.1 = 1 then (if 0 ≤ bt404.1 then (if bt404.1 ≤ (x7_1.length : Int) then (spec_l1Bend.l0 kj9 a2 (x7_1.take (bt404.1 : Int).toNat) (wrap64 (x8_1 - 1)) s0_0 bt407.2.1 bt407.2.2) else (none)) else (none)) else (if bt407.1 = 2 then ((some (([] : List Int) : List Int)).bind fun y417 => (if 0 ≤ bt404.1 then (if bt404.1 ≤ (x7_1.length : Int) then ((some (x7_1.take (bt404.1 : Int).toNat : List Int)).bind fun y420 => (if y417.length + y420.length < 140737488355328 then ((some (y417 ++ y420 : List Int)).bind fun y424 => (if 0 ≤ (wrap64 (bt404.1 + 1)) then (if (wrap64 (bt404.1 + 1)) ≤ (x7_1.length : Int) then ((some (x7_1.drop ((wrap64 (bt404.1 + 1)) : Int).toNat : List Int)).bind fun y427 => (if y424.length + y427.length < 140737488355328 then (spec_l1Bend.l0 kj9 a2 (y424 ++ y427) (wrap64 (x8_1 - 1)) s0_0 bt407.2.1 bt407.2.2) else (none))) else (none)) else (none))) else (none))) else (none)) else (none))) else (if bt407.1 = 3 then ((some (([] : List Int) : List Int)).bind fun y434 => (if 0 ≤ bt404.1 then (if bt404.1 ≤ (x7_1.length : Int) then ((some (x7_1.take (bt404.1 : Int).toNat : List Int)).bind fun y437 => (if y434.length + y437.length < 140737488355328 then ((some (y434 ++ y437 : List Int)).bind fun y441 => ((spec_l1Below.f s0_0 bt407.2.1 bt407.2.2 (a2.size : Int)).bind fun bt444 => (if 0 ≤ bt444.1 then (if bt444.1 < (a2.size : Int) then (if y441.length < 140737488355328 then ((some (y441 ++ [bt a2 bt444.1] : List Int)).bind fun y447 => ((some (x7_1.drop (bt404.1 : Int).toNat : List Int)).bind fun y450 => (if y447.length + y450.length < 140737488355328 then (spec_l1Bend.l0 kj9 a2 (y447 ++ y450) (wrap64 (x8_1 - 1)) s0_0 bt444.2.1 bt444.2.2) else (none)))) else (none)) else (none)) else (none)))) else (none))) else (none)) else (none))) else (spec_l1Bend.l0 kj9 a2 x7_1 (wrap64 (x8_1 - 1)) s0_0 bt407.2.1 bt407.2.2))))))) = some (r1, r2, r3) := by rw [if_pos rfl] at H; exact H
              clear H
              have H := H1
              clear H1
              replace H := bind_eq_some_iff.mp H
              obtain ⟨⟨t404, t405, t406⟩, A140, H⟩ := H
              replace H : ((spec_l1Below.f s0_0 t405 t406 4).bind fun bt407 => (if bt407.1 = 0 then ((spec_l1Below.f s0_0 bt407.2.1 bt407.2.2 (a2.size : Int)).bind fun bt410 => (if 0 ≤ bt410.1 then (if bt410.1 < (a2.size : Int) then (if 0 ≤ t404 then (if t404 < (x7_1.length : Int) then (spec_l1Bend.l0 kj9 a2 (x7_1.set (t404 : Int).toNat (bt a2 bt410.1)) (wrap64 (x8_1 - 1)) s0_0 bt410.2.1 bt410.2.2) else (none)) else (none)) else (none)) else (none))) else (if bt407.1 = 1 then (if 0 ≤ t404 then (if t404 ≤ (x7_1.length : Int) then (spec_l1Bend.l0 kj9 a2 (x7_1.take (t404 : Int).toNat) (wrap64 (x8_1 - 1)) s0_0 bt407.2.1 bt407.2.2) else (none)) else (none)) else (if bt407.1 = 2 then ((some (([] : List Int) : List Int)).bind fun y417 => (if 0 ≤ t404 then (if t404 ≤ (x7_1.length : Int) then ((some (x7_1.take (t404 : Int).toNat : List Int)).bind fun y420 => (if y417.length + y420.length < 140737488355328 then ((some (y417 ++ y420 : List Int)).bind fun y424 => (if 0 ≤ (wrap64 (t404 + 1)) then (if (wrap64 (t404 + 1)) ≤ (x7_1.length : Int) then ((some (x7_1.drop ((wrap64 (t404 + 1)) : Int).toNat : List Int)).bind fun y427 => (if y424.length + y427.length < 140737488355328 then (spec_l1Bend.l0 kj9 a2 (y424 ++ y427) (wrap64 (x8_1 - 1)) s0_0 bt407.2.1 bt407.2.2) else (none))) else (none)) else (none))) else (none))) else (none)) else (none))) else (if bt407.1 = 3 then ((some (([] : List Int) : List Int)).bind fun y434 => (if 0 ≤ t404 then (if t404 ≤ (x7_1.length : Int) then ((some (x7_1.take (t404 : Int).toNat : List Int)).bind fun y437 => (if y434.length + y437.length < 140737488355328 then ((some (y434 ++ y437 : List Int)).bind fun y441 => ((spec_l1Below.f s0_0 bt407.2.1 bt407.2.2 (a2.size : Int)).bind fun bt444 => (if 0 ≤ bt444.1 then (if bt444.1 < (a2.size : Int) then (if y441.length < 140737488355328 then ((some (y441 ++ [bt a2 bt444.1] : List Int)).bind fun y447 => ((some (x7_1.drop (t404 : Int).toNat : List Int)).bind fun y450 => (if y447.length + y450.length < 140737488355328 then (spec_l1Bend.l0 kj9 a2 (y447 ++ y450) (wrap64 (x8_1 - 1)) s0_0 bt444.2.1 bt444.2.2) else (none)))) else (none)) else (none)) else (none)))) else (none))) else (none)) else (none))) else (spec_l1Bend.l0 kj9 a2 x7_1 (wrap64 (x8_1 - 1)) s0_0 bt407.2.1 bt407.2.2)))))) = some (r1, r2, r3) := H
              have A14 := Aside0.mk A140
              clear A140
              replace H := bind_eq_some_iff.mp H
              obtain ⟨⟨t407, t408, t409⟩, A150, H⟩ := H
              replace H : (if t407 = 0 then ((spec_l1Below.f s0_0 t408 t409 (a2.size : Int)).bind fun bt410 => (if 0 ≤ bt410.1 then (if bt410.1 < (a2.size : Int) then (if 0 ≤ t404 then (if t404 < (x7_1.length : Int) then (spec_l1Bend.l0 kj9 a2 (x7_1.set (t404 : Int).toNat (bt a2 bt410.1)) (wrap64 (x8_1 - 1)) s0_0 bt410.2.1 bt410.2.2) else (none)) else (none)) else (none)) else (none))) else (if t407 = 1 then (if 0 ≤ t404 then (if t404 ≤ (x7_1.length : Int) then (spec_l1Bend.l0 kj9 a2 (x7_1.take (t404 : Int).toNat) (wrap64 (x8_1 - 1)) s0_0 t408 t409) else (none)) else (none)) else (if t407 = 2 then ((some (([] : List Int) : List Int)).bind fun y417 => (if 0 ≤ t404 then (if t404 ≤ (x7_1.length : Int) then ((some (x7_1.take (t404 : Int).toNat : List Int)).bind fun y420 => (if y417.length + y420.length < 140737488355328 then ((some (y417 ++ y420 : List Int)).bind fun y424 => (if 0 ≤ (wrap64 (t404 + 1)) then (if (wrap64 (t404 + 1)) ≤ (x7_1.length : Int) then ((some (x7_1.drop ((wrap64 (t404 + 1)) : Int).toNat : List Int)).bind fun y427 => (if y424.length + y427.length < 140737488355328 then (spec_l1Bend.l0 kj9 a2 (y424 ++ y427) (wrap64 (x8_1 - 1)) s0_0 t408 t409) else (none))) else (none)) else (none))) else (none))) else (none)) else (none))) else (if t407 = 3 then ((some (([] : List Int) : List Int)).bind fun y434 => (if 0 ≤ t404 then (if t404 ≤ (x7_1.length : Int) then ((some (x7_1.take (t404 : Int).toNat : List Int)).bind fun y437 => (if y434.length + y437.length < 140737488355328 then ((some (y434 ++ y437 : List Int)).bind fun y441 => ((spec_l1Below.f s0_0 t408 t409 (a2.size : Int)).bind fun bt444 => (if 0 ≤ bt444.1 then (if bt444.1 < (a2.size : Int) then (if y441.length < 140737488355328 then ((some (y441 ++ [bt a2 bt444.1] : List Int)).bind fun y447 => ((some (x7_1.drop (t404 : Int).toNat : List Int)).bind fun y450 => (if y447.length + y450.length < 140737488355328 then (spec_l1Bend.l0 kj9 a2 (y447 ++ y450) (wrap64 (x8_1 - 1)) s0_0 bt444.2.1 bt444.2.2) else (none)))) else (none)) else (none)) else (none)))) else (none))) else (none)) else (none))) else (spec_l1Bend.l0 kj9 a2 x7_1 (wrap64 (x8_1 - 1)) s0_0 t408 t409))))) = some (r1, r2, r3) := H
              have A15 := Aside0.mk A150
              clear A150
              by_cases c16 : t407 = 0
              · rw [if_pos c16] at H
                have c16b0 : (t407 == 0) = true := beq_iff_eq.mpr c16
                have c16b1 : (t407 != 0) = false := bne_eq_false_iff_eq.mpr c16
                clear c16
                replace H := bind_eq_some_iff.mp H
                obtain ⟨⟨t410, t411, t412⟩, A170, H⟩ := H
                replace H : (if 0 ≤ t410 then (if t410 < (a2.size : Int) then (if 0 ≤ t404 then (if t404 < (x7_1.length : Int) then (spec_l1Bend.l0 kj9 a2 (x7_1.set (t404 : Int).toNat (bt a2 t410)) (wrap64 (x8_1 - 1)) s0_0 t411 t412) else (none)) else (none)) else (none)) else (none)) = some (r1, r2, r3) := H
                have A17 := Aside0.mk A170
                clear A170
                by_cases c18 : 0 ≤ t410
                · rw [if_pos c18] at H
                  have c18b0 : decide (0 ≤ t410) = true := decide_eq_true c18
                  clear c18
                  by_cases c19 : t410 < (a2.size : Int)
                  · rw [if_pos c19] at H
                    have c19b0 : decide (t410 < (a2.size : Int)) = true := decide_eq_true c19
                    clear c19
                    by_cases c21 : 0 ≤ t404
                    · rw [if_pos c21] at H
                      have c21b0 : decide (0 ≤ t404) = true := decide_eq_true c21
                      clear c21
                      by_cases c22 : t404 < (x7_1.length : Int)
                      · rw [if_pos c22] at H
                        have c22b0 : decide (t404 < (x7_1.length : Int)) = true := decide_eq_true c22
                        clear c22
                        obtain ⟨y413, hy413⟩ : ∃ y_ : List Int, y_ = (x7_1.set (t404 : Int).toNat (bt a2 t410)) := ⟨_, rfl⟩
                        replace H : (spec_l1Bend.l0 kj9 a2 y413 (wrap64 (x8_1 - 1)) s0_0 t411 t412) = some (r1, r2, r3) := by first | (rw [hy413]; with_reducible exact H) | (have H2_ := (Option.bind_some _ _).symm.trans H; rw [hy413]; with_reducible exact H2_) | (have H2_ := (Option.bind_some _ _).symm.trans H; with_reducible exact H2_) | with_reducible exact H | (rw [hy413]; exact H) | exact H
                        have Ny413 := Aside0.mk hy413
                        clear hy413
                        have H' := Aside0.mk H
                        clear H
                        obtain ⟨Ao24, co24, eo24⟩ := HS.out.bb.slice
                        subst eo24
                        go_wp2_with (first | ((with_reducible refine gate_callee (f := 26) rfl ?_); refine goesL_ (some 26) rfl rfl Tryz.func26 (by kernel_rfl) rfl #[.pointer (some ⟨g, 0, none⟩), .int .i64 (x7_1.length : Int)] rfl (by (try simp only [map_toArray, map_cons, map_nil]); first | done | rfl) ?_; (with_reducible refine (spec_l1Below.calls g s0_0 x1001_1 x1002_1 (x7_1.length : Int) t404 t405 t406 w0 _ ?side1 ?side2 A14.out).mono ?_); (case side1 => exact St.is (by repeat (first | (with_reducible exact HS.out) | apply St.drewN | apply St.drew | exact HS.out))); (case side2 => exact St.bl (by repeat (first | (with_reducible exact HS.out) | apply St.drewN | apply St.drew | exact HS.out))); rintro e wz ⟨rfl, hi, hb, hk⟩; refine ⟨_, rfl, ?_⟩; have n0_ := Aside0.mk (St.call (by repeat (first | (with_reducible exact HS.out) | apply St.drewN | apply St.drew | exact HS.out)) hi hb hk); clear HS; have HS := n0_; clear n0_ hi hb hk) | ((with_reducible refine gate_callee (f := 26) rfl ?_); refine goesL_ (some 28) rfl rfl Tryz.func26 (by kernel_rfl) rfl #[.pointer (some ⟨g, 0, none⟩), .int .i64 4] rfl (by (try simp only [map_toArray, map_cons, map_nil]); first | done | rfl) ?_; (with_reducible refine (spec_l1Below.calls g s0_0 t405 t406 4 t407 t408 t409 w0 _ ?side1 ?side2 A15.out).mono ?_); (case side1 => exact St.is (by repeat (first | (with_reducible exact HS.out) | apply St.drewN | apply St.drew | exact HS.out))); (case side2 => exact St.bl (by repeat (first | (with_reducible exact HS.out) | apply St.drewN | apply St.drew | exact HS.out))); rintro e wz ⟨rfl, hi, hb, hk⟩; refine ⟨_, rfl, ?_⟩; have n0_ := Aside0.mk (St.call (by repeat (first | (with_reducible exact HS.out) | apply St.drewN | apply St.drew | exact HS.out)) hi hb hk); clear HS; have HS := n0_; clear n0_ hi hb hk) | ((with_reducible refine gate_callee (f := 26) rfl ?_); refine goesL_ (some 37) rfl rfl Tryz.func26 (by kernel_rfl) rfl #[.pointer (some ⟨g, 0, none⟩), .int .i64 (a2.size : Int)] rfl (by (try simp only [map_toArray, map_cons, map_nil]); first | done | rfl) ?_; (with_reducible refine (spec_l1Below.calls g s0_0 t408 t409 (a2.size : Int) t410 t411 t412 w0 _ ?side1 ?side2 A17.out).mono ?_); (case side1 => exact St.is (by repeat (first | (with_reducible exact HS.out) | apply St.drewN | apply St.drew | exact HS.out))); (case side2 => exact St.bl (by repeat (first | (with_reducible exact HS.out) | apply St.drewN | apply St.drew | exact HS.out))); rintro e wz ⟨rfl, hi, hb, hk⟩; refine ⟨_, rfl, ?_⟩; have n0_ := Aside0.mk (St.call (by repeat (first | (with_reducible exact HS.out) | apply St.drewN | apply St.drew | exact HS.out)) hi hb hk); clear HS; have HS := n0_; clear n0_ hi hb hk; have p20 : 0 ≤ (t410 : Int) := of_decide_eq_true (by first | (with_reducible assumption) | assumption); have q20 : t410 < (a2.size : Int) := of_decide_eq_true (by first | (with_reducible assumption) | assumption); have hx20 := bt_at a2 t410; replace p20 := eq_true p20; replace q20 := eq_true q20; have p23 : 0 ≤ (t404 : Int) := of_decide_eq_true (by first | (with_reducible assumption) | assumption); have q23 : (t404 : Int) < ((x7_1.length : Int) : Int) := of_decide_eq_true (by first | (with_reducible assumption) | assumption); obtain ⟨go23, co23, eo23, gb23, gl23, cl23, fz23, HG23⟩ := HS.out.bb.form (by omega); (first | cases eo23 | (injection eo23 with ea_ en_ ec_; (first | subst ea_ | (injection ea_ with ea_; subst ea_)); subst ec_; clear en_)); have GG23 := Aside0.mk HG23; clear gb23 gl23 HG23; obtain ⟨hx23_0, hf23_0⟩ := HS.out.bb.cell (t404 : Int) p23 q23; replace p23 := eq_true p23; replace q23 := eq_true q23; have HP28 := Aside0.mk (St.put HL.out HS.out (t404 : Int) (bt a2 t410))) | ((with_reducible refine gate_store (t := 5) (p := 39) rfl ?_); refine store_event (t := 5) (p := 39) (v := ?vo_w29) (w1 := (wz.setCell ⟨go23, (t404 : Int).toNat, none⟩ (.int .u8 (bt a2 t410)))) ?hg ?ho ?hn ?hr ?_; (case ho => rfl); (case hg => rfl); (case hn => rfl); (case hr => first | (go_simp; done) | (go_simp; rfl)); intro w29 hw; have n0_ := Aside0.mk (show St w0 w w29 g s0_0 t411 t412 _ y413 from by rw [hw, Ny413.out]; exact HP28.out); clear HS HP28; have HS := n0_; clear n0_ hw))
                        go_roundg kj9
                        case measure => have := HK1.out; have := HJ9.out; omega
                        case rel => exact ⟨(y413), (wrap64 (x8_1 - 1)), (t411), (t412), (by first | rfl | (simp; done) | (simp [*]; done)), H', ⟨by have := HK1.out; have := HJ9.out; omega⟩, ⟨(by repeat (first | (with_reducible exact HS.out) | apply St.drewN | apply St.drew | exact HS.out))⟩⟩
                      · rw [if_neg c22] at H
                        exact absurd H (by simp)
                    · rw [if_neg c21] at H
                      exact absurd H (by simp)
                  · rw [if_neg c19] at H
                    exact absurd H (by simp)
                · rw [if_neg c18] at H
                  exact absurd H (by simp)
              · rw [if_neg c16] at H
                have c16b0 : (t407 == 0) = false := beq_eq_false_iff_ne.mpr c16
                have c16b1 : (t407 != 0) = true := bne_iff_ne.mpr c16
                by_cases c30 : t407 = 1
                · rw [if_pos c30] at H
                  have c30b0 : (t407 == 1) = true := beq_iff_eq.mpr c30
                  have c30b1 : (t407 != 1) = false := bne_eq_false_iff_eq.mpr c30
                  clear c30
                  by_cases c31 : 0 ≤ t404
                  · rw [if_pos c31] at H
                    have c31b0 := eq_true c31
                    have c31b1 : decide (0 ≤ t404) = true := decide_eq_true c31
                    clear c31
                    by_cases c32 : t404 ≤ (x7_1.length : Int)
                    · rw [if_pos c32] at H
                      have c32b0 := eq_true c32
                      have c32b1 : decide (t404 ≤ (x7_1.length : Int)) = true := decide_eq_true c32
                      clear c32
                      obtain ⟨y414, hy414⟩ : ∃ y_ : List Int, y_ = (x7_1.take (t404 : Int).toNat) := ⟨_, rfl⟩
                      replace H : (spec_l1Bend.l0 kj9 a2 y414 (wrap64 (x8_1 - 1)) s0_0 t408 t409) = some (r1, r2, r3) := by first | (rw [hy414]; with_reducible exact H) | (have H2_ := (Option.bind_some _ _).symm.trans H; rw [hy414]; with_reducible exact H2_) | (have H2_ := (Option.bind_some _ _).symm.trans H; with_reducible exact H2_) | with_reducible exact H | (rw [hy414]; exact H) | exact H
                      have Ny414 := Aside0.mk hy414
                      clear hy414
                      have H' := Aside0.mk H
                      clear H
                      obtain ⟨Ao33, co33, eo33⟩ := HS.out.bb.slice
                      subst eo33
                      have KW33 : Aside0 (∃ _ : Nat, True) := ⟨0, trivial⟩
                      have q36 : (t404 : Int) ≤ ((x7_1.length : Int) : Int) := of_decide_eq_true (by first | (with_reducible assumption) | assumption)
                      have KL36 : (t404 : Int).toNat ≤ x7_1.length := by omega
                      obtain ⟨i036, hi036, _, hsz36, _⟩ := info_parts info5
                      have hcut36 := cut_to (P := Tryz.prog) 22 5 .i64 Tryz.underlying22 hi036 Ao33 x7_1.length co33 t404 (of_decide_eq_true (by first | (with_reducible assumption) | assumption)) q36 HS.out.bb.reads.2.1
                      have hy36 : y414.length = (t404 : Int).toNat := (by rw [Ny414.out, length_take]; omega)
                      rw [← hy36] at hcut36
                      have HY36 := Aside0.mk hy36
                      clear hy36
                      replace q36 := eq_true q36
                      clear hi036 hsz36
                      go_wp2_with (first | ((with_reducible refine gate_callee (f := 26) rfl ?_); refine goesL_ (some 26) rfl rfl Tryz.func26 (by kernel_rfl) rfl #[.pointer (some ⟨g, 0, none⟩), .int .i64 (x7_1.length : Int)] rfl (by (try simp only [map_toArray, map_cons, map_nil]); first | done | rfl) ?_; (with_reducible refine (spec_l1Below.calls g s0_0 x1001_1 x1002_1 (x7_1.length : Int) t404 t405 t406 w0 _ ?side1 ?side2 A14.out).mono ?_); (case side1 => exact St.is (by repeat (first | (with_reducible exact HS.out) | apply St.drewN | apply St.drew | exact HS.out))); (case side2 => exact St.bl (by repeat (first | (with_reducible exact HS.out) | apply St.drewN | apply St.drew | exact HS.out))); rintro e wz ⟨rfl, hi, hb, hk⟩; refine ⟨_, rfl, ?_⟩; have n0_ := Aside0.mk (St.call (by repeat (first | (with_reducible exact HS.out) | apply St.drewN | apply St.drew | exact HS.out)) hi hb hk); clear HS; have HS := n0_; clear n0_ hi hb hk) | ((with_reducible refine gate_callee (f := 26) rfl ?_); refine goesL_ (some 28) rfl rfl Tryz.func26 (by kernel_rfl) rfl #[.pointer (some ⟨g, 0, none⟩), .int .i64 4] rfl (by (try simp only [map_toArray, map_cons, map_nil]); first | done | rfl) ?_; (with_reducible refine (spec_l1Below.calls g s0_0 t405 t406 4 t407 t408 t409 w0 _ ?side1 ?side2 A15.out).mono ?_); (case side1 => exact St.is (by repeat (first | (with_reducible exact HS.out) | apply St.drewN | apply St.drew | exact HS.out))); (case side2 => exact St.bl (by repeat (first | (with_reducible exact HS.out) | apply St.drewN | apply St.drew | exact HS.out))); rintro e wz ⟨rfl, hi, hb, hk⟩; refine ⟨_, rfl, ?_⟩; have n0_ := Aside0.mk (St.call (by repeat (first | (with_reducible exact HS.out) | apply St.drewN | apply St.drew | exact HS.out)) hi hb hk); clear HS; have HS := n0_; clear n0_ hi hb hk))
                      have HS4 : Aside0 (St w0 w _ g s0_0 t408 t409 (.slice Ao33 y414.length co33) y414) := ⟨by have h4 := St.take HS.out KL36; rw [← Ny414.out, ← HY36.out] at h4; exact h4⟩
                      clear HS
                      have HS := HS4
                      clear HS4
                      go_roundg kj9
                      case measure => have := HK1.out; have := HJ9.out; omega
                      case rel => exact ⟨(y414), (wrap64 (x8_1 - 1)), (t408), (t409), (by first | rfl | (simp; done) | (simp [*]; done)), H', ⟨by have := HK1.out; have := HJ9.out; omega⟩, ⟨(by repeat (first | (with_reducible exact HS.out) | apply St.drewN | apply St.drew | exact HS.out))⟩⟩
                    · rw [if_neg c32] at H
                      exact absurd H (by simp)
                  · rw [if_neg c31] at H
                    exact absurd H (by simp)
                · rw [if_neg c30] at H
                  have c30b0 : (t407 == 1) = false := beq_eq_false_iff_ne.mpr c30
                  have c30b1 : (t407 != 1) = true := bne_iff_ne.mpr c30
                  by_cases c37 : t407 = 2
                  · rw [if_pos c37] at H
                    have c37b0 : (t407 == 2) = true := beq_iff_eq.mpr c37
                    have c37b1 : (t407 != 2) = false := bne_eq_false_iff_eq.mpr c37
                    clear c37
                    obtain ⟨y417, hy417⟩ : ∃ y_ : List Int, y_ = (([] : List Int)) := ⟨_, rfl⟩
                    replace H : (if 0 ≤ t404 then (if t404 ≤ (x7_1.length : Int) then ((some (x7_1.take (t404 : Int).toNat : List Int)).bind fun y420 => (if y417.length + y420.length < 140737488355328 then ((some (y417 ++ y420 : List Int)).bind fun y424 => (if 0 ≤ (wrap64 (t404 + 1)) then (if (wrap64 (t404 + 1)) ≤ (x7_1.length : Int) then ((some (x7_1.drop ((wrap64 (t404 + 1)) : Int).toNat : List Int)).bind fun y427 => (if y424.length + y427.length < 140737488355328 then (spec_l1Bend.l0 kj9 a2 (y424 ++ y427) (wrap64 (x8_1 - 1)) s0_0 t408 t409) else (none))) else (none)) else (none))) else (none))) else (none)) else (none)) = some (r1, r2, r3) := by first | (rw [hy417]; with_reducible exact H) | (have H2_ := (Option.bind_some _ _).symm.trans H; rw [hy417]; with_reducible exact H2_) | (have H2_ := (Option.bind_some _ _).symm.trans H; with_reducible exact H2_) | with_reducible exact H | (rw [hy417]; exact H) | exact H
                    have Ny417 := Aside0.mk hy417
                    clear hy417
                    by_cases c38 : 0 ≤ t404
                    · rw [if_pos c38] at H
                      have c38b0 := eq_true c38
                      have c38b1 : decide (0 ≤ t404) = true := decide_eq_true c38
                      clear c38
                      by_cases c39 : t404 ≤ (x7_1.length : Int)
                      · rw [if_pos c39] at H
                        have c39b0 := eq_true c39
                        have c39b1 : decide (t404 ≤ (x7_1.length : Int)) = true := decide_eq_true c39
                        clear c39
                        obtain ⟨y420, hy420⟩ : ∃ y_ : List Int, y_ = (x7_1.take (t404 : Int).toNat) := ⟨_, rfl⟩
                        replace H : (if y417.length + y420.length < 140737488355328 then ((some (y417 ++ y420 : List Int)).bind fun y424 => (if 0 ≤ (wrap64 (t404 + 1)) then (if (wrap64 (t404 + 1)) ≤ (x7_1.length : Int) then ((some (x7_1.drop ((wrap64 (t404 + 1)) : Int).toNat : List Int)).bind fun y427 => (if y424.length + y427.length < 140737488355328 then (spec_l1Bend.l0 kj9 a2 (y424 ++ y427) (wrap64 (x8_1 - 1)) s0_0 t408 t409) else (none))) else (none)) else (none))) else (none)) = some (r1, r2, r3) := by first | (rw [hy420]; with_reducible exact H) | (have H2_ := (Option.bind_some _ _).symm.trans H; rw [hy420]; with_reducible exact H2_) | (have H2_ := (Option.bind_some _ _).symm.trans H; with_reducible exact H2_) | with_reducible exact H | (rw [hy420]; exact H) | exact H
                        have Ny420 := Aside0.mk hy420
                        clear hy420
                        by_cases c40 : y417.length + y420.length < 140737488355328
                        · rw [if_pos c40] at H
                          have LMc40 := Aside0.mk c40
                          clear c40
                          obtain ⟨y424, hy424⟩ : ∃ y_ : List Int, y_ = (y417 ++ y420) := ⟨_, rfl⟩
                          replace H : (if 0 ≤ (wrap64 (t404 + 1)) then (if (wrap64 (t404 + 1)) ≤ (x7_1.length : Int) then ((some (x7_1.drop ((wrap64 (t404 + 1)) : Int).toNat : List Int)).bind fun y427 => (if y424.length + y427.length < 140737488355328 then (spec_l1Bend.l0 kj9 a2 (y424 ++ y427) (wrap64 (x8_1 - 1)) s0_0 t408 t409) else (none))) else (none)) else (none)) = some (r1, r2, r3) := by first | (rw [hy424]; with_reducible exact H) | (have H2_ := (Option.bind_some _ _).symm.trans H; rw [hy424]; with_reducible exact H2_) | (have H2_ := (Option.bind_some _ _).symm.trans H; with_reducible exact H2_) | with_reducible exact H | (rw [hy424]; exact H) | exact H
                          have Ny424 := Aside0.mk hy424
                          clear hy424
                          obtain ⟨ji41, hji41⟩ : ∃ j_ : Int, (wrap64 (t404 + 1)) = j_ := ⟨_, rfl⟩
                          replace H : (if 0 ≤ (ji41) then (if (ji41) ≤ (x7_1.length : Int) then ((some (x7_1.drop ((ji41) : Int).toNat : List Int)).bind fun y427 => (if y424.length + y427.length < 140737488355328 then (spec_l1Bend.l0 kj9 a2 (y424 ++ y427) (wrap64 (x8_1 - 1)) s0_0 t408 t409) else (none))) else (none)) else (none)) = some (r1, r2, r3) := by first | (rw [hji41] at H; exact H) | (simp only [hji41] at H ⊢; exact H)
                          (try rw [hji41] at A14)
                          (try rw [hji41] at A15)
                          have hji41w : (IntKind.i64.wrap (t404 + 1)) = ji41 := (i64_w _).trans hji41
                          by_cases c42 : 0 ≤ (ji41)
                          · rw [if_pos c42] at H
                            have c42b0 := eq_true c42
                            have c42b1 : decide (0 ≤ (ji41)) = true := decide_eq_true c42
                            clear c42
                            by_cases c43 : (ji41) ≤ (x7_1.length : Int)
                            · rw [if_pos c43] at H
                              have c43b0 := eq_true c43
                              have c43b1 : decide ((ji41) ≤ (x7_1.length : Int)) = true := decide_eq_true c43
                              clear c43
                              obtain ⟨y427, hy427⟩ : ∃ y_ : List Int, y_ = (x7_1.drop ((ji41) : Int).toNat) := ⟨_, rfl⟩
                              replace H : (if y424.length + y427.length < 140737488355328 then (spec_l1Bend.l0 kj9 a2 (y424 ++ y427) (wrap64 (x8_1 - 1)) s0_0 t408 t409) else (none)) = some (r1, r2, r3) := by first | (rw [hy427]; with_reducible exact H) | (have H2_ := (Option.bind_some _ _).symm.trans H; rw [hy427]; with_reducible exact H2_) | (have H2_ := (Option.bind_some _ _).symm.trans H; with_reducible exact H2_) | with_reducible exact H | (rw [hy427]; exact H) | exact H
                              have Ny427 := Aside0.mk hy427
                              clear hy427
                              by_cases c44 : y424.length + y427.length < 140737488355328
                              · rw [if_pos c44] at H
                                have LMc44 := Aside0.mk c44
                                clear c44
                                obtain ⟨y431, hy431⟩ : ∃ y_ : List Int, y_ = (y424 ++ y427) := ⟨_, rfl⟩
                                replace H : (spec_l1Bend.l0 kj9 a2 y431 (wrap64 (x8_1 - 1)) s0_0 t408 t409) = some (r1, r2, r3) := by first | (rw [hy431]; with_reducible exact H) | (have H2_ := (Option.bind_some _ _).symm.trans H; rw [hy431]; with_reducible exact H2_) | (have H2_ := (Option.bind_some _ _).symm.trans H; with_reducible exact H2_) | with_reducible exact H | (rw [hy431]; exact H) | exact H
                                have Ny431 := Aside0.mk hy431
                                clear hy431
                                have H' := Aside0.mk H
                                clear H
                                obtain ⟨Ao45, co45, eo45⟩ := HS.out.bb.slice
                                subst eo45
                                have q48 : (t404 : Int) ≤ ((x7_1.length : Int) : Int) := of_decide_eq_true (by first | (with_reducible assumption) | assumption)
                                have KL48 : (t404 : Int).toNat ≤ x7_1.length := by omega
                                obtain ⟨i048, hi048, _, hsz48, _⟩ := info_parts info5
                                have hcut48 := cut_to (P := Tryz.prog) 22 5 .i64 Tryz.underlying22 hi048 Ao45 x7_1.length co45 t404 (of_decide_eq_true (by first | (with_reducible assumption) | assumption)) q48 HS.out.bb.reads.2.1
                                have hy48 : y420.length = (t404 : Int).toNat := (by rw [Ny420.out, length_take]; omega)
                                rw [← hy48] at hcut48
                                have HY48 := Aside0.mk hy48
                                clear hy48
                                replace q48 := eq_true q48
                                have q51 : (ji41 : Int) ≤ ((x7_1.length : Int) : Int) := of_decide_eq_true (by first | (with_reducible assumption) | assumption)
                                have KL51 : (ji41 : Int).toNat ≤ x7_1.length := by omega
                                have q051 : (0 : Int) ≤ (ji41 : Int) := of_decide_eq_true (by first | (with_reducible assumption) | assumption)
                                obtain ⟨i051, hi051, _, hsz51, _⟩ := info_parts info5
                                have hcut51 := cut_from (P := Tryz.prog) 22 5 .i64 Tryz.underlying22 hi051 1 hsz51 Ao45 x7_1.length co45 ji41 q051 q51
                                have hroom51 := HS.out.bb.reads.2.1
                                obtain ⟨A51, hA51⟩ : ∃ A1, A1 = (if co45 = (ji41 : Int).toNat then Ao45 else (Ao45 : Option Addr).map (·.add ((ji41 : Int).toNat * 1))) := ⟨_, rfl⟩
                                obtain ⟨c51, hc51⟩ : ∃ c1, c1 = co45 - (ji41 : Int).toNat := ⟨_, rfl⟩
                                have hy51 : y427.length = x7_1.length - (ji41 : Int).toNat := (by rw [Ny427.out, length_drop] <;> omega)
                                rw [← hy51, ← hA51, ← hc51] at hcut51
                                have HA51 := Aside0.mk hA51
                                clear hy51 hA51 hc51
                                replace q51 := eq_true q51
                                go_wp2_with (first | ((with_reducible refine gate_callee (f := 26) rfl ?_); refine goesL_ (some 26) rfl rfl Tryz.func26 (by kernel_rfl) rfl #[.pointer (some ⟨g, 0, none⟩), .int .i64 (x7_1.length : Int)] rfl (by (try simp only [map_toArray, map_cons, map_nil]); first | done | rfl) ?_; (with_reducible refine (spec_l1Below.calls g s0_0 x1001_1 x1002_1 (x7_1.length : Int) t404 t405 t406 w0 _ ?side1 ?side2 A14.out).mono ?_); (case side1 => exact St.is (by repeat (first | (with_reducible exact HS.out) | apply St.drewN | apply St.drew | exact HS.out))); (case side2 => exact St.bl (by repeat (first | (with_reducible exact HS.out) | apply St.drewN | apply St.drew | exact HS.out))); rintro e wz ⟨rfl, hi, hb, hk⟩; refine ⟨_, rfl, ?_⟩; have n0_ := Aside0.mk (St.call (by repeat (first | (with_reducible exact HS.out) | apply St.drewN | apply St.drew | exact HS.out)) hi hb hk); clear HS; have HS := n0_; clear n0_ hi hb hk) | ((with_reducible refine gate_callee (f := 26) rfl ?_); refine goesL_ (some 28) rfl rfl Tryz.func26 (by kernel_rfl) rfl #[.pointer (some ⟨g, 0, none⟩), .int .i64 4] rfl (by (try simp only [map_toArray, map_cons, map_nil]); first | done | rfl) ?_; (with_reducible refine (spec_l1Below.calls g s0_0 t405 t406 4 t407 t408 t409 w0 _ ?side1 ?side2 A15.out).mono ?_); (case side1 => exact St.is (by repeat (first | (with_reducible exact HS.out) | apply St.drewN | apply St.drew | exact HS.out))); (case side2 => exact St.bl (by repeat (first | (with_reducible exact HS.out) | apply St.drewN | apply St.drew | exact HS.out))); rintro e wz ⟨rfl, hi, hb, hk⟩; refine ⟨_, rfl, ?_⟩; have n0_ := Aside0.mk (St.call (by repeat (first | (with_reducible exact HS.out) | apply St.drewN | apply St.drew | exact HS.out)) hi hb hk); clear HS; have HS := n0_; clear n0_ hi hb hk))
                                have n0_ := Aside0.mk (St.drew (by repeat (first | (with_reducible exact HS.out) | apply St.drewN | apply St.drew | exact HS.out)))
                                clear HS
                                have HS := n0_
                                clear n0_
                                refine start_ (n := 11) (S := fun _ => True) (ds := []) #[false, false, false, false, false, false, false, false, false, false, false] (by kernel_rfl) rfl rfl trivial (fun _ => ?_)
                                refine pure_ (i := 1) (N := some 48) (v := ?_) (a' := ?_) #[false, true, false, false, false, false, false, false, false, false, false] rfl rfl (by kernel_rfl) (fun _ _ _ h => h) (Or.inl ⟨by rfl, ?_⟩) ?_ ?_
                                rotate_left
                                · intro w'
                                  go_simp
                                  with_reducible rfl
                                rotate_left
                                · simp only [Act.put, setIfInBounds_toArray, set_cons_zero, set_cons_succ, i64_w, i32_w]
                                  rfl
                                refine pure_ (i := 2) (N := some 49) (v := ?_) (a' := ?_) #[false, true, true, false, false, false, false, false, false, false, false] rfl rfl (by kernel_rfl) (fun _ _ _ h => h) (Or.inl ⟨by rfl, ?_⟩) ?_ ?_
                                rotate_left
                                · intro w'
                                  go_simp
                                  with_reducible rfl
                                rotate_left
                                · simp only [Act.put, setIfInBounds_toArray, set_cons_zero, set_cons_succ, i64_w, i32_w]
                                  rfl
                                refine pure_ (i := 3) (N := some 50) (v := ?_) (a' := ?_) #[false, true, true, true, false, false, false, false, false, false, false] rfl rfl (by kernel_rfl) (fun _ _ _ h => h) (Or.inl ⟨by rfl, ?_⟩) ?_ ?_
                                rotate_left
                                · intro w'
                                  go_simp
                                  with_reducible rfl
                                rotate_left
                                · simp only [Act.put, setIfInBounds_toArray, set_cons_zero, set_cons_succ, i64_w, i32_w]
                                  rfl
                                refine pure_ (i := 5) (N := some 52) (v := ?_) (a' := ?_) #[false, true, true, true, false, true, false, false, false, false, false] rfl rfl (by kernel_rfl) (fun _ _ _ h => h) (Or.inl ⟨by rfl, ?_⟩) ?_ ?_
                                rotate_left
                                · intro w'
                                  go_simp
                                  with_reducible rfl
                                rotate_left
                                · simp only [Act.put, setIfInBounds_toArray, set_cons_zero, set_cons_succ, i64_w, i32_w]
                                  rfl
                                refine pure_ (i := 6) (N := some 53) (v := ?_) (a' := ?_) #[false, true, true, true, false, true, true, false, false, false, false] rfl rfl (by kernel_rfl) (fun _ _ _ h => h) (Or.inl ⟨by rfl, ?_⟩) ?_ ?_
                                rotate_left
                                · intro w'
                                  go_simp
                                  with_reducible rfl
                                rotate_left
                                · simp only [Act.put, setIfInBounds_toArray, set_cons_zero, set_cons_succ, i64_w, i32_w]
                                  rfl
                                refine pure_ (i := 7) (N := some 54) (v := ?_) (a' := ?_) #[false, true, true, true, false, true, true, true, false, false, false] rfl rfl (by kernel_rfl) (fun _ _ _ h => h) (Or.inl ⟨by rfl, ?_⟩) ?_ ?_
                                rotate_left
                                · intro w'
                                  go_simp
                                  with_reducible rfl
                                rotate_left
                                · simp only [Act.put, setIfInBounds_toArray, set_cons_zero, set_cons_succ, i64_w, i32_w]
                                  rfl
                                refine pure_ (i := 8) (N := some 55) (v := ?_) (a' := ?_) #[false, true, true, true, false, true, true, true, true, false, false] rfl rfl (by kernel_rfl) (fun _ _ _ h => h) (Or.inl ⟨by rfl, ?_⟩) ?_ ?_
                                rotate_left
                                · intro w'
                                  go_simp
                                  with_reducible rfl
                                rotate_left
                                · simp only [Act.put, setIfInBounds_toArray, set_cons_zero, set_cons_succ, i64_w, i32_w]
                                  rfl
                                refine one_ (i := 0) (N := some 47) #[true, true, true, true, false, true, true, true, true, false, false] rfl rfl (by kernel_rfl) (by decide) (fun K hK => ?_)
                                refine Kd.R_lit_step (Kd.int .u8) _ 5 ?hg (N := 47) ?hd (xs := ([] : List Int)) (inner := []) (ok := fun _ => True) (okp := fun _ => True) ?hr ?hp (fun _ hk => hk) trivial (Below.refl _ _) (Nat.le_refl _) (by simp) ?_; (case hd => rfl); (case hg => rfl); (case hr => first | (go_simp; done) | (go_simp; rfl)); (case hp => exact (Reps.none _ _))
                                intro va wa ho hb hg_ hnew_
                                clear hg_ hnew_
                                rw [← Ny417.out] at ho
                                have H2 := Aside0.mk (St.made HS.out ho hb)
                                clear HS ho hb
                                refine hK.out _ _ trivial (fun _ => ?_)
                                clear hK K
                                refine norm_ (a' := ?_) ?_ ?_
                                rotate_left
                                · show Act.put _ (some 47) _ = _
                                  simp only [Act.put, setIfInBounds_toArray, set_cons_zero, set_cons_succ, i64_w, i32_w]
                                  rfl
                                refine one_ (i := 4) (N := some 51) #[true, true, true, true, true, true, true, true, true, false, false] rfl rfl (by kernel_rfl) (by decide) (fun K hK => ?_)
                                refine Kd.R_append_rows_step (Kd.int .u8) w.heap.size (by rfl) (.tmp 47) (.tmp 50) 22 5 (.int .u8 0) 1 rfl Tryz.underlying22 info5 rfl (by decide) (by omega) _ y417 y420 _ _ _ (fun k_ => some k_ ≠ (.slice Ao45 x7_1.length co45 : Value).ownBlock) (fun _ => False) rfl rfl H2.out.row (by rw [Ny420.out]; exact Kd.C_take H2.out.bb.reads.2.2 KL48) (fun _ _ h => h) (fun _ h => h.elim) (fun k_ hk => H2.out.fresh k_ hk) (Below.refl _ _) H2.out.toSt.size ?aL ?_; (case aL => have := LMc40.out; (try simp only [List.length_cons, List.length_nil]); omega)
                                intro vb wb ho hb hg_ _
                                rw [← Ny424.out] at ho
                                have n0_ := Aside0.mk (St2.wrote HL.out H2.out ho hb hg_)
                                clear H2 ho hb hg_
                                have H2 := n0_
                                clear n0_
                                refine hK.out _ _ trivial (fun _ => ?_)
                                clear hK K
                                refine norm_ (a' := ?_) ?_ ?_
                                rotate_left
                                · show Act.put _ (some 51) _ = _
                                  simp only [Act.put, setIfInBounds_toArray, set_cons_zero, set_cons_succ, i64_w, i32_w]
                                  rfl
                                refine one_ (i := 9) (N := some 56) #[true, true, true, true, true, true, true, true, true, true, false] rfl rfl (by kernel_rfl) (by decide) (fun K hK => ?_)
                                refine Kd.R_append_rows_step (Kd.int .u8) w.heap.size (by rfl) (.tmp 51) (.tmp 55) 22 5 (.int .u8 0) 1 rfl Tryz.underlying22 info5 rfl (by decide) (by omega) _ y424 y427 _ _ _ (fun k_ => some k_ ≠ (.slice Ao45 x7_1.length co45 : Value).ownBlock) (fun _ => False) rfl rfl H2.out.row (by rw [Ny427.out, HA51.out]; exact Kd.C_drop (m := (ji41 : Int).toNat) (c := co45) H2.out.bb.reads.2.2 KL51 hroom51) (fun _ _ h => h) (fun _ h => h.elim) (fun k_ hk => H2.out.fresh k_ hk) (Below.refl _ _) H2.out.toSt.size ?aL ?_; (case aL => have := LMc44.out; (try simp only [List.length_cons, List.length_nil]); omega)
                                intro vb wb ho hb hg_ _
                                rw [← Ny431.out] at ho
                                have n0_ := Aside0.mk (St2.wrote HL.out H2.out ho hb hg_)
                                clear H2 ho hb hg_
                                have H2 := n0_
                                clear n0_
                                refine hK.out _ _ trivial (fun _ => ?_)
                                clear hK K
                                refine norm_ (a' := ?_) ?_ ?_
                                rotate_left
                                · show Act.put _ (some 56) _ = _
                                  simp only [Act.put, setIfInBounds_toArray, set_cons_zero, set_cons_succ, i64_w, i32_w]
                                  rfl
                                refine pure_ (i := 10) (N := some 7) (v := ?_) (a' := ?_) #[true, true, true, true, true, true, true, true, true, true, true] rfl rfl (by kernel_rfl) (fun _ _ _ h => h) (Or.inl ⟨by rfl, ?_⟩) ?_ ?_
                                rotate_left
                                · intro w'
                                  go_simp
                                  with_reducible rfl
                                rotate_left
                                · simp only [Act.put, setIfInBounds_toArray, set_cons_zero, set_cons_succ, i64_w, i32_w]
                                  rfl
                                refine done_ (by kernel_rfl) ?_
                                have HS := Aside0.mk H2.out.end_
                                clear H2
                                go_wp2
                                go_roundg kj9
                                case measure => have := HK1.out; have := HJ9.out; omega
                                case rel => exact ⟨(y431), (wrap64 (x8_1 - 1)), (t408), (t409), (by first | rfl | (simp; done) | (simp [*]; done)), H', ⟨by have := HK1.out; have := HJ9.out; omega⟩, ⟨(by repeat (first | (with_reducible exact HS.out) | apply St.drewN | apply St.drew | exact HS.out))⟩⟩
                              · rw [if_neg c44] at H
                                exact absurd H (by simp)
                            · rw [if_neg c43] at H
                              exact absurd H (by simp)
                          · rw [if_neg c42] at H
                            exact absurd H (by simp)
                        · rw [if_neg c40] at H
                          exact absurd H (by simp)
                      · rw [if_neg c39] at H
                        exact absurd H (by simp)
                    · rw [if_neg c38] at H
                      exact absurd H (by simp)
                  · rw [if_neg c37] at H
                    have c37b0 : (t407 == 2) = false := beq_eq_false_iff_ne.mpr c37
                    have c37b1 : (t407 != 2) = true := bne_iff_ne.mpr c37
                    by_cases c54 : t407 = 3
                    · rw [if_pos c54] at H
                      have c54b0 : (t407 == 3) = true := beq_iff_eq.mpr c54
                      have c54b1 : (t407 != 3) = false := bne_eq_false_iff_eq.mpr c54
                      clear c54
                      obtain ⟨y434, hy434⟩ : ∃ y_ : List Int, y_ = (([] : List Int)) := ⟨_, rfl⟩
                      replace H : (if 0 ≤ t404 then (if t404 ≤ (x7_1.length : Int) then ((some (x7_1.take (t404 : Int).toNat : List Int)).bind fun y437 => (if y434.length + y437.length < 140737488355328 then ((some (y434 ++ y437 : List Int)).bind fun y441 => ((spec_l1Below.f s0_0 t408 t409 (a2.size : Int)).bind fun bt444 => (if 0 ≤ bt444.1 then (if bt444.1 < (a2.size : Int) then (if y441.length < 140737488355328 then ((some (y441 ++ [bt a2 bt444.1] : List Int)).bind fun y447 => ((some (x7_1.drop (t404 : Int).toNat : List Int)).bind fun y450 => (if y447.length + y450.length < 140737488355328 then (spec_l1Bend.l0 kj9 a2 (y447 ++ y450) (wrap64 (x8_1 - 1)) s0_0 bt444.2.1 bt444.2.2) else (none)))) else (none)) else (none)) else (none)))) else (none))) else (none)) else (none)) = some (r1, r2, r3) := by first | (rw [hy434]; with_reducible exact H) | (have H2_ := (Option.bind_some _ _).symm.trans H; rw [hy434]; with_reducible exact H2_) | (have H2_ := (Option.bind_some _ _).symm.trans H; with_reducible exact H2_) | with_reducible exact H | (rw [hy434]; exact H) | exact H
                      have Ny434 := Aside0.mk hy434
                      clear hy434
                      by_cases c55 : 0 ≤ t404
                      · rw [if_pos c55] at H
                        have c55b0 := eq_true c55
                        have c55b1 : decide (0 ≤ t404) = true := decide_eq_true c55
                        clear c55
                        by_cases c56 : t404 ≤ (x7_1.length : Int)
                        · rw [if_pos c56] at H
                          have c56b0 := eq_true c56
                          have c56b1 : decide (t404 ≤ (x7_1.length : Int)) = true := decide_eq_true c56
                          clear c56
                          obtain ⟨y437, hy437⟩ : ∃ y_ : List Int, y_ = (x7_1.take (t404 : Int).toNat) := ⟨_, rfl⟩
                          replace H : (if y434.length + y437.length < 140737488355328 then ((some (y434 ++ y437 : List Int)).bind fun y441 => ((spec_l1Below.f s0_0 t408 t409 (a2.size : Int)).bind fun bt444 => (if 0 ≤ bt444.1 then (if bt444.1 < (a2.size : Int) then (if y441.length < 140737488355328 then ((some (y441 ++ [bt a2 bt444.1] : List Int)).bind fun y447 => ((some (x7_1.drop (t404 : Int).toNat : List Int)).bind fun y450 => (if y447.length + y450.length < 140737488355328 then (spec_l1Bend.l0 kj9 a2 (y447 ++ y450) (wrap64 (x8_1 - 1)) s0_0 bt444.2.1 bt444.2.2) else (none)))) else (none)) else (none)) else (none)))) else (none)) = some (r1, r2, r3) := by first | (rw [hy437]; with_reducible exact H) | (have H2_ := (Option.bind_some _ _).symm.trans H; rw [hy437]; with_reducible exact H2_) | (have H2_ := (Option.bind_some _ _).symm.trans H; with_reducible exact H2_) | with_reducible exact H | (rw [hy437]; exact H) | exact H
                          have Ny437 := Aside0.mk hy437
                          clear hy437
                          by_cases c57 : y434.length + y437.length < 140737488355328
                          · rw [if_pos c57] at H
                            have LMc57 := Aside0.mk c57
                            clear c57
                            obtain ⟨y441, hy441⟩ : ∃ y_ : List Int, y_ = (y434 ++ y437) := ⟨_, rfl⟩
                            replace H : ((spec_l1Below.f s0_0 t408 t409 (a2.size : Int)).bind fun bt444 => (if 0 ≤ bt444.1 then (if bt444.1 < (a2.size : Int) then (if y441.length < 140737488355328 then ((some (y441 ++ [bt a2 bt444.1] : List Int)).bind fun y447 => ((some (x7_1.drop (t404 : Int).toNat : List Int)).bind fun y450 => (if y447.length + y450.length < 140737488355328 then (spec_l1Bend.l0 kj9 a2 (y447 ++ y450) (wrap64 (x8_1 - 1)) s0_0 bt444.2.1 bt444.2.2) else (none)))) else (none)) else (none)) else (none))) = some (r1, r2, r3) := by first | (rw [hy441]; with_reducible exact H) | (have H2_ := (Option.bind_some _ _).symm.trans H; rw [hy441]; with_reducible exact H2_) | (have H2_ := (Option.bind_some _ _).symm.trans H; with_reducible exact H2_) | with_reducible exact H | (rw [hy441]; exact H) | exact H
                            have Ny441 := Aside0.mk hy441
                            clear hy441
                            replace H := bind_eq_some_iff.mp H
                            obtain ⟨⟨t444, t445, t446⟩, A580, H⟩ := H
                            replace H : (if 0 ≤ t444 then (if t444 < (a2.size : Int) then (if y441.length < 140737488355328 then ((some (y441 ++ [bt a2 t444] : List Int)).bind fun y447 => ((some (x7_1.drop (t404 : Int).toNat : List Int)).bind fun y450 => (if y447.length + y450.length < 140737488355328 then (spec_l1Bend.l0 kj9 a2 (y447 ++ y450) (wrap64 (x8_1 - 1)) s0_0 t445 t446) else (none)))) else (none)) else (none)) else (none)) = some (r1, r2, r3) := H
                            have A58 := Aside0.mk A580
                            clear A580
                            by_cases c59 : 0 ≤ t444
                            · rw [if_pos c59] at H
                              have c59b0 : decide (0 ≤ t444) = true := decide_eq_true c59
                              clear c59
                              by_cases c60 : t444 < (a2.size : Int)
                              · rw [if_pos c60] at H
                                have c60b0 : decide (t444 < (a2.size : Int)) = true := decide_eq_true c60
                                clear c60
                                by_cases c62 : y441.length < 140737488355328
                                · rw [if_pos c62] at H
                                  have LMc62 := Aside0.mk c62
                                  clear c62
                                  obtain ⟨y447, hy447⟩ : ∃ y_ : List Int, y_ = (y441 ++ [bt a2 t444]) := ⟨_, rfl⟩
                                  replace H : ((some (x7_1.drop (t404 : Int).toNat : List Int)).bind fun y450 => (if y447.length + y450.length < 140737488355328 then (spec_l1Bend.l0 kj9 a2 (y447 ++ y450) (wrap64 (x8_1 - 1)) s0_0 t445 t446) else (none))) = some (r1, r2, r3) := by first | (rw [hy447]; with_reducible exact H) | (have H2_ := (Option.bind_some _ _).symm.trans H; rw [hy447]; with_reducible exact H2_) | (have H2_ := (Option.bind_some _ _).symm.trans H; with_reducible exact H2_) | with_reducible exact H | (rw [hy447]; exact H) | exact H
                                  have Ny447 := Aside0.mk hy447
                                  clear hy447
                                  have c63b0 := eq_true (of_decide_eq_true (by first | (with_reducible assumption) | assumption) : 0 ≤ t404)
                                  have c64b0 := eq_true (of_decide_eq_true (by first | (with_reducible assumption) | assumption) : t404 ≤ (x7_1.length : Int))
                                  obtain ⟨y450, hy450⟩ : ∃ y_ : List Int, y_ = (x7_1.drop (t404 : Int).toNat) := ⟨_, rfl⟩
                                  replace H : (if y447.length + y450.length < 140737488355328 then (spec_l1Bend.l0 kj9 a2 (y447 ++ y450) (wrap64 (x8_1 - 1)) s0_0 t445 t446) else (none)) = some (r1, r2, r3) := by first | (rw [hy450]; with_reducible exact H) | (have H2_ := (Option.bind_some _ _).symm.trans H; rw [hy450]; with_reducible exact H2_) | (have H2_ := (Option.bind_some _ _).symm.trans H; with_reducible exact H2_) | with_reducible exact H | (rw [hy450]; exact H) | exact H
                                  have Ny450 := Aside0.mk hy450
                                  clear hy450
                                  by_cases c65 : y447.length + y450.length < 140737488355328
                                  · rw [if_pos c65] at H
                                    have LMc65 := Aside0.mk c65
                                    clear c65
                                    obtain ⟨y454, hy454⟩ : ∃ y_ : List Int, y_ = (y447 ++ y450) := ⟨_, rfl⟩
                                    replace H : (spec_l1Bend.l0 kj9 a2 y454 (wrap64 (x8_1 - 1)) s0_0 t445 t446) = some (r1, r2, r3) := by first | (rw [hy454]; with_reducible exact H) | (have H2_ := (Option.bind_some _ _).symm.trans H; rw [hy454]; with_reducible exact H2_) | (have H2_ := (Option.bind_some _ _).symm.trans H; with_reducible exact H2_) | with_reducible exact H | (rw [hy454]; exact H) | exact H
                                    have Ny454 := Aside0.mk hy454
                                    clear hy454
                                    have H' := Aside0.mk H
                                    clear H
                                    obtain ⟨Ao66, co66, eo66⟩ := HS.out.bb.slice
                                    subst eo66
                                    have q71 : (t404 : Int) ≤ ((x7_1.length : Int) : Int) := of_decide_eq_true (by first | (with_reducible assumption) | assumption)
                                    have KL71 : (t404 : Int).toNat ≤ x7_1.length := by omega
                                    obtain ⟨i071, hi071, _, hsz71, _⟩ := info_parts info5
                                    have hcut71 := cut_to (P := Tryz.prog) 22 5 .i64 Tryz.underlying22 hi071 Ao66 x7_1.length co66 t404 (of_decide_eq_true (by first | (with_reducible assumption) | assumption)) q71 HS.out.bb.reads.2.1
                                    have hy71 : y437.length = (t404 : Int).toNat := (by rw [Ny437.out, length_take]; omega)
                                    rw [← hy71] at hcut71
                                    have HY71 := Aside0.mk hy71
                                    clear hy71
                                    replace q71 := eq_true q71
                                    have q75 : (t404 : Int) ≤ ((x7_1.length : Int) : Int) := of_decide_eq_true (by first | (with_reducible assumption) | assumption)
                                    have KL75 : (t404 : Int).toNat ≤ x7_1.length := by omega
                                    have q075 : (0 : Int) ≤ (t404 : Int) := of_decide_eq_true (by first | (with_reducible assumption) | assumption)
                                    obtain ⟨i075, hi075, _, hsz75, _⟩ := info_parts info5
                                    have hcut75 := cut_from (P := Tryz.prog) 22 5 .i64 Tryz.underlying22 hi075 1 hsz75 Ao66 x7_1.length co66 t404 q075 q75
                                    have hroom75 := HS.out.bb.reads.2.1
                                    obtain ⟨A75, hA75⟩ : ∃ A1, A1 = (if co66 = (t404 : Int).toNat then Ao66 else (Ao66 : Option Addr).map (·.add ((t404 : Int).toNat * 1))) := ⟨_, rfl⟩
                                    obtain ⟨c75, hc75⟩ : ∃ c1, c1 = co66 - (t404 : Int).toNat := ⟨_, rfl⟩
                                    have hy75 : y450.length = x7_1.length - (t404 : Int).toNat := (by rw [Ny450.out, length_drop] <;> omega)
                                    rw [← hy75, ← hA75, ← hc75] at hcut75
                                    have HA75 := Aside0.mk hA75
                                    clear hy75 hA75 hc75
                                    replace q75 := eq_true q75
                                    go_wp2_with (first | ((with_reducible refine gate_callee (f := 26) rfl ?_); refine goesL_ (some 26) rfl rfl Tryz.func26 (by kernel_rfl) rfl #[.pointer (some ⟨g, 0, none⟩), .int .i64 (x7_1.length : Int)] rfl (by (try simp only [map_toArray, map_cons, map_nil]); first | done | rfl) ?_; (with_reducible refine (spec_l1Below.calls g s0_0 x1001_1 x1002_1 (x7_1.length : Int) t404 t405 t406 w0 _ ?side1 ?side2 A14.out).mono ?_); (case side1 => exact St.is (by repeat (first | (with_reducible exact HS.out) | apply St.drewN | apply St.drew | exact HS.out))); (case side2 => exact St.bl (by repeat (first | (with_reducible exact HS.out) | apply St.drewN | apply St.drew | exact HS.out))); rintro e wz ⟨rfl, hi, hb, hk⟩; refine ⟨_, rfl, ?_⟩; have n0_ := Aside0.mk (St.call (by repeat (first | (with_reducible exact HS.out) | apply St.drewN | apply St.drew | exact HS.out)) hi hb hk); clear HS; have HS := n0_; clear n0_ hi hb hk) | ((with_reducible refine gate_callee (f := 26) rfl ?_); refine goesL_ (some 28) rfl rfl Tryz.func26 (by kernel_rfl) rfl #[.pointer (some ⟨g, 0, none⟩), .int .i64 4] rfl (by (try simp only [map_toArray, map_cons, map_nil]); first | done | rfl) ?_; (with_reducible refine (spec_l1Below.calls g s0_0 t405 t406 4 t407 t408 t409 w0 _ ?side1 ?side2 A15.out).mono ?_); (case side1 => exact St.is (by repeat (first | (with_reducible exact HS.out) | apply St.drewN | apply St.drew | exact HS.out))); (case side2 => exact St.bl (by repeat (first | (with_reducible exact HS.out) | apply St.drewN | apply St.drew | exact HS.out))); rintro e wz ⟨rfl, hi, hb, hk⟩; refine ⟨_, rfl, ?_⟩; have n0_ := Aside0.mk (St.call (by repeat (first | (with_reducible exact HS.out) | apply St.drewN | apply St.drew | exact HS.out)) hi hb hk); clear HS; have HS := n0_; clear n0_ hi hb hk))
                                    have n0_ := Aside0.mk (St.drew (by repeat (first | (with_reducible exact HS.out) | apply St.drewN | apply St.drew | exact HS.out)))
                                    clear HS
                                    have HS := n0_
                                    clear n0_
                                    refine start_ (n := 18) (S := fun _ => True) (ds := []) #[false, false, false, false, false, false, false, false, false, false, false, false, false, false, false, false, false, false] (by kernel_rfl) rfl rfl trivial (fun _ => ?_)
                                    refine pure_ (i := 1) (N := some 60) (v := ?_) (a' := ?_) #[false, true, false, false, false, false, false, false, false, false, false, false, false, false, false, false, false, false] rfl rfl (by kernel_rfl) (fun _ _ _ h => h) (Or.inl ⟨by rfl, ?_⟩) ?_ ?_
                                    rotate_left
                                    · intro w'
                                      go_simp
                                      with_reducible rfl
                                    rotate_left
                                    · simp only [Act.put, setIfInBounds_toArray, set_cons_zero, set_cons_succ, i64_w, i32_w]
                                      rfl
                                    refine pure_ (i := 2) (N := some 61) (v := ?_) (a' := ?_) #[false, true, true, false, false, false, false, false, false, false, false, false, false, false, false, false, false, false] rfl rfl (by kernel_rfl) (fun _ _ _ h => h) (Or.inl ⟨by rfl, ?_⟩) ?_ ?_
                                    rotate_left
                                    · intro w'
                                      go_simp
                                      with_reducible rfl
                                    rotate_left
                                    · simp only [Act.put, setIfInBounds_toArray, set_cons_zero, set_cons_succ, i64_w, i32_w]
                                      rfl
                                    refine pure_ (i := 3) (N := some 62) (v := ?_) (a' := ?_) #[false, true, true, true, false, false, false, false, false, false, false, false, false, false, false, false, false, false] rfl rfl (by kernel_rfl) (fun _ _ _ h => h) (Or.inl ⟨by rfl, ?_⟩) ?_ ?_
                                    rotate_left
                                    · intro w'
                                      go_simp
                                      with_reducible rfl
                                    rotate_left
                                    · simp only [Act.put, setIfInBounds_toArray, set_cons_zero, set_cons_succ, i64_w, i32_w]
                                      rfl
                                    refine pure_ (i := 5) (N := some 64) (v := ?_) (a' := ?_) #[false, true, true, true, false, true, false, false, false, false, false, false, false, false, false, false, false, false] rfl rfl (by kernel_rfl) (fun _ _ _ h => h) (Or.inl ⟨by rfl, ?_⟩) ?_ ?_
                                    rotate_left
                                    · intro w'
                                      go_simp
                                      with_reducible rfl
                                    rotate_left
                                    · simp only [Act.put, setIfInBounds_toArray, set_cons_zero, set_cons_succ, i64_w, i32_w]
                                      rfl
                                    refine pure_ (i := 6) (N := some 65) (v := ?_) (a' := ?_) #[false, true, true, true, false, true, true, false, false, false, false, false, false, false, false, false, false, false] rfl rfl (by kernel_rfl) (fun _ _ _ h => h) (Or.inl ⟨by rfl, ?_⟩) ?_ ?_
                                    rotate_left
                                    · intro w'
                                      go_simp
                                      with_reducible rfl
                                    rotate_left
                                    · simp only [Act.put, setIfInBounds_toArray, set_cons_zero, set_cons_succ, i64_w, i32_w]
                                      rfl
                                    refine pure_ (i := 7) (N := some 66) (v := ?_) (a' := ?_) #[false, true, true, true, false, true, true, true, false, false, false, false, false, false, false, false, false, false] rfl rfl (by kernel_rfl) (fun _ _ _ h => h) (Or.inl ⟨by rfl, ?_⟩) ?_ ?_
                                    rotate_left
                                    · intro w'
                                      go_simp
                                      with_reducible rfl
                                    rotate_left
                                    · simp only [Act.put, setIfInBounds_toArray, set_cons_zero, set_cons_succ, i64_w, i32_w]
                                      rfl
                                    refine pure_ (i := 8) (N := some 67) (v := ?_) (a' := ?_) #[false, true, true, true, false, true, true, true, true, false, false, false, false, false, false, false, false, false] rfl rfl (by kernel_rfl) (fun _ _ _ h => h) (Or.inl ⟨by rfl, ?_⟩) ?_ ?_
                                    rotate_left
                                    · intro w'
                                      go_simp
                                      with_reducible rfl
                                    rotate_left
                                    · simp only [Act.put, setIfInBounds_toArray, set_cons_zero, set_cons_succ, i64_w, i32_w]
                                      rfl
                                    refine pure_ (i := 13) (N := some 72) (v := ?_) (a' := ?_) #[false, true, true, true, false, true, true, true, true, false, false, false, false, true, false, false, false, false] rfl rfl (by kernel_rfl) (fun _ _ _ h => h) (Or.inl ⟨by rfl, ?_⟩) ?_ ?_
                                    rotate_left
                                    · intro w'
                                      go_simp
                                      with_reducible rfl
                                    rotate_left
                                    · simp only [Act.put, setIfInBounds_toArray, set_cons_zero, set_cons_succ, i64_w, i32_w]
                                      rfl
                                    refine pure_ (i := 14) (N := some 73) (v := ?_) (a' := ?_) #[false, true, true, true, false, true, true, true, true, false, false, false, false, true, true, false, false, false] rfl rfl (by kernel_rfl) (fun _ _ _ h => h) (Or.inl ⟨by rfl, ?_⟩) ?_ ?_
                                    rotate_left
                                    · intro w'
                                      go_simp
                                      with_reducible rfl
                                    rotate_left
                                    · simp only [Act.put, setIfInBounds_toArray, set_cons_zero, set_cons_succ, i64_w, i32_w]
                                      rfl
                                    refine pure_ (i := 15) (N := some 74) (v := ?_) (a' := ?_) #[false, true, true, true, false, true, true, true, true, false, false, false, false, true, true, true, false, false] rfl rfl (by kernel_rfl) (fun _ _ _ h => h) (Or.inl ⟨by rfl, ?_⟩) ?_ ?_
                                    rotate_left
                                    · intro w'
                                      go_simp
                                      with_reducible rfl
                                    rotate_left
                                    · simp only [Act.put, setIfInBounds_toArray, set_cons_zero, set_cons_succ, i64_w, i32_w]
                                      rfl
                                    refine one_ (i := 0) (N := some 59) #[true, true, true, true, false, true, true, true, true, false, false, false, false, true, true, true, false, false] rfl rfl (by kernel_rfl) (by decide) (fun K hK => ?_)
                                    refine Kd.R_lit_step (Kd.int .u8) _ 5 ?hg (N := 59) ?hd (xs := ([] : List Int)) (inner := []) (ok := fun _ => True) (okp := fun _ => True) ?hr ?hp (fun _ hk => hk) trivial (Below.refl _ _) (Nat.le_refl _) (by simp) ?_; (case hd => rfl); (case hg => rfl); (case hr => first | (go_simp; done) | (go_simp; rfl)); (case hp => exact (Reps.none _ _))
                                    intro va wa ho hb hg_ hnew_
                                    clear hg_ hnew_
                                    rw [← Ny434.out] at ho
                                    have H2 := Aside0.mk (St.made HS.out ho hb)
                                    clear HS ho hb
                                    refine hK.out _ _ trivial (fun _ => ?_)
                                    clear hK K
                                    refine norm_ (a' := ?_) ?_ ?_
                                    rotate_left
                                    · show Act.put _ (some 59) _ = _
                                      simp only [Act.put, setIfInBounds_toArray, set_cons_zero, set_cons_succ, i64_w, i32_w]
                                      rfl
                                    refine one_ (i := 4) (N := some 63) #[true, true, true, true, true, true, true, true, true, false, false, false, false, true, true, true, false, false] rfl rfl (by kernel_rfl) (by decide) (fun K hK => ?_)
                                    refine Kd.R_append_rows_step (Kd.int .u8) w.heap.size (by rfl) (.tmp 59) (.tmp 62) 22 5 (.int .u8 0) 1 rfl Tryz.underlying22 info5 rfl (by decide) (by omega) _ y434 y437 _ _ _ (fun k_ => some k_ ≠ (.slice Ao66 x7_1.length co66 : Value).ownBlock) (fun _ => False) rfl rfl H2.out.row (by rw [Ny437.out]; exact Kd.C_take H2.out.bb.reads.2.2 KL71) (fun _ _ h => h) (fun _ h => h.elim) (fun k_ hk => H2.out.fresh k_ hk) (Below.refl _ _) H2.out.toSt.size ?aL ?_; (case aL => have := LMc57.out; (try simp only [List.length_cons, List.length_nil]); omega)
                                    intro vb wb ho hb hg_ _
                                    rw [← Ny441.out] at ho
                                    have n0_ := Aside0.mk (St2.wrote HL.out H2.out ho hb hg_)
                                    clear H2 ho hb hg_
                                    have H2 := n0_
                                    clear n0_
                                    refine hK.out _ _ trivial (fun _ => ?_)
                                    clear hK K
                                    refine norm_ (a' := ?_) ?_ ?_
                                    rotate_left
                                    · show Act.put _ (some 63) _ = _
                                      simp only [Act.put, setIfInBounds_toArray, set_cons_zero, set_cons_succ, i64_w, i32_w]
                                      rfl
                                    refine one_ (i := 9) (N := some 68) #[true, true, true, true, true, true, true, true, true, true, false, false, false, true, true, true, false, false] rfl rfl (by kernel_rfl) (by decide) (fun K hK => ?_)
                                    refine goes_ Tryz.func26 (by kernel_rfl) rfl #[.pointer (some ⟨g, 0, none⟩), .int .i64 (a2.size : Int)] (by rfl) rfl rfl (by (try simp only [map_toArray, map_cons, map_nil]); first | done | rfl) ?_
                                    with_reducible refine (spec_l1Below.calls g s0_0 t408 t409 (a2.size : Int) t444 t445 t446 w0 _ ?side1 ?side2 A58.out).mono ?_
                                    (case side1 => exact H2.out.is)
                                    (case side2 => exact H2.out.bl)
                                    rintro e wz2 ⟨rfl, hi, hb, hk⟩
                                    refine ⟨_, rfl, ?_⟩
                                    have n0_ := Aside0.mk (St2.call H2.out hi hb hk)
                                    clear H2 hi hb hk
                                    have H2 := n0_
                                    clear n0_
                                    have p61 : 0 ≤ (t444 : Int) := of_decide_eq_true (by first | (with_reducible assumption) | assumption)
                                    have q61 : t444 < (a2.size : Int) := of_decide_eq_true (by first | (with_reducible assumption) | assumption)
                                    have hx61 := bt_at a2 t444
                                    replace p61 := eq_true p61
                                    replace q61 := eq_true q61
                                    refine hK.out _ _ trivial (fun _ => ?_)
                                    clear hK K
                                    refine norm_ (a' := ?_) ?_ ?_
                                    rotate_left
                                    · show Act.put _ (some 68) _ = _
                                      simp only [Act.put, setIfInBounds_toArray, set_cons_zero, set_cons_succ, i64_w, i32_w]
                                      rfl
                                    refine pure_ (i := 10) (N := some 69) (v := ?_) (a' := ?_) #[true, true, true, true, true, true, true, true, true, true, true, false, false, true, true, true, false, false] rfl rfl (by kernel_rfl) (fun _ _ _ h => h) (Or.inl ⟨by rfl, ?_⟩) ?_ ?_
                                    rotate_left
                                    · intro w'
                                      go_simp
                                      with_reducible rfl
                                    rotate_left
                                    · simp only [Act.put, setIfInBounds_toArray, set_cons_zero, set_cons_succ, i64_w, i32_w]
                                      rfl
                                    refine one_ (i := 11) (N := some 70) #[true, true, true, true, true, true, true, true, true, true, true, true, false, true, true, true, false, false] rfl rfl (by kernel_rfl) (by decide) (fun K hK => ?_)
                                    refine Kd.R_lit_step (Kd.int .u8) _ 5 ?hg (N := 70) ?hd (xs := [bt a2 t444]) (inner := [.int .u8 (bt a2 t444)]) (ok := fun _ => True) (okp := fun _ => True) ?hr ?hp (fun _ hk => hk) trivial (Below.refl _ _) (Nat.le_refl _) (by simp) ?_; (case hd => rfl); (case hg => rfl); (case hr => first | (go_simp; done) | (go_simp; rfl)); (case hp => exact Kd.reps_scalar [bt a2 t444])
                                    intro vc wc ho hb hg_ hnew_
                                    clear hg_ hnew_
                                    have n0_ := Aside0.mk (St2.below H2.out hb)
                                    clear H2 hb
                                    have H2 := n0_
                                    clear n0_
                                    obtain ⟨Al, cl, el⟩ := Kd.R_slice ho
                                    subst el
                                    have HL1 := Aside0.mk (R_reads' ho).2.2
                                    clear ho
                                    refine hK.out _ _ trivial (fun _ => ?_)
                                    clear hK K
                                    refine norm_ (a' := ?_) ?_ ?_
                                    rotate_left
                                    · show Act.put _ (some 70) _ = _
                                      simp only [Act.put, setIfInBounds_toArray, set_cons_zero, set_cons_succ, i64_w, i32_w]
                                      rfl
                                    refine one_ (i := 12) (N := some 71) #[true, true, true, true, true, true, true, true, true, true, true, true, true, true, true, true, false, false] rfl rfl (by kernel_rfl) (by decide) (fun K hK => ?_)
                                    refine Kd.R_append_rows_step (Kd.int .u8) w.heap.size (by rfl) (.tmp 63) (.tmp 70) 22 5 (.int .u8 0) 1 rfl Tryz.underlying22 info5 rfl (by decide) (by omega) _ y441 [bt a2 t444] _ _ _ (fun k_ => some k_ ≠ (.slice Ao66 x7_1.length co66 : Value).ownBlock) (fun _ => False) rfl rfl H2.out.row HL1.out (fun _ _ h => h) (fun _ h => h.elim) (fun k_ hk => H2.out.fresh k_ hk) (Below.refl _ _) H2.out.toSt.size ?aL ?_; (case aL => have := LMc62.out; (try simp only [List.length_cons, List.length_nil]); omega)
                                    intro vb wb ho hb hg_ _
                                    rw [← Ny447.out] at ho
                                    have n0_ := Aside0.mk (St2.wrote HL.out H2.out ho hb hg_)
                                    clear H2 ho hb hg_
                                    have H2 := n0_
                                    clear n0_
                                    refine hK.out _ _ trivial (fun _ => ?_)
                                    clear hK K
                                    refine norm_ (a' := ?_) ?_ ?_
                                    rotate_left
                                    · show Act.put _ (some 71) _ = _
                                      simp only [Act.put, setIfInBounds_toArray, set_cons_zero, set_cons_succ, i64_w, i32_w]
                                      rfl
                                    refine one_ (i := 16) (N := some 75) #[true, true, true, true, true, true, true, true, true, true, true, true, true, true, true, true, true, false] rfl rfl (by kernel_rfl) (by decide) (fun K hK => ?_)
                                    refine Kd.R_append_rows_step (Kd.int .u8) w.heap.size (by rfl) (.tmp 71) (.tmp 74) 22 5 (.int .u8 0) 1 rfl Tryz.underlying22 info5 rfl (by decide) (by omega) _ y447 y450 _ _ _ (fun k_ => some k_ ≠ (.slice Ao66 x7_1.length co66 : Value).ownBlock) (fun _ => False) rfl rfl H2.out.row (by rw [Ny450.out, HA75.out]; exact Kd.C_drop (m := (t404 : Int).toNat) (c := co66) H2.out.bb.reads.2.2 KL75 hroom75) (fun _ _ h => h) (fun _ h => h.elim) (fun k_ hk => H2.out.fresh k_ hk) (Below.refl _ _) H2.out.toSt.size ?aL ?_; (case aL => have := LMc65.out; (try simp only [List.length_cons, List.length_nil]); omega)
                                    intro vb wb ho hb hg_ _
                                    rw [← Ny454.out] at ho
                                    have n0_ := Aside0.mk (St2.wrote HL.out H2.out ho hb hg_)
                                    clear H2 ho hb hg_
                                    have H2 := n0_
                                    clear n0_
                                    refine hK.out _ _ trivial (fun _ => ?_)
                                    clear hK K
                                    refine norm_ (a' := ?_) ?_ ?_
                                    rotate_left
                                    · show Act.put _ (some 75) _ = _
                                      simp only [Act.put, setIfInBounds_toArray, set_cons_zero, set_cons_succ, i64_w, i32_w]
                                      rfl
                                    refine pure_ (i := 17) (N := some 7) (v := ?_) (a' := ?_) #[true, true, true, true, true, true, true, true, true, true, true, true, true, true, true, true, true, true] rfl rfl (by kernel_rfl) (fun _ _ _ h => h) (Or.inl ⟨by rfl, ?_⟩) ?_ ?_
                                    rotate_left
                                    · intro w'
                                      go_simp
                                      with_reducible rfl
                                    rotate_left
                                    · simp only [Act.put, setIfInBounds_toArray, set_cons_zero, set_cons_succ, i64_w, i32_w]
                                      rfl
                                    refine done_ (by kernel_rfl) ?_
                                    have HS := Aside0.mk H2.out.end_
                                    clear H2
                                    go_wp2
                                    go_roundg kj9
                                    case measure => have := HK1.out; have := HJ9.out; omega
                                    case rel => exact ⟨(y454), (wrap64 (x8_1 - 1)), (t445), (t446), (by first | rfl | (simp; done) | (simp [*]; done)), H', ⟨by have := HK1.out; have := HJ9.out; omega⟩, ⟨(by repeat (first | (with_reducible exact HS.out) | apply St.drewN | apply St.drew | exact HS.out))⟩⟩
                                  · rw [if_neg c65] at H
                                    exact absurd H (by simp)
                                · rw [if_neg c62] at H
                                  exact absurd H (by simp)
                              · rw [if_neg c60] at H
                                exact absurd H (by simp)
                            · rw [if_neg c59] at H
                              exact absurd H (by simp)
                          · rw [if_neg c57] at H
                            exact absurd H (by simp)
                        · rw [if_neg c56] at H
                          exact absurd H (by simp)
                      · rw [if_neg c55] at H
                        exact absurd H (by simp)
                    · rw [if_neg c54] at H
                      have c54b0 : (t407 == 3) = false := beq_eq_false_iff_ne.mpr c54
                      have c54b1 : (t407 != 3) = true := bne_iff_ne.mpr c54
                      have H' := Aside0.mk H
                      clear H
                      obtain ⟨Ao77, co77, eo77⟩ := HS.out.bb.slice
                      subst eo77
                      go_wp2_with (first | ((with_reducible refine gate_callee (f := 26) rfl ?_); refine goesL_ (some 26) rfl rfl Tryz.func26 (by kernel_rfl) rfl #[.pointer (some ⟨g, 0, none⟩), .int .i64 (x7_1.length : Int)] rfl (by (try simp only [map_toArray, map_cons, map_nil]); first | done | rfl) ?_; (with_reducible refine (spec_l1Below.calls g s0_0 x1001_1 x1002_1 (x7_1.length : Int) t404 t405 t406 w0 _ ?side1 ?side2 A14.out).mono ?_); (case side1 => exact St.is (by repeat (first | (with_reducible exact HS.out) | apply St.drewN | apply St.drew | exact HS.out))); (case side2 => exact St.bl (by repeat (first | (with_reducible exact HS.out) | apply St.drewN | apply St.drew | exact HS.out))); rintro e wz ⟨rfl, hi, hb, hk⟩; refine ⟨_, rfl, ?_⟩; have n0_ := Aside0.mk (St.call (by repeat (first | (with_reducible exact HS.out) | apply St.drewN | apply St.drew | exact HS.out)) hi hb hk); clear HS; have HS := n0_; clear n0_ hi hb hk) | ((with_reducible refine gate_callee (f := 26) rfl ?_); refine goesL_ (some 28) rfl rfl Tryz.func26 (by kernel_rfl) rfl #[.pointer (some ⟨g, 0, none⟩), .int .i64 4] rfl (by (try simp only [map_toArray, map_cons, map_nil]); first | done | rfl) ?_; (with_reducible refine (spec_l1Below.calls g s0_0 t405 t406 4 t407 t408 t409 w0 _ ?side1 ?side2 A15.out).mono ?_); (case side1 => exact St.is (by repeat (first | (with_reducible exact HS.out) | apply St.drewN | apply St.drew | exact HS.out))); (case side2 => exact St.bl (by repeat (first | (with_reducible exact HS.out) | apply St.drewN | apply St.drew | exact HS.out))); rintro e wz ⟨rfl, hi, hb, hk⟩; refine ⟨_, rfl, ?_⟩; have n0_ := Aside0.mk (St.call (by repeat (first | (with_reducible exact HS.out) | apply St.drewN | apply St.drew | exact HS.out)) hi hb hk); clear HS; have HS := n0_; clear n0_ hi hb hk))
                      go_roundg kj9
                      case measure => have := HK1.out; have := HJ9.out; omega
                      case rel => exact ⟨(x7_1), (wrap64 (x8_1 - 1)), (t408), (t409), (by first | rfl | (simp; done) | (simp [*]; done)), H', ⟨by have := HK1.out; have := HJ9.out; omega⟩, ⟨(by repeat (first | (with_reducible exact HS.out) | apply St.drewN | apply St.drew | exact HS.out))⟩⟩
            · replace c13 := Bool.eq_false_iff.mpr c13
              subst c13
              have H1 : (some (strOfNums x7_1, x1001_1, x1002_1)) = some (r1, r2, r3) := by rw [if_neg (show ¬ (false = true) by decide)] at H; exact H
              clear H
              have H := H1
              clear H1
              simp only [Option.some.injEq, Prod.mk.injEq] at H
              obtain ⟨rfl, rfl, rfl⟩ := H
              have hcv80 := BB.string (P := Tryz.prog) Tryz.underlying22 Tryz.underlying5 Tryz.underlying9 HS.out.bb
              go_wp2
              go_ret
              exact ⟨by first | rfl | (simp [errW_none, errW_some] <;> rfl) | (simp [*, errW_none, errW_some] <;> rfl), St.is (by repeat (first | (with_reducible exact HS.out) | apply St.drewN | apply St.drew | exact HS.out)), St.bl (by repeat (first | (with_reducible exact HS.out) | apply St.drewN | apply St.drew | exact HS.out)), St.kb (by repeat (first | (with_reducible exact HS.out) | apply St.drewN | apply St.drew | exact HS.out))⟩
  · rw [if_neg c4] at H
    exact absurd H (by simp)
end Go.Proofs.YtggajlaifoddeaaGreatDoor.PFnProgBack
