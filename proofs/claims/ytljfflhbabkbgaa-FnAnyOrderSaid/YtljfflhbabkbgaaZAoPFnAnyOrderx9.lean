/- Texts of the claim of the law FnAnyOrder, made smaller by a program of this session: what the claim does not use is left out. No condition. -/
import Derived.Test.YtljfflhbabkbgaaZAoPFnAnyOrderx0
import Derived.Test.YtljfflhbabkbgaaZAoPFnAnyOrderx1
import Derived.Test.YtljfflhbabkbgaaZAoPFnAnyOrderx4
import Derived.Test.YtljfflhbabkbgaaZAoPFnAnyOrderx6
import Derived.Test.YtljfflhbabkbgaaZAoPFnAnyOrderx7
import Derived.Test.YtljfflhbabkbgaaZAoPFnAnyOrderx8
namespace Go.Proofs.Ytljfflhbabkbgaa.PFnAnyOrder
open Go.RowKit Go.Proofs.YtljfflhbabkbgaaW.PrintWords Go.Proofs.YtljfflhbabkbgaaW.PrintLast Go.Proofs.YtljfflhbabkbgaaW.PrintMore
open List (setIfInBounds_toArray)
open Option (bind_eq_some_iff)
open Go.World (drewN_drewN)
open Kd (R_drew R_drewN R_alloc C_drewN C_drew C_alloc R_reads' R_below)
attribute [local go_sem] max2_int min2_int max_two min_two max_three min_three max_four min_four   -- for this text's walks alone
set_option linter.unusedVariables false
set_option linter.unusedSimpArgs false
attribute [local go_sem high] eqA31
mutual
def laws_FnAnyOrder.l0 : Nat → Int → List Int → List Int → Int → List Int → Int → Int → Option (Bool)
  | 0, _, _, _, _, _, _, _ => none
  | k + 1, x4, x5, x6, x7, x278000, x278001, x278002 => if x7 < x4 then ((laws_dice_below.f x278000 x278001 x278002 9).bind fun bt287 => (if x5.length < 17592186044416 then (if x6.length < 17592186044416 then (laws_FnAnyOrder.l0 k x4 (x5 ++ [bt287.1]) (x6 ++ [x7]) (wrap64 (x7 + 1)) x278000 bt287.2.1 bt287.2.2) else (none)) else (none))) else (laws_FnAnyOrder.l1 k x4 x5 x6 (wrap64 (x4 - 1)) x278000 x278001 x278002)
def laws_FnAnyOrder.l1 : Nat → Int → List Int → List Int → Int → List Int → Int → Int → Option (Bool)
  | 0, _, _, _, _, _, _, _ => none
  | k + 1, x4, x5, x6, x8, x278000, x278001, x278002 => if x8 > 0 then ((laws_dice_below.f x278000 x278001 x278002 (wrap64 (x8 + 1))).bind fun bt296 => (if 0 ≤ x8 then (if x8 < (x6.length : Int) then (if 0 ≤ bt296.1 then (if bt296.1 < (x6.length : Int) then (laws_FnAnyOrder.l1 k x4 x5 ((x6.set (x8 : Int).toNat (rd x6 bt296.1)).set (bt296.1 : Int).toNat (rd x6 x8)) (wrap64 (x8 - 1)) x278000 bt296.2.1 bt296.2.2) else (none)) else (none)) else (none)) else (none))) else ((laws_heaped.f k x5 x6).bind fun bt303 => (if bt303.2 = true then ((impl_HeapOk.f k bt303.1).bind fun t307 => (if t307 = true then (laws_FnAnyOrder.j2 k x4 x5 bt303.1 ((bt303.1.length : Int) != x4)) else (laws_FnAnyOrder.j2 k x4 x5 bt303.1 true))) else (laws_FnAnyOrder.j2 k x4 x5 bt303.1 true)))
def laws_FnAnyOrder.j2 : Nat → Int → List Int → List (S31) → Bool → Option (Bool)
  | 0, _, _, _, _ => none
  | k + 1, x4, x5, x12, x88 => if x88 = true then (some false) else ((impl_Sorted.f k x12).bind fun t308 => (if (t308.length : Int) = x4 then (laws_FnAnyOrder.l2 k x4 x5 x12 t308 0) else (some false)))
def laws_FnAnyOrder.l2 : Nat → Int → List Int → List (S31) → List (S31) → Int → Option (Bool)
  | 0, _, _, _, _, _ => none
  | k + 1, x4, x5, x12, x14, x15 => if x15 < x4 then ((impl_Shifted.f k x12).bind fun bt311 => (if bt311.2.2.2.2 = true then (if 0 ≤ x15 then (if x15 < (x14.length : Int) then (if (!(bt311.1 == ((rd_T31 x14 x15).f0)) || (!(bt311.2.1 == ((rd_T31 x14 x15).f1)) || (!(bt311.2.2.1 == ((rd_T31 x14 x15).f2))))) = true then (some false) else (if 0 ≤ bt311.2.1 then (if bt311.2.1 < (x5.length : Int) then (if (rd x5 bt311.2.1) = bt311.1 then (if x15 > 0 then (if 0 ≤ (wrap64 (x15 - 1)) then (if (wrap64 (x15 - 1)) < (x14.length : Int) then (if ((rd_T31 x14 x15).f0) < ((rd_T31 x14 (wrap64 (x15 - 1))).f0) then (some false) else (if ((rd_T31 x14 x15).f0) = ((rd_T31 x14 (wrap64 (x15 - 1))).f0) then (if ((rd_T31 x14 x15).f1) ≤ ((rd_T31 x14 (wrap64 (x15 - 1))).f1) then (some false) else (laws_FnAnyOrder.l2 k x4 x5 bt311.2.2.2.1 x14 (wrap64 (x15 + 1)))) else (laws_FnAnyOrder.l2 k x4 x5 bt311.2.2.2.1 x14 (wrap64 (x15 + 1))))) else (none)) else (none)) else (laws_FnAnyOrder.l2 k x4 x5 bt311.2.2.2.1 x14 (wrap64 (x15 + 1)))) else (some false)) else (none)) else (none))) else (none)) else (none)) else (some false))) else ((impl_Shifted.f k x12).bind fun bt327 => (some (!bt327.2.2.2.2)))
end
def laws_FnAnyOrder.f (k : Nat) (l0 : List Int) : Option (Bool) := (laws_big.f l0).bind fun t273 => (if t273 = true then (some true) else ((laws_roll.f k l0 3).bind fun bt274 => ((laws_dice_below.f bt274.1 bt274.2.1 bt274.2.2 20).bind fun bt278 => (laws_FnAnyOrder.l0 k bt278.1 (([] : List Int)) (([] : List Int)) 0 bt274.1 bt278.2.1 bt278.2.2))))
set_option maxHeartbeats 8000000 in
set_option maxRecDepth 100000 in
theorem laws_FnAnyOrder.calls (k : Nat) (A0 : Option Addr) (c0 : Nat) (l0 : List Int) (r : Bool) (w : World) (hr0 : Kd.C (Kd.int .u8) w A0 l0.length l0) (hc0 : l0.length ≤ c0) (h : laws_FnAnyOrder.f k l0 = some r) :
    Calls Try.prog 12 #[.slice A0 l0.length c0] w fun e w' => e = .returned (.bool r) ∧ Below w.heap.size w w' := by
  have hu31 := Try.underlying31
  have HR0 := Aside0.mk hr0
  have HC0 := Aside0.mk hc0
  clear hr0 hc0
  have HB := Aside0.mk (Below.refl w.heap.size w)
  have H : ((laws_big.f l0).bind fun t273 => (if t273 = true then (some true) else ((laws_roll.f k l0 3).bind fun bt274 => ((laws_dice_below.f bt274.1 bt274.2.1 bt274.2.2 20).bind fun bt278 => (laws_FnAnyOrder.l0 k bt278.1 (([] : List Int)) (([] : List Int)) 0 bt274.1 bt278.2.1 bt278.2.2))))) = some r := h
  clear h
  replace H := bind_eq_some_iff.mp H
  obtain ⟨t273, A20, H⟩ := H
  replace H : (if t273 = true then (some true) else ((laws_roll.f k l0 3).bind fun bt274 => ((laws_dice_below.f bt274.1 bt274.2.1 bt274.2.2 20).bind fun bt278 => (laws_FnAnyOrder.l0 k bt278.1 (([] : List Int)) (([] : List Int)) 0 bt274.1 bt278.2.1 bt278.2.2)))) = some r := H
  have A2 := Aside0.mk A20
  clear A20
  by_cases c3 : t273 = true
  · subst c3
    have H1 : (some true) = some r := by rw [if_pos rfl] at H; exact H
    clear H
    have H := H1
    clear H1
    obtain rfl := Option.some.inj H
    go_enter Try.func12, Try.ntmps12
    go_wp2_with (go_at_call 42; (with_reducible refine (laws_big.calls _ _ l0 true _ ?side1 ?side2 A2.out).mono ?_); (case side1 => repeat (first | exact HR0.out | (with_reducible refine C_alloc ?_ _) | (with_reducible refine C_drewN ?_ _) | (with_reducible refine C_drew ?_))); (case side2 => exact HC0.out); rintro e w' ⟨rfl, ⟨nd, rfl⟩⟩; (try first | exact ⟨rfl, _, drewN_drewN _ _ _⟩ | exact ⟨rfl, _, Eq.trans (drewN_drewN _ _ _) (congrArg (World.drewN _) (Nat.add_assoc _ _ _))⟩))
    repeat (go_quiet (fail); try go_wp2_with (fail))
    go_ret
    exact ⟨by first | rfl | (simp [errW_none, errW_some] <;> rfl) | (simp [*, errW_none, errW_some] <;> rfl), by repeat (first | (with_reducible first | exact HB.out | apply bwA | apply bwN | apply bw1) | exact HB.out)⟩
  · replace c3 := Bool.eq_false_iff.mpr c3
    subst c3
    have H1 : ((laws_roll.f k l0 3).bind fun bt274 => ((laws_dice_below.f bt274.1 bt274.2.1 bt274.2.2 20).bind fun bt278 => (laws_FnAnyOrder.l0 k bt278.1 (([] : List Int)) (([] : List Int)) 0 bt274.1 bt278.2.1 bt278.2.2))) = some r := by rw [if_neg (show ¬ (false = true) by decide)] at H; exact H
    clear H
    have H := H1
    clear H1
    replace H := bind_eq_some_iff.mp H
    obtain ⟨⟨t274, t275, t276⟩, A40, H⟩ := H
    replace H : ((laws_dice_below.f t274 t275 t276 20).bind fun bt278 => (laws_FnAnyOrder.l0 k bt278.1 (([] : List Int)) (([] : List Int)) 0 t274 bt278.2.1 bt278.2.2)) = some r := H
    have A4 := Aside0.mk A40
    clear A40
    replace H := bind_eq_some_iff.mp H
    obtain ⟨⟨t278, t279, t280⟩, A50, H⟩ := H
    replace H : (laws_FnAnyOrder.l0 k t278 (([] : List Int)) (([] : List Int)) 0 t274 t279 t280) = some r := H
    have A5 := Aside0.mk A50
    clear A50
    obtain ⟨y281, hy281⟩ : ∃ y_ : List Int, y_ = (([] : List Int)) := ⟨_, rfl⟩
    replace H : (laws_FnAnyOrder.l0 k t278 y281 (([] : List Int)) 0 t274 t279 t280) = some r := by first | (rw [hy281]; with_reducible exact H) | (have H2_ := (Option.bind_some _ _).symm.trans H; rw [hy281]; with_reducible exact H2_) | (have H2_ := (Option.bind_some _ _).symm.trans H; with_reducible exact H2_) | with_reducible exact H | (rw [hy281]; exact H) | exact H
    have Ny281 := Aside0.mk hy281
    clear hy281
    obtain ⟨y284, hy284⟩ : ∃ y_ : List Int, y_ = (([] : List Int)) := ⟨_, rfl⟩
    replace H : (laws_FnAnyOrder.l0 k t278 y281 y284 0 t274 t279 t280) = some r := by first | (rw [hy284]; with_reducible exact H) | (have H2_ := (Option.bind_some _ _).symm.trans H; rw [hy284]; with_reducible exact H2_) | (have H2_ := (Option.bind_some _ _).symm.trans H; with_reducible exact H2_) | with_reducible exact H | (rw [hy284]; exact H) | exact H
    have Ny284 := Aside0.mk hy284
    clear hy284
    have H' := Aside0.mk H
    clear H
    go_enter Try.func12, Try.ntmps12
    go_wp2_with (first | (go_at_call 42; (with_reducible refine (laws_big.calls _ _ l0 false _ ?side1 ?side2 A2.out).mono ?_); (case side1 => repeat (first | exact HR0.out | (with_reducible refine C_alloc ?_ _) | (with_reducible refine C_drewN ?_ _) | (with_reducible refine C_drew ?_))); (case side2 => exact HC0.out); rintro e w' ⟨rfl, ⟨nd, rfl⟩⟩; (try first | exact ⟨rfl, _, drewN_drewN _ _ _⟩ | exact ⟨rfl, _, Eq.trans (drewN_drewN _ _ _) (congrArg (World.drewN _) (Nat.add_assoc _ _ _))⟩)) | (go_at_call 43; (with_reducible refine (laws_roll.calls k _ _ l0 3 t274 t275 t276 w _ ?side1 ?side2 ?side3 A4.out).mono ?_); (case side1 => repeat (first | (with_reducible first | exact HB.out | apply bwA | apply bwN | apply bw1) | exact HB.out)); (case side2 => exact HR0.out); (case side3 => exact HC0.out); rintro e w6 ⟨g277, rfl, hi, hb, hb2⟩; have n0_ := Aside0.mk (hb); have n1_ := Aside0.mk (hi); clear HB; have HB := n0_; have HI277 := n1_; clear n0_ n1_; (try clear hb); (try clear hb2); (try clear hk); (try clear hi)) | (go_at_call 44; (with_reducible refine (laws_dice_below.calls g277 t274 t275 t276 20 t278 t279 t280 w _ ?side1 ?side2 A5.out).mono ?_); (case side1 => repeat (first | (with_reducible first | exact HI277.out | apply IsS92.alloc | apply IsS92.drewN | apply IsS92.drew | apply IsS92.set_1 | apply IsS92.set_2) | exact HI277.out)); (case side2 => repeat (first | (with_reducible first | exact HB.out | apply bwA | apply bwN | apply bw1 | refine below_set ?_ (IsS92.ge HI277.out)) | exact HB.out)); rintro e w7 ⟨rfl, hi, hb, hk⟩; have n0_ := Aside0.mk (hb); have n1_ := Aside0.mk (hi); clear HB; clear HI277; have HB := n0_; have HI277 := n1_; clear n0_ n1_; (try clear hb); (try clear hb2); (try clear hk); (try clear hi)) | ((with_reducible refine gate_dst (N := 28) rfl ?_); (try (refine gate_guard (by rfl) ?_; dsimp only)); refine Kd.R_lit (Kd.int .i64) _ 2 ?hg (N := 28) ?hd (xs := ([] : List Int)) (inner := []) (ok := fun _ => True) (okp := fun _ => True) ?hr ?hp (fun _ hk => hk) trivial (Below.refl _ _) (Nat.le_refl _) (by simp) ?_; (case hd => rfl); (case hg => rfl); (case hr => first | (go_simp; done) | (go_simp; rfl)); (case hp => exact (Reps.none _ _)); intro v282 w8 ho9 hb hg_ hnew_; clear hg_ hnew_; (first | rw [← Ny281.out] at ho9 | (simp only [Int.reduceToNat] at ho9; rw [← Ny281.out] at ho9)); have n0_ := Aside0.mk (Kd.R_lower ho9 (below_size (by repeat (first | (with_reducible first | exact HB.out | apply bwA | apply bwN | apply bw1 | refine below_set ?_ (IsS92.ge HI277.out)) | exact HB.out)))); have n1_ := Aside0.mk (IsS92.below (by repeat (first | (with_reducible first | exact HI277.out | apply IsS92.alloc | apply IsS92.drewN | apply IsS92.drew | apply IsS92.set_1 | apply IsS92.set_2) | exact HI277.out)) hb); have n2_ := Aside0.mk (below_step (by repeat (first | (with_reducible first | exact HB.out | apply bwA | apply bwN | apply bw1 | refine below_set ?_ (IsS92.ge HI277.out)) | exact HB.out)) hb); clear HI277; clear HB; have HO283 := n0_; have HI277 := n1_; have HB := n2_; clear n0_ n1_ n2_; clear hb ho9) | ((with_reducible refine gate_dst (N := 29) rfl ?_); (try (refine gate_guard (by rfl) ?_; dsimp only)); refine Kd.R_lit (Kd.int .i64) _ 2 ?hg (N := 29) ?hd (xs := ([] : List Int)) (inner := []) (ok := fun _ => True) (okp := fun _ => True) ?hr ?hp (fun _ hk => hk) trivial (Below.refl _ _) (Nat.le_refl _) (by simp) ?_; (case hd => rfl); (case hg => rfl); (case hr => first | (go_simp; done) | (go_simp; rfl)); (case hp => exact (Reps.none _ _)); intro v285 w10 ho11 hb hg_ hnew_; clear hg_ hnew_; (first | rw [← Ny284.out] at ho11 | (simp only [Int.reduceToNat] at ho11; rw [← Ny284.out] at ho11)); have n0_ := Aside0.mk (Kd.R_elder' (by (with_reducible repeat (first | apply R_alloc | apply R_drewN | apply R_drew)); exact HO283.out) (Kd.R_base ho11) hb); have n1_ := Aside0.mk (Kd.R_lower (Kd.R_new' ho11 (Kd.R_lt (by (with_reducible repeat (first | apply R_alloc | apply R_drewN | apply R_drew)); exact HO283.out))) (below_size (by repeat (first | (with_reducible first | exact HB.out | apply bwA | apply bwN | apply bw1 | refine below_set ?_ (IsS92.ge HI277.out)) | exact HB.out)))); have n2_ := Aside0.mk (IsS92.below (by repeat (first | (with_reducible first | exact HI277.out | apply IsS92.alloc | apply IsS92.drewN | apply IsS92.drew | apply IsS92.set_1 | apply IsS92.set_2) | exact HI277.out)) hb); have n3_ := Aside0.mk (below_step (by repeat (first | (with_reducible first | exact HB.out | apply bwA | apply bwN | apply bw1 | refine below_set ?_ (IsS92.ge HI277.out)) | exact HB.out)) hb); clear HO283; clear HI277; clear HB; have HO283 := n0_; have HO286 := n1_; have HI277 := n2_; have HB := n3_; clear n0_ n1_ n2_ n3_; clear hb ho11))
    repeat (go_quiet (fail); try go_wp2_with (fail))
    go_loopg [5, 6, 7] k (fun kq v5 v6 v7 w' => ∃ (x5_1 : List Int) (x6_1 : List Int) (x7_1 : Int) (x278001_1 : Int) (x278002_1 : Int), v7 = .int .i64 x7_1 ∧ Aside0 (laws_FnAnyOrder.l0 kq t278 x5_1 x6_1 x7_1 t274 x278001_1 x278002_1 = some r) ∧ Aside0 (kq ≤ k) ∧ Aside0 (Kd.R (Kd.int .i64) 2 w' w.heap.size (fun k_ => some k_ ≠ (v6 : Value).ownBlock) v5 x5_1) ∧ Aside0 (Kd.R (Kd.int .i64) 2 w' w.heap.size (fun k_ => some k_ ≠ (v5 : Value).ownBlock) v6 x6_1) ∧ Aside0 (IsS92 w w' g277 t274 x278001_1 x278002_1) ∧ Aside0 (Below w.heap.size w w'))
    case atStart => exact ⟨(y281), (y284), (0), (t279), (t280), (by first | rfl | (simp; done) | (simp [*]; done)), H', ⟨Nat.le_refl _⟩, ⟨by (with_reducible repeat (first | apply R_alloc | apply R_drewN | apply R_drew)); exact Kd.R_mono HO283.out (fun _ hk => hk.2)⟩, ⟨by (with_reducible repeat (first | apply R_alloc | apply R_drewN | apply R_drew)); exact Kd.R_mono HO286.out (fun _ hk => hk.2)⟩, ⟨by repeat (first | (with_reducible first | exact HI277.out | apply IsS92.alloc | apply IsS92.drewN | apply IsS92.drew | apply IsS92.set_1 | apply IsS92.set_2) | exact HI277.out)⟩, ⟨by repeat (first | (with_reducible first | exact HB.out | apply bwA | apply bwN | apply bw1 | refine below_set ?_ (IsS92.ge HI277.out)) | exact HB.out)⟩⟩
    case round =>
      clear H'
      try clear c1
      try clear p2
      try clear c3
      obtain ⟨x5_1, x6_1, x7_1, x278001_1, x278002_1, rfl, HA, HK1, HO_5, HO_6, HI277, HB⟩ := hrel
      cases gk with
      | zero => exact absurd HA.out (by simp [laws_FnAnyOrder.l0])
      | succ k1 =>
        have H := HA.out
        clear HA
        simp only [laws_FnAnyOrder.l0] at H
        by_cases c12 : x7_1 < t278
        · rw [if_pos c12] at H
          have c12b0 : decide (x7_1 < t278) = true := decide_eq_true c12
          clear c12
          replace H := bind_eq_some_iff.mp H
          obtain ⟨⟨t287, t288, t289⟩, A130, H⟩ := H
          replace H : (if x5_1.length < 17592186044416 then (if x6_1.length < 17592186044416 then (laws_FnAnyOrder.l0 k1 t278 (x5_1 ++ [t287]) (x6_1 ++ [x7_1]) (wrap64 (x7_1 + 1)) t274 t288 t289) else (none)) else (none)) = some r := H
          have A13 := Aside0.mk A130
          clear A130
          by_cases c14 : x5_1.length < 17592186044416
          · rw [if_pos c14] at H
            have LMc14 := Aside0.mk c14
            clear c14
            obtain ⟨y290, hy290⟩ : ∃ y_ : List Int, y_ = (x5_1 ++ [t287]) := ⟨_, rfl⟩
            replace H : (if x6_1.length < 17592186044416 then (laws_FnAnyOrder.l0 k1 t278 y290 (x6_1 ++ [x7_1]) (wrap64 (x7_1 + 1)) t274 t288 t289) else (none)) = some r := by first | (rw [hy290]; with_reducible exact H) | (have H2_ := (Option.bind_some _ _).symm.trans H; rw [hy290]; with_reducible exact H2_) | (have H2_ := (Option.bind_some _ _).symm.trans H; with_reducible exact H2_) | with_reducible exact H | (rw [hy290]; exact H) | exact H
            have Ny290 := Aside0.mk hy290
            clear hy290
            by_cases c15 : x6_1.length < 17592186044416
            · rw [if_pos c15] at H
              have LMc15 := Aside0.mk c15
              clear c15
              obtain ⟨y293, hy293⟩ : ∃ y_ : List Int, y_ = (x6_1 ++ [x7_1]) := ⟨_, rfl⟩
              replace H : (laws_FnAnyOrder.l0 k1 t278 y290 y293 (wrap64 (x7_1 + 1)) t274 t288 t289) = some r := by first | (rw [hy293]; with_reducible exact H) | (have H2_ := (Option.bind_some _ _).symm.trans H; rw [hy293]; with_reducible exact H2_) | (have H2_ := (Option.bind_some _ _).symm.trans H; with_reducible exact H2_) | with_reducible exact H | (rw [hy293]; exact H) | exact H
              have Ny293 := Aside0.mk hy293
              clear hy293
              have H' := Aside0.mk H
              clear H
              go_wp2_with (first | (go_at_call 44; (with_reducible refine (laws_dice_below.calls g277 t274 x278001_1 x278002_1 9 t287 t288 t289 w _ ?side1 ?side2 A13.out).mono ?_); (case side1 => repeat (first | (with_reducible first | exact HI277.out | apply IsS92.alloc | apply IsS92.drewN | apply IsS92.drew | apply IsS92.set_1 | apply IsS92.set_2) | exact HI277.out)); (case side2 => repeat (first | (with_reducible first | exact HB.out | apply bwA | apply bwN | apply bw1 | refine below_set ?_ (IsS92.ge HI277.out)) | exact HB.out)); rintro e w16 ⟨rfl, hi, hb, hk⟩; have n0_ := Aside0.mk (Kd.R_mono (Kd.R_keep (IsS92.apart (show IsS92 w _ g277 t274 x278001_1 x278002_1 from by repeat (first | (with_reducible first | exact HI277.out | apply IsS92.alloc | apply IsS92.drewN | apply IsS92.drew | apply IsS92.set_1 | apply IsS92.set_2) | exact HI277.out)) (by (with_reducible repeat (first | apply R_alloc | apply R_drewN | apply R_drew)); exact HO_5.out) (by decide)) hk (fun _ h => h.2)) (fun _ h => h.1)); have n1_ := Aside0.mk (Kd.R_mono (Kd.R_keep (IsS92.apart (show IsS92 w _ g277 t274 x278001_1 x278002_1 from by repeat (first | (with_reducible first | exact HI277.out | apply IsS92.alloc | apply IsS92.drewN | apply IsS92.drew | apply IsS92.set_1 | apply IsS92.set_2) | exact HI277.out)) (by (with_reducible repeat (first | apply R_alloc | apply R_drewN | apply R_drew)); exact HO_6.out) (by decide)) hk (fun _ h => h.2)) (fun _ h => h.1)); have n2_ := Aside0.mk (hb); have n3_ := Aside0.mk (hi); clear HO_5; clear HO_6; clear HB; clear HI277; have HO_5 := n0_; have HO_6 := n1_; have HB := n2_; have HI277 := n3_; clear n0_ n1_ n2_ n3_; (try clear hb); (try clear hb2); (try clear hk); (try clear hi)) | ((with_reducible refine gate_builtin (b := .append) (xs := #[.tmp 35, .tmp 38]) rfl ?_); (try (refine gate_guard (by rfl) ?_; dsimp only)); at_builtin; refine Kd.R_append (Kd.int .i64) (w0 := w) w.heap.size rfl (.tmp 35) (.tmp 38) 62 2 (.int .i64 0) 8 rfl Try.underlying62 info2 rfl (by decide) (by omega) u5 x5_1 t287 [.int .i64 t287] (fun k_ => some k_ ≠ (u6 : Value).ownBlock) (fun _ => False) rfl rfl ?aP (fun _ hk => hk.elim) ?aF ?aO ?aB ?aS ?aL ?_; (case aP => exact rfl); (case aB => exact (by repeat (first | (with_reducible first | exact HB.out | apply bwA | apply bwN | apply bw1 | refine below_set ?_ (IsS92.ge HI277.out)) | exact HB.out))); (case aF => exact (fun k_ hk => Kd.fresh' (Kd.R_lt (by (with_reducible repeat (first | apply R_alloc | apply R_drewN | apply R_drew)); exact HO_6.out)) k_ hk)); (case aO => exact (by (with_reducible repeat (first | apply R_alloc | apply R_drewN | apply R_drew)); exact HO_5.out)); (case aS => exact (below_size (by repeat (first | (with_reducible first | exact HB.out | apply bwA | apply bwN | apply bw1 | refine below_set ?_ (IsS92.ge HI277.out)) | exact HB.out)))); (case aL => have := LMc14.out; omega); intro v291 w17 ho hb hg hat; rw [← Ny290.out] at ho; have n0_ := Aside0.mk (Kd.R_after (ok := (fun _ => True)) (by (with_reducible repeat (first | apply R_alloc | apply R_drewN | apply R_drew)); exact Kd.R_mono HO_6.out (fun _ hk => ⟨trivial, hk⟩)) hg hat); have n1_ := Aside0.mk (IsS92.grown (by repeat (first | (with_reducible first | exact HI277.out | apply IsS92.alloc | apply IsS92.drewN | apply IsS92.drew | apply IsS92.set_1 | apply IsS92.set_2) | exact HI277.out)) hg (IsS92.own_ne HI277.out HO_5.out (by decide))); have n2_ := Aside0.mk (hb); have n3_ := Aside0.mk (ho); clear HO_6; clear HI277; clear HB; clear HO_5; have HO_6 := n0_; have HI277 := n1_; have HB := n2_; have HO292 := n3_; clear n0_ n1_ n2_ n3_; clear ho hb hg hat) | ((with_reducible refine gate_builtin (b := .append) (xs := #[.tmp 40, .tmp 42]) rfl ?_); (try (refine gate_guard (by rfl) ?_; dsimp only)); at_builtin; refine Kd.R_append (Kd.int .i64) (w0 := w) w.heap.size rfl (.tmp 40) (.tmp 42) 62 2 (.int .i64 0) 8 rfl Try.underlying62 info2 rfl (by decide) (by omega) u6 x6_1 x7_1 [.int .i64 x7_1] (fun k_ => some k_ ≠ (v291 : Value).ownBlock) (fun _ => False) rfl rfl ?aP (fun _ hk => hk.elim) ?aF ?aO ?aB ?aS ?aL ?_; (case aP => exact rfl); (case aB => exact (by repeat (first | (with_reducible first | exact HB.out | apply bwA | apply bwN | apply bw1 | refine below_set ?_ (IsS92.ge HI277.out)) | exact HB.out))); (case aF => exact (fun k_ hk => Kd.fresh' (Kd.R_lt (by (with_reducible repeat (first | apply R_alloc | apply R_drewN | apply R_drew)); exact HO292.out)) k_ hk)); (case aO => exact (by (with_reducible repeat (first | apply R_alloc | apply R_drewN | apply R_drew)); exact Kd.R_mono HO_6.out (fun _ hk => hk.2))); (case aS => exact (below_size (by repeat (first | (with_reducible first | exact HB.out | apply bwA | apply bwN | apply bw1 | refine below_set ?_ (IsS92.ge HI277.out)) | exact HB.out)))); (case aL => have := LMc15.out; omega); intro v294 w18 ho hb hg hat; rw [← Ny293.out] at ho; have n0_ := Aside0.mk (IsS92.grown (by repeat (first | (with_reducible first | exact HI277.out | apply IsS92.alloc | apply IsS92.drewN | apply IsS92.drew | apply IsS92.set_1 | apply IsS92.set_2) | exact HI277.out)) hg (IsS92.own_ne HI277.out HO_6.out (by decide))); have n1_ := Aside0.mk (Kd.R_after (ok := (fun _ => True)) (by (with_reducible repeat (first | apply R_alloc | apply R_drewN | apply R_drew)); exact Kd.R_mono HO292.out (fun _ hk => ⟨trivial, hk⟩)) hg hat); have n2_ := Aside0.mk (hb); have n3_ := Aside0.mk (ho); clear HI277; clear HO292; clear HB; clear HO_6; have HI277 := n0_; have HO292 := n1_; have HB := n2_; have HO295 := n3_; clear n0_ n1_ n2_ n3_; clear ho hb hg hat))
              repeat (go_quiet (fail); try go_wp2_with (fail))
              go_roundg k1
              case measure => have := HK1.out; omega
              case rel => exact ⟨(y290), (y293), (wrap64 (x7_1 + 1)), (t288), (t289), (by first | rfl | (simp; done) | (simp [*]; done)), H', ⟨by have := HK1.out; omega⟩, ⟨by (with_reducible repeat (first | apply R_alloc | apply R_drewN | apply R_drew)); exact Kd.R_mono HO292.out (fun _ hk => hk.2)⟩, ⟨by (with_reducible repeat (first | apply R_alloc | apply R_drewN | apply R_drew)); exact HO295.out⟩, ⟨by repeat (first | (with_reducible first | exact HI277.out | apply IsS92.alloc | apply IsS92.drewN | apply IsS92.drew | apply IsS92.set_1 | apply IsS92.set_2) | exact HI277.out)⟩, ⟨by repeat (first | (with_reducible first | exact HB.out | apply bwA | apply bwN | apply bw1 | refine below_set ?_ (IsS92.ge HI277.out)) | exact HB.out)⟩⟩
            · rw [if_neg c15] at H
              exact absurd H (by simp)
          · rw [if_neg c14] at H
            exact absurd H (by simp)
        · rw [if_neg c12] at H
          have c12b0 : decide (x7_1 < t278) = false := decide_eq_false c12
          clear c12
          have H' := Aside0.mk H
          clear H
          go_wp2
          repeat (go_quiet (fail); try go_wp2)
          go_loopg [8] k1 (fun kq v8 w' => ∃ (x6_2 : List Int) (x8_2 : Int) (x278001_2 : Int) (x278002_2 : Int), v8 = .int .i64 x8_2 ∧ Aside0 (laws_FnAnyOrder.l1 kq t278 x5_1 x6_2 x8_2 t274 x278001_2 x278002_2 = some r) ∧ Aside0 (kq ≤ k1) ∧ Aside0 (Kd.R (Kd.int .i64) 2 w' w.heap.size (fun k_ => some k_ ≠ (u6 : Value).ownBlock) u5 x5_1) ∧ Aside0 (Kd.R (Kd.int .i64) 2 w' w.heap.size (fun k_ => some k_ ≠ (u5 : Value).ownBlock) u6 x6_2) ∧ Aside0 (IsS92 w w' g277 t274 x278001_2 x278002_2) ∧ Aside0 (Below w.heap.size w w'))
          case atStart => exact ⟨(x6_1), (wrap64 (t278 - 1)), (x278001_1), (x278002_1), (by first | rfl | (simp; done) | (simp [*]; done)), H', ⟨Nat.le_refl _⟩, ⟨by (with_reducible repeat (first | apply R_alloc | apply R_drewN | apply R_drew)); exact HO_5.out⟩, ⟨by (with_reducible repeat (first | apply R_alloc | apply R_drewN | apply R_drew)); exact HO_6.out⟩, ⟨by repeat (first | (with_reducible first | exact HI277.out | apply IsS92.alloc | apply IsS92.drewN | apply IsS92.drew | apply IsS92.set_1 | apply IsS92.set_2) | exact HI277.out)⟩, ⟨by repeat (first | (with_reducible first | exact HB.out | apply bwA | apply bwN | apply bw1 | refine below_set ?_ (IsS92.ge HI277.out)) | exact HB.out)⟩⟩
          case round =>
            clear H'
            try clear c1
            try clear p2
            try clear c3
            try clear p6
            try clear c12
            try clear c12b0
            try clear c14
            try clear c15
            try clear p2
            obtain ⟨x6_2, x8_2, x278001_2, x278002_2, rfl, HA, HK2, HO_5, HO_6, HI277, HB⟩ := hrel
            cases gk with
            | zero => exact absurd HA.out (by simp [laws_FnAnyOrder.l1])
            | succ k2 =>
              have H := HA.out
              clear HA
              simp only [laws_FnAnyOrder.l1] at H
              by_cases c19 : x8_2 > 0
              · rw [if_pos c19] at H
                have c19b0 : decide (0 < x8_2) = true := decide_eq_true c19
                clear c19
                replace H := bind_eq_some_iff.mp H
                obtain ⟨⟨t296, t297, t298⟩, A200, H⟩ := H
                replace H : (if 0 ≤ x8_2 then (if x8_2 < (x6_2.length : Int) then (if 0 ≤ t296 then (if t296 < (x6_2.length : Int) then (laws_FnAnyOrder.l1 k2 t278 x5_1 ((x6_2.set (x8_2 : Int).toNat (rd x6_2 t296)).set (t296 : Int).toNat (rd x6_2 x8_2)) (wrap64 (x8_2 - 1)) t274 t297 t298) else (none)) else (none)) else (none)) else (none)) = some r := H
                have A20 := Aside0.mk A200
                clear A200
                by_cases c21 : 0 ≤ x8_2
                · rw [if_pos c21] at H
                  have c21b0 : decide (0 ≤ x8_2) = true := decide_eq_true c21
                  clear c21
                  by_cases c22 : x8_2 < (x6_2.length : Int)
                  · rw [if_pos c22] at H
                    have c22b0 : decide (x8_2 < (x6_2.length : Int)) = true := decide_eq_true c22
                    clear c22
                    by_cases c23 : 0 ≤ t296
                    · rw [if_pos c23] at H
                      have c23b0 : decide (0 ≤ t296) = true := decide_eq_true c23
                      clear c23
                      by_cases c24 : t296 < (x6_2.length : Int)
                      · rw [if_pos c24] at H
                        have c24b0 : decide (t296 < (x6_2.length : Int)) = true := decide_eq_true c24
                        clear c24
                        obtain ⟨y301, hy301⟩ : ∃ y_ : List Int, y_ = (x6_2.set (x8_2 : Int).toNat (rd x6_2 t296)) := ⟨_, rfl⟩
                        replace H : (laws_FnAnyOrder.l1 k2 t278 x5_1 (y301.set (t296 : Int).toNat (rd x6_2 x8_2)) (wrap64 (x8_2 - 1)) t274 t297 t298) = some r := by first | (rw [hy301]; with_reducible exact H) | (have H2_ := (Option.bind_some _ _).symm.trans H; rw [hy301]; with_reducible exact H2_) | (have H2_ := (Option.bind_some _ _).symm.trans H; with_reducible exact H2_) | with_reducible exact H | (rw [hy301]; exact H) | exact H
                        have Ny301 := Aside0.mk hy301
                        clear hy301
                        obtain ⟨y302, hy302⟩ : ∃ y_ : List Int, y_ = (y301.set (t296 : Int).toNat (rd x6_2 x8_2)) := ⟨_, rfl⟩
                        replace H : (laws_FnAnyOrder.l1 k2 t278 x5_1 y302 (wrap64 (x8_2 - 1)) t274 t297 t298) = some r := by first | (rw [hy302]; with_reducible exact H) | (have H2_ := (Option.bind_some _ _).symm.trans H; rw [hy302]; with_reducible exact H2_) | (have H2_ := (Option.bind_some _ _).symm.trans H; with_reducible exact H2_) | with_reducible exact H | (rw [hy302]; exact H) | exact H
                        have Ny302 := Aside0.mk hy302
                        clear hy302
                        have H' := Aside0.mk H
                        clear H
                        go_wp2_with (first | (go_at_call 44; (with_reducible refine (laws_dice_below.calls g277 t274 x278001_2 x278002_2 (wrap64 (x8_2 + 1)) t296 t297 t298 w _ ?side1 ?side2 A20.out).mono ?_); (case side1 => repeat (first | (with_reducible first | exact HI277.out | apply IsS92.alloc | apply IsS92.drewN | apply IsS92.drew | apply IsS92.set_1 | apply IsS92.set_2) | exact HI277.out)); (case side2 => repeat (first | (with_reducible first | exact HB.out | apply bwA | apply bwN | apply bw1 | refine below_set ?_ (IsS92.ge HI277.out)) | exact HB.out)); rintro e w27 ⟨rfl, hi, hb, hk⟩; have n0_ := Aside0.mk (Kd.R_mono (Kd.R_keep (IsS92.apart (show IsS92 w _ g277 t274 x278001_2 x278002_2 from by repeat (first | (with_reducible first | exact HI277.out | apply IsS92.alloc | apply IsS92.drewN | apply IsS92.drew | apply IsS92.set_1 | apply IsS92.set_2) | exact HI277.out)) (by (with_reducible repeat (first | apply R_alloc | apply R_drewN | apply R_drew)); exact HO_5.out) (by decide)) hk (fun _ h => h.2)) (fun _ h => h.1)); have n1_ := Aside0.mk (Kd.R_mono (Kd.R_keep (IsS92.apart (show IsS92 w _ g277 t274 x278001_2 x278002_2 from by repeat (first | (with_reducible first | exact HI277.out | apply IsS92.alloc | apply IsS92.drewN | apply IsS92.drew | apply IsS92.set_1 | apply IsS92.set_2) | exact HI277.out)) (by (with_reducible repeat (first | apply R_alloc | apply R_drewN | apply R_drew)); exact HO_6.out) (by decide)) hk (fun _ h => h.2)) (fun _ h => h.1)); have n2_ := Aside0.mk (hb); have n3_ := Aside0.mk (hi); clear HO_5; clear HO_6; clear HB; clear HI277; have HO_5 := n0_; have HO_6 := n1_; have HB := n2_; have HI277 := n3_; clear n0_ n1_ n2_ n3_; (try clear hb); (try clear hb2); (try clear hk); (try clear hi); obtain ⟨Ao28, co28, eo28⟩ := Kd.R_slice HO_6.out; subst eo28; have p299 : 0 ≤ (x8_2 : Int) := of_decide_eq_true (by first | (with_reducible assumption) | assumption); have q299 : x8_2 < (x6_2.length : Int) := of_decide_eq_true (by first | (with_reducible assumption) | assumption); obtain ⟨ad299, e299, hx299_0⟩ := Kd.at_int (R_reads' HO_6.out).2.2 x8_2 p299 q299; cases e299; replace p299 := eq_true p299; replace q299 := eq_true q299; have p300 : 0 ≤ (t296 : Int) := of_decide_eq_true (by first | (with_reducible assumption) | assumption); have q300 : t296 < (x6_2.length : Int) := of_decide_eq_true (by first | (with_reducible assumption) | assumption); obtain ⟨ad300, e300, hx300_0⟩ := Kd.at_int (R_reads' HO_6.out).2.2 t296 p300 q300; obtain rfl : ad299 = ad300 := (by injection e300); replace p300 := eq_true p300; replace q300 := eq_true q300; have p25 : 0 ≤ (x8_2 : Int) := of_decide_eq_true (by first | (with_reducible assumption) | assumption); have q25 : (x8_2 : Int) < ((x6_2.length : Int) : Int) := of_decide_eq_true (by first | (with_reducible assumption) | assumption); obtain ⟨go25, co25, eo25, gb25, gl25, cl25, HG25⟩ := Kd.R_form HO_6.out (by omega); (first | cases eo25 | (injection eo25 with ea_ en_ ec_; (first | subst ea_ | (injection ea_ with ea_; subst ea_)); subst ec_; clear en_)); have GB25 := Aside0.mk gb25; have GG25 := Aside0.mk HG25; clear gb25 gl25 HG25; (first | simp only [add_plain] at hx299_0 | skip); (first | simp only [add_plain] at hx300_0 | skip); obtain ⟨hx25_0, hf25_0⟩ := Kd.R_celln 0 HO_6.out (x8_2 : Int) p25 q25; replace p25 := eq_true p25; replace q25 := eq_true q25; obtain ⟨hy29_, hz29_⟩ := Kd.R_celln 0 HO_6.out (x8_2 : Int) (of_decide_eq_true (by first | (with_reducible assumption) | assumption)) (of_decide_eq_true (by first | (with_reducible assumption) | assumption)); have HP29 := Kd.R_putg HO_6.out (x8_2 : Int) (rd x6_2 t296)) | ((with_reducible refine gate_store (t := 2) (p := 65) rfl ?_); (try (rw [drewN_self w27]; generalize hq_ : World.drewN w27 _ = w27; have n0_ := Aside0.mk (Kd.R_at hq_ HO_5.out); have n1_ := Aside0.mk (Kd.R_at hq_ HO_6.out); have n2_ := Aside0.mk (IsS92.at_ hq_ HI277.out); have n3_ := Aside0.mk (below_at hq_ HB.out); clear hq_ HO_5 HO_6 HI277 HB; have HO_5 := n0_; have HO_6 := n1_; have HI277 := n2_; have HB := n3_; clear n0_ n1_ n2_ n3_; (try (obtain ⟨hy29_, hz29_⟩ := Kd.R_celln 0 HO_6.out (x8_2 : Int) (of_decide_eq_true (by first | (with_reducible assumption) | assumption)) (of_decide_eq_true (by first | (with_reducible assumption) | assumption)))); (try (have HP29 := Kd.R_putg HO_6.out (x8_2 : Int) (rd x6_2 t296))))); refine store_event (t := 2) (p := 65) (v := ?vo_w30) (w1 := (w27.setCell ⟨go25, (x8_2 : Int).toNat, none⟩ (.int .i64 (rd x6_2 t296)))) ?hg ?ho ?hn ?hr ?_; (case ho => rfl); (case hg => rfl); (case hn => rfl); (case hr => first | (go_simp; done) | (go_simp; rfl)); intro w30 hw; have hg : w27.grownBy w30 (some go25) := (by rw [hw]; exact HP29.2); have hp_ : Kd.R (Kd.int .i64) 2 w30 w.heap.size (fun k_ => some k_ ≠ (u5 : Value).ownBlock) (.slice (some ⟨go25, 0, none⟩) x6_2.length co28) y301 := (by rw [hw, Ny301.out]; exact HP29.1); clear HP29; have n0_ := Aside0.mk (Kd.R_after (v := (.slice (some ⟨go25, 0, none⟩) x6_2.length co28)) (v1 := (.slice (some ⟨go25, 0, none⟩) x6_2.length co28)) (ok := (fun _ => True)) (by (with_reducible repeat (first | apply R_alloc | apply R_drewN | apply R_drew)); exact Kd.R_mono HO_5.out (fun _ hk => ⟨trivial, hk⟩)) hg (.inl rfl)); have n1_ := Aside0.mk (hp_); have n2_ := Aside0.mk (IsS92.grown (by repeat (first | (with_reducible first | exact HI277.out | apply IsS92.alloc | apply IsS92.drewN | apply IsS92.drew | apply IsS92.set_1 | apply IsS92.set_2) | exact HI277.out)) hg (IsS92.own_ne HI277.out HO_6.out (by decide))); have n3_ := Aside0.mk ((by rw [hw]; exact below_set (HB.out) GB25.out : Below w.heap.size w w30)); clear HO_5; clear HO_6; clear HI277; clear HB; have HO_5 := n0_; have HO_6 := n1_; have HI277 := n2_; have HB := n3_; clear n0_ n1_ n2_ n3_; clear hg hw hp_; have p26 : 0 ≤ (t296 : Int) := of_decide_eq_true (by first | (with_reducible assumption) | assumption); have q26 : (t296 : Int) < ((x6_2.length : Int) : Int) := of_decide_eq_true (by first | (with_reducible assumption) | assumption); obtain ⟨hx26_0, hf26_0⟩ := Kd.R_celln 0 HO_6.out (t296 : Int) p26 q26; replace p26 := eq_true p26; replace q26 := eq_true q26; obtain ⟨hy31_, hz31_⟩ := Kd.R_celln 0 HO_6.out (t296 : Int) (of_decide_eq_true (by first | (with_reducible assumption) | assumption)) (of_decide_eq_true (by first | (with_reducible assumption) | assumption)); have HP31 := Kd.R_putg HO_6.out (t296 : Int) (rd x6_2 x8_2)) | ((with_reducible refine gate_store (t := 2) (p := 69) rfl ?_); (try (rw [drewN_self w30]; generalize hq_ : World.drewN w30 _ = w30; have n0_ := Aside0.mk (Kd.R_at hq_ HO_5.out); have n1_ := Aside0.mk (Kd.R_at hq_ HO_6.out); have n2_ := Aside0.mk (IsS92.at_ hq_ HI277.out); have n3_ := Aside0.mk (below_at hq_ HB.out); clear hq_ HO_5 HO_6 HI277 HB; have HO_5 := n0_; have HO_6 := n1_; have HI277 := n2_; have HB := n3_; clear n0_ n1_ n2_ n3_; (try (obtain ⟨hy31_, hz31_⟩ := Kd.R_celln 0 HO_6.out (t296 : Int) (of_decide_eq_true (by first | (with_reducible assumption) | assumption)) (of_decide_eq_true (by first | (with_reducible assumption) | assumption)))); (try (have HP31 := Kd.R_putg HO_6.out (t296 : Int) (rd x6_2 x8_2))))); refine store_event (t := 2) (p := 69) (v := ?vo_w32) (w1 := (w30.setCell ⟨go25, (t296 : Int).toNat, none⟩ (.int .i64 (rd x6_2 x8_2)))) ?hg ?ho ?hn ?hr ?_; (case ho => rfl); (case hg => rfl); (case hn => rfl); (case hr => first | (go_simp; done) | (go_simp; rfl)); intro w32 hw; have hg : w30.grownBy w32 (some go25) := (by rw [hw]; exact HP31.2); have hp_ : Kd.R (Kd.int .i64) 2 w32 w.heap.size (fun k_ => some k_ ≠ (u5 : Value).ownBlock) (.slice (some ⟨go25, 0, none⟩) x6_2.length co28) y302 := (by rw [hw, Ny302.out]; exact HP31.1); clear HP31; have n0_ := Aside0.mk (Kd.R_after (v := (.slice (some ⟨go25, 0, none⟩) x6_2.length co28)) (v1 := (.slice (some ⟨go25, 0, none⟩) x6_2.length co28)) (ok := (fun _ => True)) (by (with_reducible repeat (first | apply R_alloc | apply R_drewN | apply R_drew)); exact HO_5.out) hg (.inl rfl)); have n1_ := Aside0.mk (hp_); have n2_ := Aside0.mk (IsS92.grown (by repeat (first | (with_reducible first | exact HI277.out | apply IsS92.alloc | apply IsS92.drewN | apply IsS92.drew | apply IsS92.set_1 | apply IsS92.set_2) | exact HI277.out)) hg (IsS92.own_ne HI277.out HO_6.out (by decide))); have n3_ := Aside0.mk ((by rw [hw]; exact below_set (HB.out) GB25.out : Below w.heap.size w w32)); clear HO_5; clear HO_6; clear HI277; clear HB; have HO_5 := n0_; have HO_6 := n1_; have HI277 := n2_; have HB := n3_; clear n0_ n1_ n2_ n3_; clear hg hw hp_))
                        repeat (go_quiet (fail); try go_wp2_with (fail))
                        go_roundg k2
                        case measure => have := HK1.out; have := HK2.out; omega
                        case rel => exact ⟨(y302), (wrap64 (x8_2 - 1)), (t297), (t298), (by first | rfl | (simp; done) | (simp [*]; done)), H', ⟨by have := HK1.out; have := HK2.out; omega⟩, ⟨by (with_reducible repeat (first | apply R_alloc | apply R_drewN | apply R_drew)); exact Kd.R_mono HO_5.out (fun _ hk => hk.2)⟩, ⟨by (with_reducible repeat (first | apply R_alloc | apply R_drewN | apply R_drew)); exact HO_6.out⟩, ⟨by repeat (first | (with_reducible first | exact HI277.out | apply IsS92.alloc | apply IsS92.drewN | apply IsS92.drew | apply IsS92.set_1 | apply IsS92.set_2) | exact HI277.out)⟩, ⟨by repeat (first | (with_reducible first | exact HB.out | apply bwA | apply bwN | apply bw1 | refine below_set ?_ (IsS92.ge HI277.out)) | exact HB.out)⟩⟩
                      · rw [if_neg c24] at H
                        exact absurd H (by simp)
                    · rw [if_neg c23] at H
                      exact absurd H (by simp)
                  · rw [if_neg c22] at H
                    exact absurd H (by simp)
                · rw [if_neg c21] at H
                  exact absurd H (by simp)
              · rw [if_neg c19] at H
                have c19b0 : decide (0 < x8_2) = false := decide_eq_false c19
                clear c19
                replace H := bind_eq_some_iff.mp H
                obtain ⟨⟨t303, t304⟩, A330, H⟩ := H
                replace H : (if t304 = true then ((impl_HeapOk.f k2 t303).bind fun t307 => (if t307 = true then (laws_FnAnyOrder.j2 k2 t278 x5_1 t303 ((t303.length : Int) != t278)) else (laws_FnAnyOrder.j2 k2 t278 x5_1 t303 true))) else (laws_FnAnyOrder.j2 k2 t278 x5_1 t303 true)) = some r := H
                have A33 := Aside0.mk A330
                clear A330
                have HC34 := Aside0.mk H
                clear H
                obtain ⟨Ao35, co35, eo35⟩ := Kd.R_slice HO_5.out
                subst eo35
                obtain ⟨Ao36, co36, eo36⟩ := Kd.R_slice HO_6.out
                subst eo36
                go_upto_region 21 with (go_at_call 45; (with_reducible refine (laws_heaped.calls k2 _ _ x5_1 _ _ x6_2 t303 t304 _ ?side1 ?side2 ?side3 ?side4 A33.out).mono ?_); (case side1 => repeat (first | exact (R_reads' HO_5.out).2.2 | (with_reducible refine C_alloc ?_ _) | (with_reducible refine C_drewN ?_ _) | (with_reducible refine C_drew ?_))); (case side2 => exact (R_reads' HO_5.out).2.1); (case side3 => repeat (first | exact (R_reads' HO_6.out).2.2 | (with_reducible refine C_alloc ?_ _) | (with_reducible refine C_drewN ?_ _) | (with_reducible refine C_drew ?_))); (case side4 => exact (R_reads' HO_6.out).2.1); rintro e w37 ⟨v305, rfl, ho0, hb⟩; have n0_ := Aside0.mk (R_below (by (with_reducible repeat (first | apply R_alloc | apply R_drewN | apply R_drew)); exact HO_5.out) hb); have n1_ := Aside0.mk (R_below (by (with_reducible repeat (first | apply R_alloc | apply R_drewN | apply R_drew)); exact HO_6.out) hb); have n2_ := Aside0.mk (Kd.R_lower ho0 (below_size (by repeat (first | (with_reducible first | exact HB.out | apply bwA | apply bwN | apply bw1 | refine below_set ?_ (IsS92.ge HI277.out)) | exact HB.out)))); have n3_ := Aside0.mk (IsS92.below (by repeat (first | (with_reducible first | exact HI277.out | apply IsS92.alloc | apply IsS92.drewN | apply IsS92.drew | apply IsS92.set_1 | apply IsS92.set_2) | exact HI277.out)) hb); have n4_ := Aside0.mk (below_step (by repeat (first | (with_reducible first | exact HB.out | apply bwA | apply bwN | apply bw1 | refine below_set ?_ (IsS92.ge HI277.out)) | exact HB.out)) hb); clear HO_5; clear HO_6; clear HI277; clear HB; have HO_5 := n0_; have HO_6 := n1_; have HO306 := n2_; have HI277 := n3_; have HB := n4_; clear n0_ n1_ n2_ n3_ n4_; (try clear hb); (try clear hb2); (try clear hk); (try clear hi); (try clear ho0))
                repeat (go_quiet (fail); go_upto_region 21 with (fail))
                (try simp only [Act.put, stA, stZ, stS])
                go_cut [88] (fun v88 wc => ∃ (kq : Nat) (x88_33 : Bool), v88 = .bool x88_33 ∧ Aside0 (laws_FnAnyOrder.j2 kq t278 x5_1 t303 x88_33 = some r) ∧ Aside0 (kq ≤ k2) ∧ Aside0 (Kd.R (Kd.int .i64) 2 wc w.heap.size (fun _ => True) (.slice Ao35 x5_1.length co35) x5_1) ∧ Aside0 (Kd.R k31 31 wc w.heap.size (fun _ => True) v305 t303) ∧ Aside0 (Below w.heap.size w wc))
                case first =>
                  have H := HC34.out
                  clear HC34
                  by_cases c38 : t304 = true
                  · subst c38
                    have H1 : ((impl_HeapOk.f k2 t303).bind fun t307 => (if t307 = true then (laws_FnAnyOrder.j2 k2 t278 x5_1 t303 ((t303.length : Int) != t278)) else (laws_FnAnyOrder.j2 k2 t278 x5_1 t303 true))) = some r := by rw [if_pos rfl] at H; exact H
                    clear H
                    have H := H1
                    clear H1
                    replace H := bind_eq_some_iff.mp H
                    obtain ⟨t307, A390, H⟩ := H
                    replace H : (if t307 = true then (laws_FnAnyOrder.j2 k2 t278 x5_1 t303 ((t303.length : Int) != t278)) else (laws_FnAnyOrder.j2 k2 t278 x5_1 t303 true)) = some r := H
                    have A39 := Aside0.mk A390
                    clear A390
                    by_cases c40 : t307 = true
                    · subst c40
                      have H1 : (laws_FnAnyOrder.j2 k2 t278 x5_1 t303 ((t303.length : Int) != t278)) = some r := by rw [if_pos rfl] at H; exact H
                      clear H
                      have H := H1
                      clear H1
                      have H' := Aside0.mk H
                      clear H
                      obtain ⟨Ao41, co41, eo41⟩ := Kd.R_slice HO306.out
                      subst eo41
                      go_wp2_with (go_at_call 18; (with_reducible refine (impl_HeapOk.calls k2 _ _ t303 true _ ?side1 ?side2 A39.out).mono ?_); (case side1 => repeat (first | exact (R_reads' HO306.out).2.2 | (with_reducible refine C_alloc ?_ _) | (with_reducible refine C_drewN ?_ _) | (with_reducible refine C_drew ?_))); (case side2 => exact (R_reads' HO306.out).2.1); rintro e w42 ⟨rfl, hb⟩; have n0_ := Aside0.mk (R_below (by (with_reducible repeat (first | apply R_alloc | apply R_drewN | apply R_drew)); exact HO_5.out) hb); have n1_ := Aside0.mk (R_below (by (with_reducible repeat (first | apply R_alloc | apply R_drewN | apply R_drew)); exact HO_6.out) hb); have n2_ := Aside0.mk (R_below (by (with_reducible repeat (first | apply R_alloc | apply R_drewN | apply R_drew)); exact HO306.out) hb); have n3_ := Aside0.mk (IsS92.below (by repeat (first | (with_reducible first | exact HI277.out | apply IsS92.alloc | apply IsS92.drewN | apply IsS92.drew | apply IsS92.set_1 | apply IsS92.set_2) | exact HI277.out)) hb); have n4_ := Aside0.mk (below_step (by repeat (first | (with_reducible first | exact HB.out | apply bwA | apply bwN | apply bw1 | refine below_set ?_ (IsS92.ge HI277.out)) | exact HB.out)) hb); clear HO_5; clear HO_6; clear HO306; clear HI277; clear HB; have HO_5 := n0_; have HO_6 := n1_; have HO306 := n2_; have HI277 := n3_; have HB := n4_; clear n0_ n1_ n2_ n3_ n4_; (try clear hb); (try clear hb2); (try clear hk); (try clear hi))
                      repeat (go_quiet (fail); try go_wp2_with (fail))
                      go_meet
                      case rel => exact ⟨_, (((t303.length : Int) != t278)), (by first | rfl | (simp; done) | (simp [*]; done)), H', ⟨by have := HK1.out; have := HK2.out; first | omega | exact Nat.le_refl _⟩, ⟨by (with_reducible repeat (first | apply R_alloc | apply R_drewN | apply R_drew)); exact Kd.R_mono HO_5.out (fun _ hk => trivial)⟩, ⟨by (with_reducible repeat (first | apply R_alloc | apply R_drewN | apply R_drew)); exact HO306.out⟩, ⟨by repeat (first | (with_reducible first | exact HB.out | apply bwA | apply bwN | apply bw1 | refine below_set ?_ (IsS92.ge HI277.out)) | exact HB.out)⟩⟩
                    · replace c40 := Bool.eq_false_iff.mpr c40
                      subst c40
                      have H1 : (laws_FnAnyOrder.j2 k2 t278 x5_1 t303 true) = some r := by rw [if_neg (show ¬ (false = true) by decide)] at H; exact H
                      clear H
                      have H := H1
                      clear H1
                      have H' := Aside0.mk H
                      clear H
                      obtain ⟨Ao43, co43, eo43⟩ := Kd.R_slice HO306.out
                      subst eo43
                      go_wp2_with (go_at_call 18; (with_reducible refine (impl_HeapOk.calls k2 _ _ t303 false _ ?side1 ?side2 A39.out).mono ?_); (case side1 => repeat (first | exact (R_reads' HO306.out).2.2 | (with_reducible refine C_alloc ?_ _) | (with_reducible refine C_drewN ?_ _) | (with_reducible refine C_drew ?_))); (case side2 => exact (R_reads' HO306.out).2.1); rintro e w44 ⟨rfl, hb⟩; have n0_ := Aside0.mk (R_below (by (with_reducible repeat (first | apply R_alloc | apply R_drewN | apply R_drew)); exact HO_5.out) hb); have n1_ := Aside0.mk (R_below (by (with_reducible repeat (first | apply R_alloc | apply R_drewN | apply R_drew)); exact HO_6.out) hb); have n2_ := Aside0.mk (R_below (by (with_reducible repeat (first | apply R_alloc | apply R_drewN | apply R_drew)); exact HO306.out) hb); have n3_ := Aside0.mk (IsS92.below (by repeat (first | (with_reducible first | exact HI277.out | apply IsS92.alloc | apply IsS92.drewN | apply IsS92.drew | apply IsS92.set_1 | apply IsS92.set_2) | exact HI277.out)) hb); have n4_ := Aside0.mk (below_step (by repeat (first | (with_reducible first | exact HB.out | apply bwA | apply bwN | apply bw1 | refine below_set ?_ (IsS92.ge HI277.out)) | exact HB.out)) hb); clear HO_5; clear HO_6; clear HO306; clear HI277; clear HB; have HO_5 := n0_; have HO_6 := n1_; have HO306 := n2_; have HI277 := n3_; have HB := n4_; clear n0_ n1_ n2_ n3_ n4_; (try clear hb); (try clear hb2); (try clear hk); (try clear hi))
                      repeat (go_quiet (fail); try go_wp2_with (fail))
                      go_meet
                      case rel => exact ⟨_, (true), (by first | rfl | (simp; done) | (simp [*]; done)), H', ⟨by have := HK1.out; have := HK2.out; first | omega | exact Nat.le_refl _⟩, ⟨by (with_reducible repeat (first | apply R_alloc | apply R_drewN | apply R_drew)); exact Kd.R_mono HO_5.out (fun _ hk => trivial)⟩, ⟨by (with_reducible repeat (first | apply R_alloc | apply R_drewN | apply R_drew)); exact HO306.out⟩, ⟨by repeat (first | (with_reducible first | exact HB.out | apply bwA | apply bwN | apply bw1 | refine below_set ?_ (IsS92.ge HI277.out)) | exact HB.out)⟩⟩
                  · replace c38 := Bool.eq_false_iff.mpr c38
                    subst c38
                    have H1 : (laws_FnAnyOrder.j2 k2 t278 x5_1 t303 true) = some r := by rw [if_neg (show ¬ (false = true) by decide)] at H; exact H
                    clear H
                    have H := H1
                    clear H1
                    have H' := Aside0.mk H
                    clear H
                    go_wp2
                    repeat (go_quiet (fail); try go_wp2)
                    go_meet
                    case rel => exact ⟨_, (true), (by first | rfl | (simp; done) | (simp [*]; done)), H', ⟨by have := HK1.out; have := HK2.out; first | omega | exact Nat.le_refl _⟩, ⟨by (with_reducible repeat (first | apply R_alloc | apply R_drewN | apply R_drew)); exact Kd.R_mono HO_5.out (fun _ hk => trivial)⟩, ⟨by (with_reducible repeat (first | apply R_alloc | apply R_drewN | apply R_drew)); exact HO306.out⟩, ⟨by repeat (first | (with_reducible first | exact HB.out | apply bwA | apply bwN | apply bw1 | refine below_set ?_ (IsS92.ge HI277.out)) | exact HB.out)⟩⟩
                case rest =>
                  clear HC34
                  try clear c1
                  try clear c2
                  try clear p2
                  try clear q2
                  try clear hx2
                  try clear hf2
                  try clear c3
                  try clear p3
                  try clear q3
                  try clear hx3
                  try clear c4
                  try clear p6
                  try clear c12
                  try clear c12b0
                  try clear c14
                  try clear c15
                  try clear c19
                  try clear c19b0
                  try clear c21
                  try clear c21b0
                  try clear c22
                  try clear c22b0
                  try clear c23
                  try clear c23b0
                  try clear c24
                  try clear c24b0
                  try clear p25
                  try clear q25
                  try clear hx25
                  try clear hf25
                  try clear p26
                  try clear q26
                  try clear hx26
                  try clear hf26
                  try clear p29
                  try clear q29
                  try clear hx29
                  try clear p30
                  try clear q30
                  try clear hx30
                  try clear c38
                  try clear c40
                  try clear hx25_0
                  try clear hx26_0
                  try clear hx299_0
                  try clear hx300_0
                  try clear p2
                  try clear p25
                  try clear p26
                  try clear p299
                  try clear p300
                  try clear p6
                  try clear q25
                  try clear q26
                  try clear q299
                  try clear q300
                  obtain ⟨kq, x88_33, rfl, HA, HJ33, HO_5, HO_12, HB⟩ := hcut
                  cases kq with
                  | zero => exact absurd HA.out (by simp [laws_FnAnyOrder.j2])
                  | succ kj33 =>
                    have H := HA.out
                    clear HA
                    simp only [laws_FnAnyOrder.j2] at H
                    by_cases c45 : x88_33 = true
                    · subst c45
                      have H1 : (some false) = some r := by rw [if_pos rfl] at H; exact H
                      clear H
                      have H := H1
                      clear H1
                      obtain rfl := Option.some.inj H
                      go_wp2
                      repeat (go_quiet (fail); try go_wp2)
                      go_ret
                      exact ⟨by first | rfl | (simp [errW_none, errW_some] <;> rfl) | (simp [*, errW_none, errW_some] <;> rfl), by repeat (first | (with_reducible first | exact HB.out | apply bwA | apply bwN | apply bw1) | exact HB.out)⟩
                    · replace c45 := Bool.eq_false_iff.mpr c45
                      subst c45
                      have H1 : ((impl_Sorted.f kj33 t303).bind fun t308 => (if (t308.length : Int) = t278 then (laws_FnAnyOrder.l2 kj33 t278 x5_1 t303 t308 0) else (some false))) = some r := by rw [if_neg (show ¬ (false = true) by decide)] at H; exact H
                      clear H
                      have H := H1
                      clear H1
                      replace H := bind_eq_some_iff.mp H
                      obtain ⟨t308, A460, H⟩ := H
                      replace H : (if (t308.length : Int) = t278 then (laws_FnAnyOrder.l2 kj33 t278 x5_1 t303 t308 0) else (some false)) = some r := H
                      have A46 := Aside0.mk A460
                      clear A460
                      by_cases c47 : (t308.length : Int) = t278
                      · rw [if_pos c47] at H
                        have c47b0 : ((t308.length : Int) == t278) = true := beq_iff_eq.mpr c47
                        have c47b1 : ((t308.length : Int) != t278) = false := bne_eq_false_iff_eq.mpr c47
                        clear c47
                        have H' := Aside0.mk H
                        clear H
                        obtain ⟨Ao48, co48, eo48⟩ := Kd.R_slice HO_12.out
                        subst eo48
                        go_wp2_with (go_at_call 41; (with_reducible refine (impl_Sorted.calls kj33 _ _ t303 t308 _ ?side1 ?side2 A46.out).mono ?_); (case side1 => repeat (first | exact (R_reads' HO_12.out).2.2 | (with_reducible refine C_alloc ?_ _) | (with_reducible refine C_drewN ?_ _) | (with_reducible refine C_drew ?_))); (case side2 => exact (R_reads' HO_12.out).2.1); rintro e w49 ⟨v309, rfl, ho0, hb⟩; have n0_ := Aside0.mk (R_below (by (with_reducible repeat (first | apply R_alloc | apply R_drewN | apply R_drew)); exact HO_5.out) hb); have n1_ := Aside0.mk (Kd.R_elder' (by (with_reducible repeat (first | apply R_alloc | apply R_drewN | apply R_drew)); exact HO_12.out) (Kd.R_base ho0) hb); have n2_ := Aside0.mk (Kd.R_lower (Kd.R_new' ho0 (Kd.R_lt (by (with_reducible repeat (first | apply R_alloc | apply R_drewN | apply R_drew)); exact HO_12.out))) (below_size (by repeat (first | (with_reducible first | exact HB.out | apply bwA | apply bwN | apply bw1) | exact HB.out)))); have n3_ := Aside0.mk (below_step (by repeat (first | (with_reducible first | exact HB.out | apply bwA | apply bwN | apply bw1) | exact HB.out)) hb); clear HO_5; clear HO_12; clear HB; have HO_5 := n0_; have HO_12 := n1_; have HO310 := n2_; have HB := n3_; clear n0_ n1_ n2_ n3_; (try clear hb); (try clear hb2); (try clear hk); (try clear hi); (try clear ho0); obtain ⟨Ao50, co50, eo50⟩ := Kd.R_slice HO310.out; subst eo50)
                        repeat (go_quiet (fail); try go_wp2_with (fail))
                        go_loopg [12, 15] kj33 (fun kq v12 v15 w' => ∃ (x12_4 : List (S31)) (x15_4 : Int), v15 = .int .i64 x15_4 ∧ Aside0 (laws_FnAnyOrder.l2 kq t278 x5_1 x12_4 t308 x15_4 = some r) ∧ Aside0 (kq ≤ kj33) ∧ Aside0 (Kd.R (Kd.int .i64) 2 w' w.heap.size (fun _ => True) (.slice Ao35 x5_1.length co35) x5_1) ∧ Aside0 (Kd.R k31 31 w' w.heap.size (fun k_ => some k_ ≠ ((.slice Ao50 t308.length co50) : Value).ownBlock) v12 x12_4) ∧ Aside0 (Kd.R k31 31 w' w.heap.size (fun k_ => some k_ ≠ (v12 : Value).ownBlock) (.slice Ao50 t308.length co50) t308) ∧ Aside0 (Below w.heap.size w w'))
                        case atStart => exact ⟨(t303), (0), (by first | rfl | (simp; done) | (simp [*]; done)), H', ⟨Nat.le_refl _⟩, ⟨by (with_reducible repeat (first | apply R_alloc | apply R_drewN | apply R_drew)); exact HO_5.out⟩, ⟨by (with_reducible repeat (first | apply R_alloc | apply R_drewN | apply R_drew)); exact Kd.R_mono HO_12.out (fun _ hk => hk.2)⟩, ⟨by (with_reducible repeat (first | apply R_alloc | apply R_drewN | apply R_drew)); exact Kd.R_mono HO310.out (fun _ hk => hk.2)⟩, ⟨by repeat (first | (with_reducible first | exact HB.out | apply bwA | apply bwN | apply bw1) | exact HB.out)⟩⟩
                        case round =>
                          clear H'
                          try clear c1
                          try clear c2
                          try clear p2
                          try clear q2
                          try clear hx2
                          try clear hf2
                          try clear c3
                          try clear p3
                          try clear q3
                          try clear hx3
                          try clear c4
                          try clear p6
                          try clear c12
                          try clear c12b0
                          try clear c14
                          try clear c15
                          try clear c19
                          try clear c19b0
                          try clear c21
                          try clear c21b0
                          try clear c22
                          try clear c22b0
                          try clear c23
                          try clear c23b0
                          try clear c24
                          try clear c24b0
                          try clear p25
                          try clear q25
                          try clear hx25
                          try clear hf25
                          try clear p26
                          try clear q26
                          try clear hx26
                          try clear hf26
                          try clear p29
                          try clear q29
                          try clear hx29
                          try clear p30
                          try clear q30
                          try clear hx30
                          try clear c38
                          try clear c40
                          try clear c45
                          try clear c47
                          try clear c47b0
                          try clear c47b1
                          try clear hx25_0
                          try clear hx26_0
                          try clear hx299_0
                          try clear hx300_0
                          try clear p2
                          try clear p25
                          try clear p26
                          try clear p29
                          try clear p299
                          try clear p3
                          try clear p30
                          try clear p300
                          try clear p6
                          try clear q2
                          try clear q25
                          try clear q26
                          try clear q29
                          try clear q299
                          try clear q3
                          try clear q30
                          try clear q300
                          obtain ⟨x12_4, x15_4, rfl, HA, HK4, HO_5, HO_12, HO_14, HB⟩ := hrel
                          cases gk with
                          | zero => exact absurd HA.out (by simp [laws_FnAnyOrder.l2])
                          | succ k4 =>
                            have H := HA.out
                            clear HA
                            simp only [laws_FnAnyOrder.l2] at H
                            by_cases c51 : x15_4 < t278
                            · rw [if_pos c51] at H
                              have c51b0 : decide (x15_4 < t278) = true := decide_eq_true c51
                              clear c51
                              replace H := bind_eq_some_iff.mp H
                              obtain ⟨⟨t311, t312, t313, t314, t317⟩, A520, H⟩ := H
                              replace H : (if t317 = true then (if 0 ≤ x15_4 then (if x15_4 < (t308.length : Int) then (if (!(t311 == ((rd_T31 t308 x15_4).f0)) || (!(t312 == ((rd_T31 t308 x15_4).f1)) || (!(t313 == ((rd_T31 t308 x15_4).f2))))) = true then (some false) else (if 0 ≤ t312 then (if t312 < (x5_1.length : Int) then (if (rd x5_1 t312) = t311 then (if x15_4 > 0 then (if 0 ≤ (wrap64 (x15_4 - 1)) then (if (wrap64 (x15_4 - 1)) < (t308.length : Int) then (if ((rd_T31 t308 x15_4).f0) < ((rd_T31 t308 (wrap64 (x15_4 - 1))).f0) then (some false) else (if ((rd_T31 t308 x15_4).f0) = ((rd_T31 t308 (wrap64 (x15_4 - 1))).f0) then (if ((rd_T31 t308 x15_4).f1) ≤ ((rd_T31 t308 (wrap64 (x15_4 - 1))).f1) then (some false) else (laws_FnAnyOrder.l2 k4 t278 x5_1 t314 t308 (wrap64 (x15_4 + 1)))) else (laws_FnAnyOrder.l2 k4 t278 x5_1 t314 t308 (wrap64 (x15_4 + 1))))) else (none)) else (none)) else (laws_FnAnyOrder.l2 k4 t278 x5_1 t314 t308 (wrap64 (x15_4 + 1)))) else (some false)) else (none)) else (none))) else (none)) else (none)) else (some false)) = some r := H
                              have A52 := Aside0.mk A520
                              clear A520
                              by_cases c53 : t317 = true
                              · subst c53
                                have H1 : (if 0 ≤ x15_4 then (if x15_4 < (t308.length : Int) then (if (!(t311 == ((rd_T31 t308 x15_4).f0)) || (!(t312 == ((rd_T31 t308 x15_4).f1)) || (!(t313 == ((rd_T31 t308 x15_4).f2))))) = true then (some false) else (if 0 ≤ t312 then (if t312 < (x5_1.length : Int) then (if (rd x5_1 t312) = t311 then (if x15_4 > 0 then (if 0 ≤ (wrap64 (x15_4 - 1)) then (if (wrap64 (x15_4 - 1)) < (t308.length : Int) then (if ((rd_T31 t308 x15_4).f0) < ((rd_T31 t308 (wrap64 (x15_4 - 1))).f0) then (some false) else (if ((rd_T31 t308 x15_4).f0) = ((rd_T31 t308 (wrap64 (x15_4 - 1))).f0) then (if ((rd_T31 t308 x15_4).f1) ≤ ((rd_T31 t308 (wrap64 (x15_4 - 1))).f1) then (some false) else (laws_FnAnyOrder.l2 k4 t278 x5_1 t314 t308 (wrap64 (x15_4 + 1)))) else (laws_FnAnyOrder.l2 k4 t278 x5_1 t314 t308 (wrap64 (x15_4 + 1))))) else (none)) else (none)) else (laws_FnAnyOrder.l2 k4 t278 x5_1 t314 t308 (wrap64 (x15_4 + 1)))) else (some false)) else (none)) else (none))) else (none)) else (none)) = some r := by rw [if_pos rfl] at H; exact H
                                clear H
                                have H := H1
                                clear H1
                                by_cases c54 : 0 ≤ x15_4
                                · rw [if_pos c54] at H
                                  have c54b0 : decide (0 ≤ x15_4) = true := decide_eq_true c54
                                  clear c54
                                  by_cases c55 : x15_4 < (t308.length : Int)
                                  · rw [if_pos c55] at H
                                    have c55b0 : decide (x15_4 < (t308.length : Int)) = true := decide_eq_true c55
                                    clear c55
                                    by_cases c56 : (!(t311 == ((rd_T31 t308 x15_4).f0)) || (!(t312 == ((rd_T31 t308 x15_4).f1)) || (!(t313 == ((rd_T31 t308 x15_4).f2))))) = true
                                    · rw [if_pos c56] at H
                                      have c56b0 : (!(t311 == ((rd_T31 t308 x15_4).f0)) || (!(t312 == ((rd_T31 t308 x15_4).f1)) || (!(t313 == ((rd_T31 t308 x15_4).f2))))) = true := c56
                                      clear c56
                                      obtain rfl := Option.some.inj H
                                      obtain ⟨Ao57, co57, eo57⟩ := Kd.R_slice HO_12.out
                                      subst eo57
                                      as_aux_lemma =>
                                        go_wp2_with (go_at_call 23; (with_reducible refine (impl_Shifted.calls k4 _ _ x12_4 t311 t312 t313 t314 true _ ?side1 ?side2 A52.out).mono ?_); (case side1 => repeat (first | exact (R_reads' HO_12.out).2.2 | (with_reducible refine C_alloc ?_ _) | (with_reducible refine C_drewN ?_ _) | (with_reducible refine C_drew ?_))); (case side2 => exact (R_reads' HO_12.out).2.1); rintro e w58 ⟨v315, rfl, ho0, hb⟩; have n0_ := Aside0.mk (R_below (by (with_reducible repeat (first | apply R_alloc | apply R_drewN | apply R_drew)); exact HO_5.out) hb); have n1_ := Aside0.mk (Kd.R_elder' (by (with_reducible repeat (first | apply R_alloc | apply R_drewN | apply R_drew)); exact HO_12.out) (Kd.R_base ho0) hb); have n2_ := Aside0.mk (Kd.R_elder' (by (with_reducible repeat (first | apply R_alloc | apply R_drewN | apply R_drew)); exact HO_14.out) (Kd.R_base ho0) hb); have n3_ := Aside0.mk (Kd.R_lower (Kd.R_new' (Kd.R_new' ho0 (Kd.R_lt (by (with_reducible repeat (first | apply R_alloc | apply R_drewN | apply R_drew)); exact HO_12.out))) (Kd.R_lt (by (with_reducible repeat (first | apply R_alloc | apply R_drewN | apply R_drew)); exact HO_14.out))) (below_size (by repeat (first | (with_reducible first | exact HB.out | apply bwA | apply bwN | apply bw1) | exact HB.out)))); have n4_ := Aside0.mk (below_step (by repeat (first | (with_reducible first | exact HB.out | apply bwA | apply bwN | apply bw1) | exact HB.out)) hb); clear HO_5; clear HO_12; clear HO_14; clear HB; have HO_5 := n0_; have HO_12 := n1_; have HO_14 := n2_; have HO316 := n3_; have HB := n4_; clear n0_ n1_ n2_ n3_ n4_; (try clear hb); (try clear hb2); (try clear hk); (try clear hi); (try clear ho0))
                                        have p319 : 0 ≤ (x15_4 : Int) := of_decide_eq_true (by first | (with_reducible assumption) | assumption)
                                        have q319 : x15_4 < (t308.length : Int) := of_decide_eq_true (by first | (with_reducible assumption) | assumption)
                                        obtain ⟨ad319, e319, hx319_0, hx319_1, hx319_2⟩ := at_T31 (R_reads' (R_alloc HO_14.out (Obj.cells #[.int .i64 t311, .int .i64 t312, .int .i64 t313] 31))).2.2 x15_4 p319 q319
                                        cases e319
                                        (try have hy319_0 := fun (n_ : Nat) => (show ((World.alloc _ (Obj.cells #[.int .i64 t311, .int .i64 t312, .int .i64 t313] 31)).drewN n_).cell? _ = some _ from hx319_0))
                                        (try have hy319_1 := fun (n_ : Nat) => (show ((World.alloc _ (Obj.cells #[.int .i64 t311, .int .i64 t312, .int .i64 t313] 31)).drewN n_).cell? _ = some _ from hx319_1))
                                        (try have hy319_2 := fun (n_ : Nat) => (show ((World.alloc _ (Obj.cells #[.int .i64 t311, .int .i64 t312, .int .i64 t313] 31)).drewN n_).cell? _ = some _ from hx319_2))
                                        replace p319 := eq_true p319
                                        replace q319 := eq_true q319
                                        dsimp only [List.append]
                                        repeat (go_quiet (fail); try go_wp2)
                                        go_ret
                                        exact ⟨by first | rfl | (simp [errW_none, errW_some] <;> rfl) | (simp [*, errW_none, errW_some] <;> rfl), by repeat (first | (with_reducible first | exact HB.out | apply bwA | apply bwN | apply bw1) | exact HB.out)⟩
                                    · rw [if_neg c56] at H
                                      have c56b0 : (!(t311 == ((rd_T31 t308 x15_4).f0)) || (!(t312 == ((rd_T31 t308 x15_4).f1)) || (!(t313 == ((rd_T31 t308 x15_4).f2))))) = false := by simpa using c56
                                      clear c56
                                      by_cases c61 : 0 ≤ t312
                                      · rw [if_pos c61] at H
                                        have c61b0 : decide (0 ≤ t312) = true := decide_eq_true c61
                                        clear c61
                                        by_cases c62 : t312 < (x5_1.length : Int)
                                        · rw [if_pos c62] at H
                                          have c62b0 : decide (t312 < (x5_1.length : Int)) = true := decide_eq_true c62
                                          clear c62
                                          by_cases c63 : (rd x5_1 t312) = t311
                                          · rw [if_pos c63] at H
                                            have c63b0 : ((rd x5_1 t312) == t311) = true := beq_iff_eq.mpr c63
                                            have c63b1 : ((rd x5_1 t312) != t311) = false := bne_eq_false_iff_eq.mpr c63
                                            clear c63
                                            by_cases c64 : x15_4 > 0
                                            · rw [if_pos c64] at H
                                              have c64b0 : decide (0 < x15_4) = true := decide_eq_true c64
                                              clear c64
                                              obtain ⟨ji65, hji65⟩ : ∃ j_ : Int, (wrap64 (x15_4 - 1)) = j_ := ⟨_, rfl⟩
                                              replace H : (if 0 ≤ (ji65) then (if (ji65) < (t308.length : Int) then (if ((rd_T31 t308 x15_4).f0) < ((rd_T31 t308 (ji65)).f0) then (some false) else (if ((rd_T31 t308 x15_4).f0) = ((rd_T31 t308 (ji65)).f0) then (if ((rd_T31 t308 x15_4).f1) ≤ ((rd_T31 t308 (ji65)).f1) then (some false) else (laws_FnAnyOrder.l2 k4 t278 x5_1 t314 t308 (wrap64 (x15_4 + 1)))) else (laws_FnAnyOrder.l2 k4 t278 x5_1 t314 t308 (wrap64 (x15_4 + 1))))) else (none)) else (none)) = some r := by first | (rw [hji65] at H; exact H) | (simp only [hji65] at H ⊢; exact H)
                                              (try rw [hji65] at A52)
                                              have hji65w : (IntKind.i64.wrap (x15_4 - 1)) = ji65 := (i64_w _).trans hji65
                                              by_cases c66 : 0 ≤ (ji65)
                                              · rw [if_pos c66] at H
                                                have c66b0 : decide (0 ≤ (ji65)) = true := decide_eq_true c66
                                                clear c66
                                                by_cases c67 : (ji65) < (t308.length : Int)
                                                · rw [if_pos c67] at H
                                                  have c67b0 : decide ((ji65) < (t308.length : Int)) = true := decide_eq_true c67
                                                  clear c67
                                                  by_cases c68 : ((rd_T31 t308 x15_4).f0) < ((rd_T31 t308 (ji65)).f0)
                                                  · rw [if_pos c68] at H
                                                    have c68b0 : decide (((rd_T31 t308 x15_4).f0) < ((rd_T31 t308 (ji65)).f0)) = true := decide_eq_true c68
                                                    clear c68
                                                    obtain rfl := Option.some.inj H
                                                    obtain ⟨Ao69, co69, eo69⟩ := Kd.R_slice HO_12.out
                                                    subst eo69
                                                    as_aux_lemma =>
                                                      go_wp2_with (go_at_call 23; (with_reducible refine (impl_Shifted.calls k4 _ _ x12_4 t311 t312 t313 t314 true _ ?side1 ?side2 A52.out).mono ?_); (case side1 => repeat (first | exact (R_reads' HO_12.out).2.2 | (with_reducible refine C_alloc ?_ _) | (with_reducible refine C_drewN ?_ _) | (with_reducible refine C_drew ?_))); (case side2 => exact (R_reads' HO_12.out).2.1); rintro e w70 ⟨v315, rfl, ho0, hb⟩; have n0_ := Aside0.mk (R_below (by (with_reducible repeat (first | apply R_alloc | apply R_drewN | apply R_drew)); exact HO_5.out) hb); have n1_ := Aside0.mk (Kd.R_elder' (by (with_reducible repeat (first | apply R_alloc | apply R_drewN | apply R_drew)); exact HO_12.out) (Kd.R_base ho0) hb); have n2_ := Aside0.mk (Kd.R_elder' (by (with_reducible repeat (first | apply R_alloc | apply R_drewN | apply R_drew)); exact HO_14.out) (Kd.R_base ho0) hb); have n3_ := Aside0.mk (Kd.R_lower (Kd.R_new' (Kd.R_new' ho0 (Kd.R_lt (by (with_reducible repeat (first | apply R_alloc | apply R_drewN | apply R_drew)); exact HO_12.out))) (Kd.R_lt (by (with_reducible repeat (first | apply R_alloc | apply R_drewN | apply R_drew)); exact HO_14.out))) (below_size (by repeat (first | (with_reducible first | exact HB.out | apply bwA | apply bwN | apply bw1) | exact HB.out)))); have n4_ := Aside0.mk (below_step (by repeat (first | (with_reducible first | exact HB.out | apply bwA | apply bwN | apply bw1) | exact HB.out)) hb); clear HO_5; clear HO_12; clear HO_14; clear HB; have HO_5 := n0_; have HO_12 := n1_; have HO_14 := n2_; have HO316 := n3_; have HB := n4_; clear n0_ n1_ n2_ n3_ n4_; (try clear hb); (try clear hb2); (try clear hk); (try clear hi); (try clear ho0))
                                                      have p319 : 0 ≤ (x15_4 : Int) := of_decide_eq_true (by first | (with_reducible assumption) | assumption)
                                                      have q319 : x15_4 < (t308.length : Int) := of_decide_eq_true (by first | (with_reducible assumption) | assumption)
                                                      obtain ⟨ad319, e319, hx319_0, hx319_1, hx319_2⟩ := at_T31 (R_reads' (R_alloc HO_14.out (Obj.cells #[.int .i64 t311, .int .i64 t312, .int .i64 t313] 31))).2.2 x15_4 p319 q319
                                                      cases e319
                                                      (try have hy319_0 := fun (n_ : Nat) => (show ((World.alloc _ (Obj.cells #[.int .i64 t311, .int .i64 t312, .int .i64 t313] 31)).drewN n_).cell? _ = some _ from hx319_0))
                                                      (try have hy319_1 := fun (n_ : Nat) => (show ((World.alloc _ (Obj.cells #[.int .i64 t311, .int .i64 t312, .int .i64 t313] 31)).drewN n_).cell? _ = some _ from hx319_1))
                                                      (try have hy319_2 := fun (n_ : Nat) => (show ((World.alloc _ (Obj.cells #[.int .i64 t311, .int .i64 t312, .int .i64 t313] 31)).drewN n_).cell? _ = some _ from hx319_2))
                                                      replace p319 := eq_true p319
                                                      replace q319 := eq_true q319
                                                      have p320 : 0 ≤ (t312 : Int) := of_decide_eq_true (by first | (with_reducible assumption) | assumption)
                                                      have q320 : t312 < (x5_1.length : Int) := of_decide_eq_true (by first | (with_reducible assumption) | assumption)
                                                      obtain ⟨ad320, e320, hx320_0⟩ := Kd.at_int (R_reads' (R_alloc HO_5.out (Obj.cells #[.int .i64 t311, .int .i64 t312, .int .i64 t313] 31))).2.2 t312 p320 q320
                                                      cases e320
                                                      (try have hy320_0 := fun (n_ : Nat) => (show ((World.alloc _ (Obj.cells #[.int .i64 t311, .int .i64 t312, .int .i64 t313] 31)).drewN n_).cell? _ = some _ from hx320_0))
                                                      replace p320 := eq_true p320
                                                      replace q320 := eq_true q320
                                                      have p322 : 0 ≤ ((ji65) : Int) := of_decide_eq_true (by first | (with_reducible assumption) | assumption)
                                                      have q322 : (ji65) < (t308.length : Int) := of_decide_eq_true (by first | (with_reducible assumption) | assumption)
                                                      obtain ⟨ad322, e322, hx322_0, hx322_1, hx322_2⟩ := at_T31 (R_reads' (R_alloc HO_14.out (Obj.cells #[.int .i64 t311, .int .i64 t312, .int .i64 t313] 31))).2.2 (ji65) p322 q322
                                                      obtain rfl : ad319 = ad322 := (by injection e322)
                                                      (try have hy322_0 := fun (n_ : Nat) => (show ((World.alloc _ (Obj.cells #[.int .i64 t311, .int .i64 t312, .int .i64 t313] 31)).drewN n_).cell? _ = some _ from hx322_0))
                                                      (try have hy322_1 := fun (n_ : Nat) => (show ((World.alloc _ (Obj.cells #[.int .i64 t311, .int .i64 t312, .int .i64 t313] 31)).drewN n_).cell? _ = some _ from hx322_1))
                                                      (try have hy322_2 := fun (n_ : Nat) => (show ((World.alloc _ (Obj.cells #[.int .i64 t311, .int .i64 t312, .int .i64 t313] 31)).drewN n_).cell? _ = some _ from hx322_2))
                                                      replace p322 := eq_true p322
                                                      replace q322 := eq_true q322
                                                      dsimp only [List.append]
                                                      repeat (go_quiet (fail); try go_wp2)
                                                      go_ret
                                                      exact ⟨by first | rfl | (simp [errW_none, errW_some] <;> rfl) | (simp only [← hji65]; first | rfl | (simp [errW_none, errW_some] <;> rfl)) | (simp [*, errW_none, errW_some] <;> rfl), by repeat (first | (with_reducible first | exact HB.out | apply bwA | apply bwN | apply bw1) | exact HB.out)⟩
                                                  · rw [if_neg c68] at H
                                                    have c68b0 : decide (((rd_T31 t308 x15_4).f0) < ((rd_T31 t308 (ji65)).f0)) = false := decide_eq_false c68
                                                    clear c68
                                                    by_cases c73 : ((rd_T31 t308 x15_4).f0) = ((rd_T31 t308 (ji65)).f0)
                                                    · rw [if_pos c73] at H
                                                      have c73b0 : (((rd_T31 t308 x15_4).f0) == ((rd_T31 t308 (ji65)).f0)) = true := beq_iff_eq.mpr c73
                                                      have c73b1 : (((rd_T31 t308 x15_4).f0) != ((rd_T31 t308 (ji65)).f0)) = false := bne_eq_false_iff_eq.mpr c73
                                                      clear c73
                                                      by_cases c74 : ((rd_T31 t308 x15_4).f1) ≤ ((rd_T31 t308 (ji65)).f1)
                                                      · rw [if_pos c74] at H
                                                        have c74b0 : decide (((rd_T31 t308 x15_4).f1) ≤ ((rd_T31 t308 (ji65)).f1)) = true := decide_eq_true c74
                                                        clear c74
                                                        obtain rfl := Option.some.inj H
                                                        obtain ⟨Ao75, co75, eo75⟩ := Kd.R_slice HO_12.out
                                                        subst eo75
                                                        as_aux_lemma =>
                                                          go_wp2_with (go_at_call 23; (with_reducible refine (impl_Shifted.calls k4 _ _ x12_4 t311 t312 t313 t314 true _ ?side1 ?side2 A52.out).mono ?_); (case side1 => repeat (first | exact (R_reads' HO_12.out).2.2 | (with_reducible refine C_alloc ?_ _) | (with_reducible refine C_drewN ?_ _) | (with_reducible refine C_drew ?_))); (case side2 => exact (R_reads' HO_12.out).2.1); rintro e w76 ⟨v315, rfl, ho0, hb⟩; have n0_ := Aside0.mk (R_below (by (with_reducible repeat (first | apply R_alloc | apply R_drewN | apply R_drew)); exact HO_5.out) hb); have n1_ := Aside0.mk (Kd.R_elder' (by (with_reducible repeat (first | apply R_alloc | apply R_drewN | apply R_drew)); exact HO_12.out) (Kd.R_base ho0) hb); have n2_ := Aside0.mk (Kd.R_elder' (by (with_reducible repeat (first | apply R_alloc | apply R_drewN | apply R_drew)); exact HO_14.out) (Kd.R_base ho0) hb); have n3_ := Aside0.mk (Kd.R_lower (Kd.R_new' (Kd.R_new' ho0 (Kd.R_lt (by (with_reducible repeat (first | apply R_alloc | apply R_drewN | apply R_drew)); exact HO_12.out))) (Kd.R_lt (by (with_reducible repeat (first | apply R_alloc | apply R_drewN | apply R_drew)); exact HO_14.out))) (below_size (by repeat (first | (with_reducible first | exact HB.out | apply bwA | apply bwN | apply bw1) | exact HB.out)))); have n4_ := Aside0.mk (below_step (by repeat (first | (with_reducible first | exact HB.out | apply bwA | apply bwN | apply bw1) | exact HB.out)) hb); clear HO_5; clear HO_12; clear HO_14; clear HB; have HO_5 := n0_; have HO_12 := n1_; have HO_14 := n2_; have HO316 := n3_; have HB := n4_; clear n0_ n1_ n2_ n3_ n4_; (try clear hb); (try clear hb2); (try clear hk); (try clear hi); (try clear ho0))
                                                          have p319 : 0 ≤ (x15_4 : Int) := of_decide_eq_true (by first | (with_reducible assumption) | assumption)
                                                          have q319 : x15_4 < (t308.length : Int) := of_decide_eq_true (by first | (with_reducible assumption) | assumption)
                                                          obtain ⟨ad319, e319, hx319_0, hx319_1, hx319_2⟩ := at_T31 (R_reads' (R_alloc HO_14.out (Obj.cells #[.int .i64 t311, .int .i64 t312, .int .i64 t313] 31))).2.2 x15_4 p319 q319
                                                          cases e319
                                                          (try have hy319_0 := fun (n_ : Nat) => (show ((World.alloc _ (Obj.cells #[.int .i64 t311, .int .i64 t312, .int .i64 t313] 31)).drewN n_).cell? _ = some _ from hx319_0))
                                                          (try have hy319_1 := fun (n_ : Nat) => (show ((World.alloc _ (Obj.cells #[.int .i64 t311, .int .i64 t312, .int .i64 t313] 31)).drewN n_).cell? _ = some _ from hx319_1))
                                                          (try have hy319_2 := fun (n_ : Nat) => (show ((World.alloc _ (Obj.cells #[.int .i64 t311, .int .i64 t312, .int .i64 t313] 31)).drewN n_).cell? _ = some _ from hx319_2))
                                                          replace p319 := eq_true p319
                                                          replace q319 := eq_true q319
                                                          have p320 : 0 ≤ (t312 : Int) := of_decide_eq_true (by first | (with_reducible assumption) | assumption)
                                                          have q320 : t312 < (x5_1.length : Int) := of_decide_eq_true (by first | (with_reducible assumption) | assumption)
                                                          obtain ⟨ad320, e320, hx320_0⟩ := Kd.at_int (R_reads' (R_alloc HO_5.out (Obj.cells #[.int .i64 t311, .int .i64 t312, .int .i64 t313] 31))).2.2 t312 p320 q320
                                                          cases e320
                                                          (try have hy320_0 := fun (n_ : Nat) => (show ((World.alloc _ (Obj.cells #[.int .i64 t311, .int .i64 t312, .int .i64 t313] 31)).drewN n_).cell? _ = some _ from hx320_0))
                                                          replace p320 := eq_true p320
                                                          replace q320 := eq_true q320
                                                          have p322 : 0 ≤ ((ji65) : Int) := of_decide_eq_true (by first | (with_reducible assumption) | assumption)
                                                          have q322 : (ji65) < (t308.length : Int) := of_decide_eq_true (by first | (with_reducible assumption) | assumption)
                                                          obtain ⟨ad322, e322, hx322_0, hx322_1, hx322_2⟩ := at_T31 (R_reads' (R_alloc HO_14.out (Obj.cells #[.int .i64 t311, .int .i64 t312, .int .i64 t313] 31))).2.2 (ji65) p322 q322
                                                          obtain rfl : ad319 = ad322 := (by injection e322)
                                                          (try have hy322_0 := fun (n_ : Nat) => (show ((World.alloc _ (Obj.cells #[.int .i64 t311, .int .i64 t312, .int .i64 t313] 31)).drewN n_).cell? _ = some _ from hx322_0))
                                                          (try have hy322_1 := fun (n_ : Nat) => (show ((World.alloc _ (Obj.cells #[.int .i64 t311, .int .i64 t312, .int .i64 t313] 31)).drewN n_).cell? _ = some _ from hx322_1))
                                                          (try have hy322_2 := fun (n_ : Nat) => (show ((World.alloc _ (Obj.cells #[.int .i64 t311, .int .i64 t312, .int .i64 t313] 31)).drewN n_).cell? _ = some _ from hx322_2))
                                                          replace p322 := eq_true p322
                                                          replace q322 := eq_true q322
                                                          dsimp only [List.append]
                                                          repeat (go_quiet (fail); try go_wp2)
                                                          go_ret
                                                          exact ⟨by first | rfl | (simp [errW_none, errW_some] <;> rfl) | (simp only [← hji65]; first | rfl | (simp [errW_none, errW_some] <;> rfl)) | (simp [*, errW_none, errW_some] <;> rfl), by repeat (first | (with_reducible first | exact HB.out | apply bwA | apply bwN | apply bw1) | exact HB.out)⟩
                                                      · rw [if_neg c74] at H
                                                        have c74b0 : decide (((rd_T31 t308 x15_4).f1) ≤ ((rd_T31 t308 (ji65)).f1)) = false := decide_eq_false c74
                                                        clear c74
                                                        have H' := Aside0.mk H
                                                        clear H
                                                        obtain ⟨Ao79, co79, eo79⟩ := Kd.R_slice HO_12.out
                                                        subst eo79
                                                        as_aux_lemma =>
                                                          go_wp2_with (go_at_call 23; (with_reducible refine (impl_Shifted.calls k4 _ _ x12_4 t311 t312 t313 t314 true _ ?side1 ?side2 A52.out).mono ?_); (case side1 => repeat (first | exact (R_reads' HO_12.out).2.2 | (with_reducible refine C_alloc ?_ _) | (with_reducible refine C_drewN ?_ _) | (with_reducible refine C_drew ?_))); (case side2 => exact (R_reads' HO_12.out).2.1); rintro e w80 ⟨v315, rfl, ho0, hb⟩; have n0_ := Aside0.mk (R_below (by (with_reducible repeat (first | apply R_alloc | apply R_drewN | apply R_drew)); exact HO_5.out) hb); have n1_ := Aside0.mk (Kd.R_elder' (by (with_reducible repeat (first | apply R_alloc | apply R_drewN | apply R_drew)); exact HO_12.out) (Kd.R_base ho0) hb); have n2_ := Aside0.mk (Kd.R_elder' (by (with_reducible repeat (first | apply R_alloc | apply R_drewN | apply R_drew)); exact HO_14.out) (Kd.R_base ho0) hb); have n3_ := Aside0.mk (Kd.R_lower (Kd.R_new' (Kd.R_new' ho0 (Kd.R_lt (by (with_reducible repeat (first | apply R_alloc | apply R_drewN | apply R_drew)); exact HO_12.out))) (Kd.R_lt (by (with_reducible repeat (first | apply R_alloc | apply R_drewN | apply R_drew)); exact HO_14.out))) (below_size (by repeat (first | (with_reducible first | exact HB.out | apply bwA | apply bwN | apply bw1) | exact HB.out)))); have n4_ := Aside0.mk (below_step (by repeat (first | (with_reducible first | exact HB.out | apply bwA | apply bwN | apply bw1) | exact HB.out)) hb); clear HO_5; clear HO_12; clear HO_14; clear HB; have HO_5 := n0_; have HO_12 := n1_; have HO_14 := n2_; have HO316 := n3_; have HB := n4_; clear n0_ n1_ n2_ n3_ n4_; (try clear hb); (try clear hb2); (try clear hk); (try clear hi); (try clear ho0))
                                                          have p319 : 0 ≤ (x15_4 : Int) := of_decide_eq_true (by first | (with_reducible assumption) | assumption)
                                                          have q319 : x15_4 < (t308.length : Int) := of_decide_eq_true (by first | (with_reducible assumption) | assumption)
                                                          obtain ⟨ad319, e319, hx319_0, hx319_1, hx319_2⟩ := at_T31 (R_reads' (R_alloc HO_14.out (Obj.cells #[.int .i64 t311, .int .i64 t312, .int .i64 t313] 31))).2.2 x15_4 p319 q319
                                                          cases e319
                                                          (try have hy319_0 := fun (n_ : Nat) => (show ((World.alloc _ (Obj.cells #[.int .i64 t311, .int .i64 t312, .int .i64 t313] 31)).drewN n_).cell? _ = some _ from hx319_0))
                                                          (try have hy319_1 := fun (n_ : Nat) => (show ((World.alloc _ (Obj.cells #[.int .i64 t311, .int .i64 t312, .int .i64 t313] 31)).drewN n_).cell? _ = some _ from hx319_1))
                                                          (try have hy319_2 := fun (n_ : Nat) => (show ((World.alloc _ (Obj.cells #[.int .i64 t311, .int .i64 t312, .int .i64 t313] 31)).drewN n_).cell? _ = some _ from hx319_2))
                                                          replace p319 := eq_true p319
                                                          replace q319 := eq_true q319
                                                          have p320 : 0 ≤ (t312 : Int) := of_decide_eq_true (by first | (with_reducible assumption) | assumption)
                                                          have q320 : t312 < (x5_1.length : Int) := of_decide_eq_true (by first | (with_reducible assumption) | assumption)
                                                          obtain ⟨ad320, e320, hx320_0⟩ := Kd.at_int (R_reads' (R_alloc HO_5.out (Obj.cells #[.int .i64 t311, .int .i64 t312, .int .i64 t313] 31))).2.2 t312 p320 q320
                                                          cases e320
                                                          (try have hy320_0 := fun (n_ : Nat) => (show ((World.alloc _ (Obj.cells #[.int .i64 t311, .int .i64 t312, .int .i64 t313] 31)).drewN n_).cell? _ = some _ from hx320_0))
                                                          replace p320 := eq_true p320
                                                          replace q320 := eq_true q320
                                                          have p322 : 0 ≤ ((ji65) : Int) := of_decide_eq_true (by first | (with_reducible assumption) | assumption)
                                                          have q322 : (ji65) < (t308.length : Int) := of_decide_eq_true (by first | (with_reducible assumption) | assumption)
                                                          obtain ⟨ad322, e322, hx322_0, hx322_1, hx322_2⟩ := at_T31 (R_reads' (R_alloc HO_14.out (Obj.cells #[.int .i64 t311, .int .i64 t312, .int .i64 t313] 31))).2.2 (ji65) p322 q322
                                                          obtain rfl : ad319 = ad322 := (by injection e322)
                                                          (try have hy322_0 := fun (n_ : Nat) => (show ((World.alloc _ (Obj.cells #[.int .i64 t311, .int .i64 t312, .int .i64 t313] 31)).drewN n_).cell? _ = some _ from hx322_0))
                                                          (try have hy322_1 := fun (n_ : Nat) => (show ((World.alloc _ (Obj.cells #[.int .i64 t311, .int .i64 t312, .int .i64 t313] 31)).drewN n_).cell? _ = some _ from hx322_1))
                                                          (try have hy322_2 := fun (n_ : Nat) => (show ((World.alloc _ (Obj.cells #[.int .i64 t311, .int .i64 t312, .int .i64 t313] 31)).drewN n_).cell? _ = some _ from hx322_2))
                                                          replace p322 := eq_true p322
                                                          replace q322 := eq_true q322
                                                          dsimp only [List.append]
                                                          repeat (go_quiet (fail); try go_wp2)
                                                          go_roundg k4
                                                          case measure => have := HK1.out; have := HK2.out; have := HJ33.out; have := HK4.out; omega
                                                          case rel => exact ⟨(t314), (wrap64 (x15_4 + 1)), (by first | rfl | (simp; done) | (simp [*]; done)), H', ⟨by have := HK1.out; have := HK2.out; have := HJ33.out; have := HK4.out; omega⟩, ⟨by (with_reducible repeat (first | apply R_alloc | apply R_drewN | apply R_drew)); exact HO_5.out⟩, ⟨by (with_reducible repeat (first | apply R_alloc | apply R_drewN | apply R_drew)); exact Kd.R_mono HO316.out (fun _ hk => hk.2)⟩, ⟨by (with_reducible repeat (first | apply R_alloc | apply R_drewN | apply R_drew)); exact Kd.R_mono HO_14.out (fun _ hk => hk.2)⟩, ⟨by repeat (first | (with_reducible first | exact HB.out | apply bwA | apply bwN | apply bw1) | exact HB.out)⟩⟩
                                                    · rw [if_neg c73] at H
                                                      have c73b0 : (((rd_T31 t308 x15_4).f0) == ((rd_T31 t308 (ji65)).f0)) = false := beq_eq_false_iff_ne.mpr c73
                                                      have c73b1 : (((rd_T31 t308 x15_4).f0) != ((rd_T31 t308 (ji65)).f0)) = true := bne_iff_ne.mpr c73
                                                      have H' := Aside0.mk H
                                                      clear H
                                                      obtain ⟨Ao83, co83, eo83⟩ := Kd.R_slice HO_12.out
                                                      subst eo83
                                                      as_aux_lemma =>
                                                        go_wp2_with (go_at_call 23; (with_reducible refine (impl_Shifted.calls k4 _ _ x12_4 t311 t312 t313 t314 true _ ?side1 ?side2 A52.out).mono ?_); (case side1 => repeat (first | exact (R_reads' HO_12.out).2.2 | (with_reducible refine C_alloc ?_ _) | (with_reducible refine C_drewN ?_ _) | (with_reducible refine C_drew ?_))); (case side2 => exact (R_reads' HO_12.out).2.1); rintro e w84 ⟨v315, rfl, ho0, hb⟩; have n0_ := Aside0.mk (R_below (by (with_reducible repeat (first | apply R_alloc | apply R_drewN | apply R_drew)); exact HO_5.out) hb); have n1_ := Aside0.mk (Kd.R_elder' (by (with_reducible repeat (first | apply R_alloc | apply R_drewN | apply R_drew)); exact HO_12.out) (Kd.R_base ho0) hb); have n2_ := Aside0.mk (Kd.R_elder' (by (with_reducible repeat (first | apply R_alloc | apply R_drewN | apply R_drew)); exact HO_14.out) (Kd.R_base ho0) hb); have n3_ := Aside0.mk (Kd.R_lower (Kd.R_new' (Kd.R_new' ho0 (Kd.R_lt (by (with_reducible repeat (first | apply R_alloc | apply R_drewN | apply R_drew)); exact HO_12.out))) (Kd.R_lt (by (with_reducible repeat (first | apply R_alloc | apply R_drewN | apply R_drew)); exact HO_14.out))) (below_size (by repeat (first | (with_reducible first | exact HB.out | apply bwA | apply bwN | apply bw1) | exact HB.out)))); have n4_ := Aside0.mk (below_step (by repeat (first | (with_reducible first | exact HB.out | apply bwA | apply bwN | apply bw1) | exact HB.out)) hb); clear HO_5; clear HO_12; clear HO_14; clear HB; have HO_5 := n0_; have HO_12 := n1_; have HO_14 := n2_; have HO316 := n3_; have HB := n4_; clear n0_ n1_ n2_ n3_ n4_; (try clear hb); (try clear hb2); (try clear hk); (try clear hi); (try clear ho0))
                                                        have p319 : 0 ≤ (x15_4 : Int) := of_decide_eq_true (by first | (with_reducible assumption) | assumption)
                                                        have q319 : x15_4 < (t308.length : Int) := of_decide_eq_true (by first | (with_reducible assumption) | assumption)
                                                        obtain ⟨ad319, e319, hx319_0, hx319_1, hx319_2⟩ := at_T31 (R_reads' (R_alloc HO_14.out (Obj.cells #[.int .i64 t311, .int .i64 t312, .int .i64 t313] 31))).2.2 x15_4 p319 q319
                                                        cases e319
                                                        (try have hy319_0 := fun (n_ : Nat) => (show ((World.alloc _ (Obj.cells #[.int .i64 t311, .int .i64 t312, .int .i64 t313] 31)).drewN n_).cell? _ = some _ from hx319_0))
                                                        (try have hy319_1 := fun (n_ : Nat) => (show ((World.alloc _ (Obj.cells #[.int .i64 t311, .int .i64 t312, .int .i64 t313] 31)).drewN n_).cell? _ = some _ from hx319_1))
                                                        (try have hy319_2 := fun (n_ : Nat) => (show ((World.alloc _ (Obj.cells #[.int .i64 t311, .int .i64 t312, .int .i64 t313] 31)).drewN n_).cell? _ = some _ from hx319_2))
                                                        replace p319 := eq_true p319
                                                        replace q319 := eq_true q319
                                                        have p320 : 0 ≤ (t312 : Int) := of_decide_eq_true (by first | (with_reducible assumption) | assumption)
                                                        have q320 : t312 < (x5_1.length : Int) := of_decide_eq_true (by first | (with_reducible assumption) | assumption)
                                                        obtain ⟨ad320, e320, hx320_0⟩ := Kd.at_int (R_reads' (R_alloc HO_5.out (Obj.cells #[.int .i64 t311, .int .i64 t312, .int .i64 t313] 31))).2.2 t312 p320 q320
                                                        cases e320
                                                        (try have hy320_0 := fun (n_ : Nat) => (show ((World.alloc _ (Obj.cells #[.int .i64 t311, .int .i64 t312, .int .i64 t313] 31)).drewN n_).cell? _ = some _ from hx320_0))
                                                        replace p320 := eq_true p320
                                                        replace q320 := eq_true q320
                                                        have p322 : 0 ≤ ((ji65) : Int) := of_decide_eq_true (by first | (with_reducible assumption) | assumption)
                                                        have q322 : (ji65) < (t308.length : Int) := of_decide_eq_true (by first | (with_reducible assumption) | assumption)
                                                        obtain ⟨ad322, e322, hx322_0, hx322_1, hx322_2⟩ := at_T31 (R_reads' (R_alloc HO_14.out (Obj.cells #[.int .i64 t311, .int .i64 t312, .int .i64 t313] 31))).2.2 (ji65) p322 q322
                                                        obtain rfl : ad319 = ad322 := (by injection e322)
                                                        (try have hy322_0 := fun (n_ : Nat) => (show ((World.alloc _ (Obj.cells #[.int .i64 t311, .int .i64 t312, .int .i64 t313] 31)).drewN n_).cell? _ = some _ from hx322_0))
                                                        (try have hy322_1 := fun (n_ : Nat) => (show ((World.alloc _ (Obj.cells #[.int .i64 t311, .int .i64 t312, .int .i64 t313] 31)).drewN n_).cell? _ = some _ from hx322_1))
                                                        (try have hy322_2 := fun (n_ : Nat) => (show ((World.alloc _ (Obj.cells #[.int .i64 t311, .int .i64 t312, .int .i64 t313] 31)).drewN n_).cell? _ = some _ from hx322_2))
                                                        replace p322 := eq_true p322
                                                        replace q322 := eq_true q322
                                                        dsimp only [List.append]
                                                        repeat (go_quiet (fail); try go_wp2)
                                                        go_roundg k4
                                                        case measure => have := HK1.out; have := HK2.out; have := HJ33.out; have := HK4.out; omega
                                                        case rel => exact ⟨(t314), (wrap64 (x15_4 + 1)), (by first | rfl | (simp; done) | (simp [*]; done)), H', ⟨by have := HK1.out; have := HK2.out; have := HJ33.out; have := HK4.out; omega⟩, ⟨by (with_reducible repeat (first | apply R_alloc | apply R_drewN | apply R_drew)); exact HO_5.out⟩, ⟨by (with_reducible repeat (first | apply R_alloc | apply R_drewN | apply R_drew)); exact Kd.R_mono HO316.out (fun _ hk => hk.2)⟩, ⟨by (with_reducible repeat (first | apply R_alloc | apply R_drewN | apply R_drew)); exact Kd.R_mono HO_14.out (fun _ hk => hk.2)⟩, ⟨by repeat (first | (with_reducible first | exact HB.out | apply bwA | apply bwN | apply bw1) | exact HB.out)⟩⟩
                                                · rw [if_neg c67] at H
                                                  exact absurd H (by simp)
                                              · rw [if_neg c66] at H
                                                exact absurd H (by simp)
                                            · rw [if_neg c64] at H
                                              have c64b0 : decide (0 < x15_4) = false := decide_eq_false c64
                                              clear c64
                                              have H' := Aside0.mk H
                                              clear H
                                              obtain ⟨Ao87, co87, eo87⟩ := Kd.R_slice HO_12.out
                                              subst eo87
                                              as_aux_lemma =>
                                                go_wp2_with (go_at_call 23; (with_reducible refine (impl_Shifted.calls k4 _ _ x12_4 t311 t312 t313 t314 true _ ?side1 ?side2 A52.out).mono ?_); (case side1 => repeat (first | exact (R_reads' HO_12.out).2.2 | (with_reducible refine C_alloc ?_ _) | (with_reducible refine C_drewN ?_ _) | (with_reducible refine C_drew ?_))); (case side2 => exact (R_reads' HO_12.out).2.1); rintro e w88 ⟨v315, rfl, ho0, hb⟩; have n0_ := Aside0.mk (R_below (by (with_reducible repeat (first | apply R_alloc | apply R_drewN | apply R_drew)); exact HO_5.out) hb); have n1_ := Aside0.mk (Kd.R_elder' (by (with_reducible repeat (first | apply R_alloc | apply R_drewN | apply R_drew)); exact HO_12.out) (Kd.R_base ho0) hb); have n2_ := Aside0.mk (Kd.R_elder' (by (with_reducible repeat (first | apply R_alloc | apply R_drewN | apply R_drew)); exact HO_14.out) (Kd.R_base ho0) hb); have n3_ := Aside0.mk (Kd.R_lower (Kd.R_new' (Kd.R_new' ho0 (Kd.R_lt (by (with_reducible repeat (first | apply R_alloc | apply R_drewN | apply R_drew)); exact HO_12.out))) (Kd.R_lt (by (with_reducible repeat (first | apply R_alloc | apply R_drewN | apply R_drew)); exact HO_14.out))) (below_size (by repeat (first | (with_reducible first | exact HB.out | apply bwA | apply bwN | apply bw1) | exact HB.out)))); have n4_ := Aside0.mk (below_step (by repeat (first | (with_reducible first | exact HB.out | apply bwA | apply bwN | apply bw1) | exact HB.out)) hb); clear HO_5; clear HO_12; clear HO_14; clear HB; have HO_5 := n0_; have HO_12 := n1_; have HO_14 := n2_; have HO316 := n3_; have HB := n4_; clear n0_ n1_ n2_ n3_ n4_; (try clear hb); (try clear hb2); (try clear hk); (try clear hi); (try clear ho0))
                                                have p319 : 0 ≤ (x15_4 : Int) := of_decide_eq_true (by first | (with_reducible assumption) | assumption)
                                                have q319 : x15_4 < (t308.length : Int) := of_decide_eq_true (by first | (with_reducible assumption) | assumption)
                                                obtain ⟨ad319, e319, hx319_0, hx319_1, hx319_2⟩ := at_T31 (R_reads' (R_alloc HO_14.out (Obj.cells #[.int .i64 t311, .int .i64 t312, .int .i64 t313] 31))).2.2 x15_4 p319 q319
                                                cases e319
                                                (try have hy319_0 := fun (n_ : Nat) => (show ((World.alloc _ (Obj.cells #[.int .i64 t311, .int .i64 t312, .int .i64 t313] 31)).drewN n_).cell? _ = some _ from hx319_0))
                                                (try have hy319_1 := fun (n_ : Nat) => (show ((World.alloc _ (Obj.cells #[.int .i64 t311, .int .i64 t312, .int .i64 t313] 31)).drewN n_).cell? _ = some _ from hx319_1))
                                                (try have hy319_2 := fun (n_ : Nat) => (show ((World.alloc _ (Obj.cells #[.int .i64 t311, .int .i64 t312, .int .i64 t313] 31)).drewN n_).cell? _ = some _ from hx319_2))
                                                replace p319 := eq_true p319
                                                replace q319 := eq_true q319
                                                have p320 : 0 ≤ (t312 : Int) := of_decide_eq_true (by first | (with_reducible assumption) | assumption)
                                                have q320 : t312 < (x5_1.length : Int) := of_decide_eq_true (by first | (with_reducible assumption) | assumption)
                                                obtain ⟨ad320, e320, hx320_0⟩ := Kd.at_int (R_reads' (R_alloc HO_5.out (Obj.cells #[.int .i64 t311, .int .i64 t312, .int .i64 t313] 31))).2.2 t312 p320 q320
                                                cases e320
                                                (try have hy320_0 := fun (n_ : Nat) => (show ((World.alloc _ (Obj.cells #[.int .i64 t311, .int .i64 t312, .int .i64 t313] 31)).drewN n_).cell? _ = some _ from hx320_0))
                                                replace p320 := eq_true p320
                                                replace q320 := eq_true q320
                                                dsimp only [List.append]
                                                repeat (go_quiet (fail); try go_wp2)
                                                go_roundg k4
                                                case measure => have := HK1.out; have := HK2.out; have := HJ33.out; have := HK4.out; omega
                                                case rel => exact ⟨(t314), (wrap64 (x15_4 + 1)), (by first | rfl | (simp; done) | (simp [*]; done)), H', ⟨by have := HK1.out; have := HK2.out; have := HJ33.out; have := HK4.out; omega⟩, ⟨by (with_reducible repeat (first | apply R_alloc | apply R_drewN | apply R_drew)); exact HO_5.out⟩, ⟨by (with_reducible repeat (first | apply R_alloc | apply R_drewN | apply R_drew)); exact Kd.R_mono HO316.out (fun _ hk => hk.2)⟩, ⟨by (with_reducible repeat (first | apply R_alloc | apply R_drewN | apply R_drew)); exact Kd.R_mono HO_14.out (fun _ hk => hk.2)⟩, ⟨by repeat (first | (with_reducible first | exact HB.out | apply bwA | apply bwN | apply bw1) | exact HB.out)⟩⟩
                                          · rw [if_neg c63] at H
                                            have c63b0 : ((rd x5_1 t312) == t311) = false := beq_eq_false_iff_ne.mpr c63
                                            have c63b1 : ((rd x5_1 t312) != t311) = true := bne_iff_ne.mpr c63
                                            obtain rfl := Option.some.inj H
                                            obtain ⟨Ao91, co91, eo91⟩ := Kd.R_slice HO_12.out
                                            subst eo91
                                            as_aux_lemma =>
                                              go_wp2_with (go_at_call 23; (with_reducible refine (impl_Shifted.calls k4 _ _ x12_4 t311 t312 t313 t314 true _ ?side1 ?side2 A52.out).mono ?_); (case side1 => repeat (first | exact (R_reads' HO_12.out).2.2 | (with_reducible refine C_alloc ?_ _) | (with_reducible refine C_drewN ?_ _) | (with_reducible refine C_drew ?_))); (case side2 => exact (R_reads' HO_12.out).2.1); rintro e w92 ⟨v315, rfl, ho0, hb⟩; have n0_ := Aside0.mk (R_below (by (with_reducible repeat (first | apply R_alloc | apply R_drewN | apply R_drew)); exact HO_5.out) hb); have n1_ := Aside0.mk (Kd.R_elder' (by (with_reducible repeat (first | apply R_alloc | apply R_drewN | apply R_drew)); exact HO_12.out) (Kd.R_base ho0) hb); have n2_ := Aside0.mk (Kd.R_elder' (by (with_reducible repeat (first | apply R_alloc | apply R_drewN | apply R_drew)); exact HO_14.out) (Kd.R_base ho0) hb); have n3_ := Aside0.mk (Kd.R_lower (Kd.R_new' (Kd.R_new' ho0 (Kd.R_lt (by (with_reducible repeat (first | apply R_alloc | apply R_drewN | apply R_drew)); exact HO_12.out))) (Kd.R_lt (by (with_reducible repeat (first | apply R_alloc | apply R_drewN | apply R_drew)); exact HO_14.out))) (below_size (by repeat (first | (with_reducible first | exact HB.out | apply bwA | apply bwN | apply bw1) | exact HB.out)))); have n4_ := Aside0.mk (below_step (by repeat (first | (with_reducible first | exact HB.out | apply bwA | apply bwN | apply bw1) | exact HB.out)) hb); clear HO_5; clear HO_12; clear HO_14; clear HB; have HO_5 := n0_; have HO_12 := n1_; have HO_14 := n2_; have HO316 := n3_; have HB := n4_; clear n0_ n1_ n2_ n3_ n4_; (try clear hb); (try clear hb2); (try clear hk); (try clear hi); (try clear ho0))
                                              have p319 : 0 ≤ (x15_4 : Int) := of_decide_eq_true (by first | (with_reducible assumption) | assumption)
                                              have q319 : x15_4 < (t308.length : Int) := of_decide_eq_true (by first | (with_reducible assumption) | assumption)
                                              obtain ⟨ad319, e319, hx319_0, hx319_1, hx319_2⟩ := at_T31 (R_reads' (R_alloc HO_14.out (Obj.cells #[.int .i64 t311, .int .i64 t312, .int .i64 t313] 31))).2.2 x15_4 p319 q319
                                              cases e319
                                              (try have hy319_0 := fun (n_ : Nat) => (show ((World.alloc _ (Obj.cells #[.int .i64 t311, .int .i64 t312, .int .i64 t313] 31)).drewN n_).cell? _ = some _ from hx319_0))
                                              (try have hy319_1 := fun (n_ : Nat) => (show ((World.alloc _ (Obj.cells #[.int .i64 t311, .int .i64 t312, .int .i64 t313] 31)).drewN n_).cell? _ = some _ from hx319_1))
                                              (try have hy319_2 := fun (n_ : Nat) => (show ((World.alloc _ (Obj.cells #[.int .i64 t311, .int .i64 t312, .int .i64 t313] 31)).drewN n_).cell? _ = some _ from hx319_2))
                                              replace p319 := eq_true p319
                                              replace q319 := eq_true q319
                                              have p320 : 0 ≤ (t312 : Int) := of_decide_eq_true (by first | (with_reducible assumption) | assumption)
                                              have q320 : t312 < (x5_1.length : Int) := of_decide_eq_true (by first | (with_reducible assumption) | assumption)
                                              obtain ⟨ad320, e320, hx320_0⟩ := Kd.at_int (R_reads' (R_alloc HO_5.out (Obj.cells #[.int .i64 t311, .int .i64 t312, .int .i64 t313] 31))).2.2 t312 p320 q320
                                              cases e320
                                              (try have hy320_0 := fun (n_ : Nat) => (show ((World.alloc _ (Obj.cells #[.int .i64 t311, .int .i64 t312, .int .i64 t313] 31)).drewN n_).cell? _ = some _ from hx320_0))
                                              replace p320 := eq_true p320
                                              replace q320 := eq_true q320
                                              dsimp only [List.append]
                                              repeat (go_quiet (fail); try go_wp2)
                                              go_ret
                                              exact ⟨by first | rfl | (simp [errW_none, errW_some] <;> rfl) | (simp [*, errW_none, errW_some] <;> rfl), by repeat (first | (with_reducible first | exact HB.out | apply bwA | apply bwN | apply bw1) | exact HB.out)⟩
                                        · rw [if_neg c62] at H
                                          exact absurd H (by simp)
                                      · rw [if_neg c61] at H
                                        exact absurd H (by simp)
                                  · rw [if_neg c55] at H
                                    exact absurd H (by simp)
                                · rw [if_neg c54] at H
                                  exact absurd H (by simp)
                              · replace c53 := Bool.eq_false_iff.mpr c53
                                subst c53
                                have H1 : (some false) = some r := by rw [if_neg (show ¬ (false = true) by decide)] at H; exact H
                                clear H
                                have H := H1
                                clear H1
                                obtain rfl := Option.some.inj H
                                obtain ⟨Ao95, co95, eo95⟩ := Kd.R_slice HO_12.out
                                subst eo95
                                as_aux_lemma =>
                                  go_wp2_with (first | (go_at_call 23; (with_reducible refine (impl_Shifted.calls k4 _ _ x12_4 t311 t312 t313 t314 false _ ?side1 ?side2 A52.out).mono ?_); (case side1 => repeat (first | exact (R_reads' HO_12.out).2.2 | (with_reducible refine C_alloc ?_ _) | (with_reducible refine C_drewN ?_ _) | (with_reducible refine C_drew ?_))); (case side2 => exact (R_reads' HO_12.out).2.1); rintro e w96 ⟨v315, rfl, ho0, hb⟩; have n0_ := Aside0.mk (R_below (by (with_reducible repeat (first | apply R_alloc | apply R_drewN | apply R_drew)); exact HO_5.out) hb); have n1_ := Aside0.mk (Kd.R_elder' (by (with_reducible repeat (first | apply R_alloc | apply R_drewN | apply R_drew)); exact HO_12.out) (Kd.R_base ho0) hb); have n2_ := Aside0.mk (Kd.R_elder' (by (with_reducible repeat (first | apply R_alloc | apply R_drewN | apply R_drew)); exact HO_14.out) (Kd.R_base ho0) hb); have n3_ := Aside0.mk (Kd.R_lower (Kd.R_new' (Kd.R_new' ho0 (Kd.R_lt (by (with_reducible repeat (first | apply R_alloc | apply R_drewN | apply R_drew)); exact HO_12.out))) (Kd.R_lt (by (with_reducible repeat (first | apply R_alloc | apply R_drewN | apply R_drew)); exact HO_14.out))) (below_size (by repeat (first | (with_reducible first | exact HB.out | apply bwA | apply bwN | apply bw1) | exact HB.out)))); have n4_ := Aside0.mk (below_step (by repeat (first | (with_reducible first | exact HB.out | apply bwA | apply bwN | apply bw1) | exact HB.out)) hb); clear HO_5; clear HO_12; clear HO_14; clear HB; have HO_5 := n0_; have HO_12 := n1_; have HO_14 := n2_; have HO316 := n3_; have HB := n4_; clear n0_ n1_ n2_ n3_ n4_; (try clear hb); (try clear hb2); (try clear hk); (try clear hi); (try clear ho0)) | ((with_reducible refine gate_dst (N := 16) rfl ?_); (try (refine gate_guard (by rfl) ?_; dsimp only)); refine box_event ?hg (N := 16) ?hd (cs := #[.int .i64 0, .int .i64 0, .int .i64 0]) (t := 31) ?hr ?_; (case hd => rfl); (case hg => rfl); (case hr => first | (go_simp; done) | (go_simp; rfl)); intro gb318 hg w97 hbox hb; have n0_ := Aside0.mk (R_below (by (with_reducible repeat (first | apply R_alloc | apply R_drewN | apply R_drew)); exact HO_5.out) hb); have n1_ := Aside0.mk (R_below (Kd.R_elderB (by (with_reducible repeat (first | apply R_alloc | apply R_drewN | apply R_drew)); exact HO_12.out) gb318 (Nat.le_of_eq hg.symm)) hb); have n2_ := Aside0.mk (R_below (Kd.R_elderB (by (with_reducible repeat (first | apply R_alloc | apply R_drewN | apply R_drew)); exact HO_14.out) gb318 (Nat.le_of_eq hg.symm)) hb); have n3_ := Aside0.mk (R_below (Kd.R_elderB (by (with_reducible repeat (first | apply R_alloc | apply R_drewN | apply R_drew)); exact HO316.out) gb318 (Nat.le_of_eq hg.symm)) hb); have n4_ := Aside0.mk (below_step (by repeat (first | (with_reducible first | exact HB.out | apply bwA | apply bwN | apply bw1) | exact HB.out)) hb); have n5_ := Aside0.mk (hbox); have n6_ := Aside0.mk ((by rw [hg]; exact (below_size (by repeat (first | (with_reducible first | exact HB.out | apply bwA | apply bwN | apply bw1) | exact HB.out))) : w.heap.size ≤ gb318)); have n7_ := Aside0.mk ((by rw [hg]; exact (below_size (by repeat (first | (with_reducible first | exact HB.out | apply bwA | apply bwN | apply bw1) | exact HB.out))) : w.heap.size ≤ gb318)); clear HO_5; clear HO_12; clear HO_14; clear HO316; clear HB; have HO_5 := n0_; have HO_12 := n1_; have HO_14 := n2_; have HO316 := n3_; have HB := n4_; have BK318 := n5_; have GW318 := n6_; have GE318 := n7_; clear n0_ n1_ n2_ n3_ n4_ n5_ n6_ n7_; clear hb hbox hg; have hcz98_0 : w97.cell? ⟨gb318, 0, none⟩ = some (.int .i64 0) := (blk_cell BK318.out 0).trans rfl; have hcz98_1 : w97.cell? ⟨gb318, 1, none⟩ = some (.int .i64 0) := (blk_cell BK318.out 1).trans rfl; have hcz98_2 : w97.cell? ⟨gb318, 2, none⟩ = some (.int .i64 0) := (blk_cell BK318.out 2).trans rfl; have hfz98_0 := blk_frozen BK318.out 0; have hfz98_1 := blk_frozen BK318.out 1; have hfz98_2 := blk_frozen BK318.out 2))
                                  dsimp only [List.append]
                                  repeat (go_quiet (fail); try go_wp2)
                                  go_ret
                                  exact ⟨by first | rfl | (simp [errW_none, errW_some] <;> rfl) | (simp [*, errW_none, errW_some] <;> rfl), by repeat (first | (with_reducible first | exact HB.out | apply bwA | apply bwN | apply bw1 | refine below_set ?_ GE318.out) | exact HB.out)⟩
                            · rw [if_neg c51] at H
                              have c51b0 : decide (x15_4 < t278) = false := decide_eq_false c51
                              clear c51
                              replace H := bind_eq_some_iff.mp H
                              obtain ⟨⟨t327, t328, t329, t330, t333⟩, A990, H⟩ := H
                              replace H : (some (!t333)) = some r := H
                              have A99 := Aside0.mk A990
                              clear A990
                              obtain rfl := Option.some.inj H
                              obtain ⟨Ao100, co100, eo100⟩ := Kd.R_slice HO_12.out
                              subst eo100
                              go_wp2_with (first | (go_at_call 23; (with_reducible refine (impl_Shifted.calls k4 _ _ x12_4 t327 t328 t329 t330 t333 _ ?side1 ?side2 A99.out).mono ?_); (case side1 => repeat (first | exact (R_reads' HO_12.out).2.2 | (with_reducible refine C_alloc ?_ _) | (with_reducible refine C_drewN ?_ _) | (with_reducible refine C_drew ?_))); (case side2 => exact (R_reads' HO_12.out).2.1); rintro e w101 ⟨v331, rfl, ho0, hb⟩; have n0_ := Aside0.mk (R_below (by (with_reducible repeat (first | apply R_alloc | apply R_drewN | apply R_drew)); exact HO_5.out) hb); have n1_ := Aside0.mk (Kd.R_elder' (by (with_reducible repeat (first | apply R_alloc | apply R_drewN | apply R_drew)); exact HO_12.out) (Kd.R_base ho0) hb); have n2_ := Aside0.mk (Kd.R_elder' (by (with_reducible repeat (first | apply R_alloc | apply R_drewN | apply R_drew)); exact HO_14.out) (Kd.R_base ho0) hb); have n3_ := Aside0.mk (Kd.R_lower (Kd.R_new' (Kd.R_new' ho0 (Kd.R_lt (by (with_reducible repeat (first | apply R_alloc | apply R_drewN | apply R_drew)); exact HO_12.out))) (Kd.R_lt (by (with_reducible repeat (first | apply R_alloc | apply R_drewN | apply R_drew)); exact HO_14.out))) (below_size (by repeat (first | (with_reducible first | exact HB.out | apply bwA | apply bwN | apply bw1) | exact HB.out)))); have n4_ := Aside0.mk (below_step (by repeat (first | (with_reducible first | exact HB.out | apply bwA | apply bwN | apply bw1) | exact HB.out)) hb); clear HO_5; clear HO_12; clear HO_14; clear HB; have HO_5 := n0_; have HO_12 := n1_; have HO_14 := n2_; have HO332 := n3_; have HB := n4_; clear n0_ n1_ n2_ n3_ n4_; (try clear hb); (try clear hb2); (try clear hk); (try clear hi); (try clear ho0)) | ((with_reducible refine gate_dst (N := 19) rfl ?_); (try (refine gate_guard (by rfl) ?_; dsimp only)); refine box_event ?hg (N := 19) ?hd (cs := #[.int .i64 0, .int .i64 0, .int .i64 0]) (t := 31) ?hr ?_; (case hd => rfl); (case hg => rfl); (case hr => first | (go_simp; done) | (go_simp; rfl)); intro gb334 hg w102 hbox hb; have n0_ := Aside0.mk (R_below (by (with_reducible repeat (first | apply R_alloc | apply R_drewN | apply R_drew)); exact HO_5.out) hb); have n1_ := Aside0.mk (R_below (Kd.R_elderB (by (with_reducible repeat (first | apply R_alloc | apply R_drewN | apply R_drew)); exact HO_12.out) gb334 (Nat.le_of_eq hg.symm)) hb); have n2_ := Aside0.mk (R_below (Kd.R_elderB (by (with_reducible repeat (first | apply R_alloc | apply R_drewN | apply R_drew)); exact HO_14.out) gb334 (Nat.le_of_eq hg.symm)) hb); have n3_ := Aside0.mk (R_below (Kd.R_elderB (by (with_reducible repeat (first | apply R_alloc | apply R_drewN | apply R_drew)); exact HO332.out) gb334 (Nat.le_of_eq hg.symm)) hb); have n4_ := Aside0.mk (below_step (by repeat (first | (with_reducible first | exact HB.out | apply bwA | apply bwN | apply bw1) | exact HB.out)) hb); have n5_ := Aside0.mk (hbox); have n6_ := Aside0.mk ((by rw [hg]; exact (below_size (by repeat (first | (with_reducible first | exact HB.out | apply bwA | apply bwN | apply bw1) | exact HB.out))) : w.heap.size ≤ gb334)); have n7_ := Aside0.mk ((by rw [hg]; exact (below_size (by repeat (first | (with_reducible first | exact HB.out | apply bwA | apply bwN | apply bw1) | exact HB.out))) : w.heap.size ≤ gb334)); clear HO_5; clear HO_12; clear HO_14; clear HO332; clear HB; have HO_5 := n0_; have HO_12 := n1_; have HO_14 := n2_; have HO332 := n3_; have HB := n4_; have BK334 := n5_; have GW334 := n6_; have GE334 := n7_; clear n0_ n1_ n2_ n3_ n4_ n5_ n6_ n7_; clear hb hbox hg; have hcz103_0 : w102.cell? ⟨gb334, 0, none⟩ = some (.int .i64 0) := (blk_cell BK334.out 0).trans rfl; have hcz103_1 : w102.cell? ⟨gb334, 1, none⟩ = some (.int .i64 0) := (blk_cell BK334.out 1).trans rfl; have hcz103_2 : w102.cell? ⟨gb334, 2, none⟩ = some (.int .i64 0) := (blk_cell BK334.out 2).trans rfl; have hfz103_0 := blk_frozen BK334.out 0; have hfz103_1 := blk_frozen BK334.out 1; have hfz103_2 := blk_frozen BK334.out 2))
                              repeat (go_quiet (fail); try go_wp2_with (fail))
                              go_ret
                              exact ⟨by first | rfl | (simp [errW_none, errW_some] <;> rfl) | (simp [*, errW_none, errW_some] <;> rfl), by repeat (first | (with_reducible first | exact HB.out | apply bwA | apply bwN | apply bw1 | refine below_set ?_ GE334.out) | exact HB.out)⟩
                      · rw [if_neg c47] at H
                        have c47b0 : ((t308.length : Int) == t278) = false := beq_eq_false_iff_ne.mpr c47
                        have c47b1 : ((t308.length : Int) != t278) = true := bne_iff_ne.mpr c47
                        obtain rfl := Option.some.inj H
                        obtain ⟨Ao104, co104, eo104⟩ := Kd.R_slice HO_12.out
                        subst eo104
                        go_wp2_with (first | (go_at_call 41; (with_reducible refine (impl_Sorted.calls kj33 _ _ t303 t308 _ ?side1 ?side2 A46.out).mono ?_); (case side1 => repeat (first | exact (R_reads' HO_12.out).2.2 | (with_reducible refine C_alloc ?_ _) | (with_reducible refine C_drewN ?_ _) | (with_reducible refine C_drew ?_))); (case side2 => exact (R_reads' HO_12.out).2.1); rintro e w105 ⟨v309, rfl, ho0, hb⟩; have n0_ := Aside0.mk (R_below (by (with_reducible repeat (first | apply R_alloc | apply R_drewN | apply R_drew)); exact HO_5.out) hb); have n1_ := Aside0.mk (Kd.R_elder' (by (with_reducible repeat (first | apply R_alloc | apply R_drewN | apply R_drew)); exact HO_12.out) (Kd.R_base ho0) hb); have n2_ := Aside0.mk (Kd.R_lower (Kd.R_new' ho0 (Kd.R_lt (by (with_reducible repeat (first | apply R_alloc | apply R_drewN | apply R_drew)); exact HO_12.out))) (below_size (by repeat (first | (with_reducible first | exact HB.out | apply bwA | apply bwN | apply bw1) | exact HB.out)))); have n3_ := Aside0.mk (below_step (by repeat (first | (with_reducible first | exact HB.out | apply bwA | apply bwN | apply bw1) | exact HB.out)) hb); clear HO_5; clear HO_12; clear HB; have HO_5 := n0_; have HO_12 := n1_; have HO310 := n2_; have HB := n3_; clear n0_ n1_ n2_ n3_; (try clear hb); (try clear hb2); (try clear hk); (try clear hi); (try clear ho0); obtain ⟨Ao106, co106, eo106⟩ := Kd.R_slice HO310.out; subst eo106))
                        repeat (go_quiet (fail); try go_wp2_with (fail))
                        go_ret
                        exact ⟨by first | rfl | (simp [errW_none, errW_some] <;> rfl) | (simp [*, errW_none, errW_some] <;> rfl), by repeat (first | (with_reducible first | exact HB.out | apply bwA | apply bwN | apply bw1) | exact HB.out)⟩
end Go.Proofs.Ytljfflhbabkbgaa.PFnAnyOrder
