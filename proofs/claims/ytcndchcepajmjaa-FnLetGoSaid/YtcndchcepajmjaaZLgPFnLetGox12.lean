/- Texts of the claim of the law FnLetGo, made smaller by a program of this session: what the claim does not use is left out. No condition. -/
import Derived.Test.YtcndchcepajmjaaZLgPFnLetGox0
import Derived.Test.YtcndchcepajmjaaZLgPFnLetGox2
import Derived.Test.YtcndchcepajmjaaZLgPFnLetGox9
import Derived.Test.YtcndchcepajmjaaZLgPFnLetGox10
import Derived.Test.YtcndchcepajmjaaZLgPFnLetGox11
namespace Go.Proofs.Ytcndchcepajmjaa.PFnLetGo
open Go.RowKit Go.Proofs.YtcndchcepajmjaaW.PrintWords Go.Proofs.YtcndchcepajmjaaW.PrintLast Go.Proofs.YtcndchcepajmjaaW.PrintMore
open List (map_toArray map_cons map_nil)
open Option (bind_eq_some_iff)
open Kd (R_drewN R_reads' R_below)
attribute [local go_sem] max2_int min2_int max_two min_two max_three min_three max_four min_four   -- for this text's walks alone
set_option linter.unusedVariables false
set_option linter.unusedSimpArgs false
def spec_l6DrawEvent.j0 : Nat → List (S30) → Int → Int → Bool → List Int → Int → Int → Int → Int → Int → Int → Option (Int × Int × Int × Int × Int × Int)
 | 0, _, _, _, _, _, _, _, _, _, _, _ => none
 | k + 1, x1, x2, x7, x27, x1000, x1001, x1002, x477000, x477001, x477002, x477003 => if x27 = true then (if 0 ≤ x7 then (if x7 < (x1.length : Int) then (if ((rd_T30 x1 x7).f2) = 9223372036854775807 then (some (x7, 2, 0, x2, x1001, x1002)) else ((spec_l1Once.f x1000 x1001 x1002 4).bind fun bt482 => (if bt482.1 = true then (some (x7, 2, 0, x2, bt482.2.1, bt482.2.2)) else ((spec_l1Max.f x2 ((rd_T30 x1 x7).f2)).bind fun t486 => (some (x7, 2, 0, t486, bt482.2.1, bt482.2.2)))))) else (none)) else (none)) else (some (x477000, x477001, x477002, x477003, x1001, x1002))
def spec_l6DrawEvent.f (k : Nat) (s0_0 : List Int) (s0_1 : Int) (s0_2 : Int) (l1 : List (S30)) (a2 : Int) : Option (Int × Int × Int × Int × Int × Int) := (spec_l1Below.f s0_0 s0_1 s0_2 (l1.length : Int)).bind fun bt470 => ((spec_l1Below.f s0_0 bt470.2.1 bt470.2.2 5).bind fun bt473 => (if 0 ≤ bt470.1 then (if bt470.1 < (l1.length : Int) then (if ((rd_T30 l1 bt470.1).f0) = 2 then ((spec_l1Once.f s0_0 bt473.2.1 bt473.2.2 2).bind fun bt478 => (spec_l6DrawEvent.j0 k l1 a2 bt470.1 bt478.1 s0_0 bt478.2.1 bt478.2.2 bt470.1 1 bt473.1 a2)) else (spec_l6DrawEvent.j0 k l1 a2 bt470.1 false s0_0 bt473.2.1 bt473.2.2 bt470.1 1 bt473.1 a2)) else (none)) else (none)))
set_option maxHeartbeats 8000000 in
set_option maxRecDepth 100000 in
theorem spec_l6DrawEvent.calls (k : Nat) (g : Nat) (s0_0 : List Int) (s0_1 : Int) (s0_2 : Int) (A1 : Option Addr) (c1 : Nat) (l1 : List (S30)) (a2 : Int) (r1 : Int) (r2 : Int) (r3 : Int) (r4 : Int) (r5 : Int) (r6 : Int) (w0 w : World) (hI : IsS93 w0 w g s0_0 s0_1 s0_2) (hB : Below w0.heap.size w0 w) (hr1 : ∀ W_, KeepBut w W_ g none → Kd.C k30 W_ A1 l1.length l1) (hc1 : l1.length ≤ c1) (h : spec_l6DrawEvent.f k s0_0 s0_1 s0_2 l1 a2 = some (r1, r2, r3, r4, r5, r6)) :
  Calls Try.prog 84 #[.pointer (some ⟨g, 0, none⟩), .slice A1 l1.length c1, .int .i64 a2] w fun e w' => e = .returned (.agg #[.int .i64 r1, .int .i64 r2, .int .i64 r3, .int .i64 r4]) ∧ IsS93 w0 w' g s0_0 r5 r6 ∧ Below w0.heap.size w0 w' ∧ KeepBut w w' g none := by
 have hu58 := Try.underlying58
 have HR1 := Aside0.mk hr1
 have HC1 := Aside0.mk hc1
 clear hr1 hc1
 have HI0 := Aside0.mk hI
 have HK := Aside0.mk (KeepBut.refl w g none)
 have HL := Aside0.mk hB.size
 clear hI
 have HW0 := Aside0.mk hB.size
 have HB := Aside0.mk hB
 clear hB
 have H : ((spec_l1Below.f s0_0 s0_1 s0_2 (l1.length : Int)).bind fun bt470 => ((spec_l1Below.f s0_0 bt470.2.1 bt470.2.2 5).bind fun bt473 => (if 0 ≤ bt470.1 then (if bt470.1 < (l1.length : Int) then (if ((rd_T30 l1 bt470.1).f0) = 2 then ((spec_l1Once.f s0_0 bt473.2.1 bt473.2.2 2).bind fun bt478 => (spec_l6DrawEvent.j0 k l1 a2 bt470.1 bt478.1 s0_0 bt478.2.1 bt478.2.2 bt470.1 1 bt473.1 a2)) else (spec_l6DrawEvent.j0 k l1 a2 bt470.1 false s0_0 bt473.2.1 bt473.2.2 bt470.1 1 bt473.1 a2)) else (none)) else (none)))) = some (r1, r2, r3, r4, r5, r6) := h
 clear h
 replace H := bind_eq_some_iff.mp H
 obtain ⟨⟨t470, t471, t472⟩, A40, H⟩ := H
 replace H : ((spec_l1Below.f s0_0 t471 t472 5).bind fun bt473 => (if 0 ≤ t470 then (if t470 < (l1.length : Int) then (if ((rd_T30 l1 t470).f0) = 2 then ((spec_l1Once.f s0_0 bt473.2.1 bt473.2.2 2).bind fun bt478 => (spec_l6DrawEvent.j0 k l1 a2 t470 bt478.1 s0_0 bt478.2.1 bt478.2.2 t470 1 bt473.1 a2)) else (spec_l6DrawEvent.j0 k l1 a2 t470 false s0_0 bt473.2.1 bt473.2.2 t470 1 bt473.1 a2)) else (none)) else (none))) = some (r1, r2, r3, r4, r5, r6) := H
 have A4 := Aside0.mk A40
 clear A40
 replace H := bind_eq_some_iff.mp H
 obtain ⟨⟨t473, t474, t475⟩, A50, H⟩ := H
 replace H : (if 0 ≤ t470 then (if t470 < (l1.length : Int) then (if ((rd_T30 l1 t470).f0) = 2 then ((spec_l1Once.f s0_0 t474 t475 2).bind fun bt478 => (spec_l6DrawEvent.j0 k l1 a2 t470 bt478.1 s0_0 bt478.2.1 bt478.2.2 t470 1 t473 a2)) else (spec_l6DrawEvent.j0 k l1 a2 t470 false s0_0 t474 t475 t470 1 t473 a2)) else (none)) else (none)) = some (r1, r2, r3, r4, r5, r6) := H
 have A5 := Aside0.mk A50
 clear A50
 have HC6 := Aside0.mk H
 clear H
 go_enter Try.func84, Try.ntmps84
 go_upto_region 3 with (first | ((with_reducible refine gate_dst (N := 6) rfl ?_); refine box_event ?hg (N := 6) ?hd (cs := #[.int .i64 0, .int .i64 0, .int .i64 0, .int .i64 0]) (t := 58) ?hr ?_; (case hd => rfl); (case hg => rfl); (case hr => (go_simp; done)); intro gb469 hg w7 hbox hb; have n0_ := Aside0.mk (IsS93.below (by repeat ((with_reducible exact HI0.out))) hb); have n1_ := Aside0.mk (KeepBut.trans (by repeat ((with_reducible exact HK.out))) (KeepBut.of_below hb g none) (.inl rfl)); have n2_ := Aside0.mk (below_step (by repeat ((with_reducible exact HB.out))) hb); have n3_ := Aside0.mk (hbox); have n4_ := Aside0.mk ((by rw [hg]; exact (keep_size (w := w) (g := g) (row := none) (by repeat ((with_reducible exact HK.out)))) : w.heap.size ≤ gb469)); have n5_ := Aside0.mk ((Nat.le_trans HW0.out (by rw [hg]; exact (keep_size (w := w) (g := g) (row := none) (by repeat ((with_reducible exact HK.out)))) : w.heap.size ≤ gb469) : w0.heap.size ≤ gb469)); have n6_ := Aside0.mk ((by rw [hg]; exact Nat.ne_of_lt (IsS93.lt (show IsS93 w0 _ g s0_0 s0_1 s0_2 from by repeat ((with_reducible exact HI0.out)))) : g ≠ gb469)); have n7_ := Aside0.mk ((by rw [hg]; exact Nat.ne_of_gt (IsS93.lt (show IsS93 w0 _ g s0_0 s0_1 s0_2 from by repeat ((with_reducible exact HI0.out)))) : gb469 ≠ g)); clear HI0; clear HK; clear HB; have HI0 := n0_; have HK := n1_; have HB := n2_; have BK469 := n3_; have GW469 := n4_; have GE469 := n5_; have NB0_469 := n6_; have NB469_0 := n7_; clear n0_ n1_ n2_ n3_ n4_ n5_ n6_ n7_; clear hb hbox hg) | ((with_reducible refine gate_callee (f := 89) rfl ?_); refine goesL_ (some 12) rfl rfl Try.func89 (by kernel_rfl) rfl #[.pointer (some ⟨g, 0, none⟩), .int .i64 (l1.length : Int)] rfl (by (try simp only [map_toArray, map_cons, map_nil]); rfl) ?_; (with_reducible refine (spec_l1Below.calls g s0_0 s0_1 s0_2 (l1.length : Int) t470 t471 t472 w0 _ ?side1 ?side2 A4.out).mono ?_); (case side1 => repeat ((with_reducible exact HI0.out))); (case side2 => repeat ((with_reducible exact HB.out))); rintro e w8 ⟨rfl, hi, hb, hk⟩; refine ⟨_, rfl, ?_⟩; have n0_ := Aside0.mk (KeepBut.blk hk (g' := gb469) (o := .cells #[.int .i64 0, .int .i64 0, .int .i64 0, .int .i64 0] 58 (0, 0)) (by (with_reducible repeat (fail)); exact BK469.out) NB469_0.out (by simp)); have n1_ := Aside0.mk (KeepBut.trans (by repeat ((with_reducible exact HK.out))) hk (.inl rfl)); have n2_ := Aside0.mk (hb); have n3_ := Aside0.mk (hi); clear BK469; clear HK; clear HB; clear HI0; have BK469 := n0_; have HK := n1_; have HB := n2_; have HI0 := n3_; clear n0_ n1_ n2_ n3_; (try clear hb); (try clear hk); (try clear hi)) | ((with_reducible refine gate_callee (f := 89) rfl ?_); refine goesL_ (some 15) rfl rfl Try.func89 (by kernel_rfl) rfl #[.pointer (some ⟨g, 0, none⟩), .int .i64 5] rfl (by (try simp only [map_toArray, map_cons, map_nil]); rfl) ?_; (with_reducible refine (spec_l1Below.calls g s0_0 t471 t472 5 t473 t474 t475 w0 _ ?side1 ?side2 A5.out).mono ?_); (case side1 => repeat ((with_reducible exact HI0.out))); (case side2 => repeat ((with_reducible exact HB.out))); rintro e w9 ⟨rfl, hi, hb, hk⟩; refine ⟨_, rfl, ?_⟩; have n0_ := Aside0.mk (KeepBut.blk hk (g' := gb469) (o := .cells #[.int .i64 0, .int .i64 0, .int .i64 0, .int .i64 0] 58 (0, 0)) (by (with_reducible repeat (fail)); exact BK469.out) NB469_0.out (by simp)); have n1_ := Aside0.mk (KeepBut.trans (by repeat ((with_reducible exact HK.out))) hk (.inl rfl)); have n2_ := Aside0.mk (hb); have n3_ := Aside0.mk (hi); clear BK469; clear HK; clear HB; clear HI0; have BK469 := n0_; have HK := n1_; have HB := n2_; have HI0 := n3_; clear n0_ n1_ n2_ n3_; (try clear hb); (try clear hk); (try clear hi)) | ((with_reducible refine gate_dst (N := 8) rfl ?_); refine box_event ?hg (N := 8) ?hd (cs := #[.int .i64 0, .int .i64 0, .int .i64 0, .int .i64 0]) (t := 58) ?hr ?_; (case hd => rfl); (case hg => rfl); (case hr => (go_simp; done)); intro gb476 hg w10 hbox hb; have n0_ := Aside0.mk (IsS93.below (by repeat ((with_reducible exact HI0.out))) hb); have n1_ := Aside0.mk (blk_below (g := gb469) (o := .cells #[.int .i64 0, .int .i64 0, .int .i64 0, .int .i64 0] 58 (0, 0)) (by (with_reducible repeat (fail)); exact BK469.out) hb); have n2_ := Aside0.mk (KeepBut.trans (by repeat ((with_reducible exact HK.out))) (KeepBut.of_below hb g none) (.inl rfl)); have n3_ := Aside0.mk (below_step (by repeat ((with_reducible exact HB.out))) hb); have n4_ := Aside0.mk (hbox); have n5_ := Aside0.mk ((by rw [hg]; exact (keep_size (w := w) (g := g) (row := none) (by repeat ((with_reducible exact HK.out)))) : w.heap.size ≤ gb476)); have n6_ := Aside0.mk ((Nat.le_trans HW0.out (by rw [hg]; exact (keep_size (w := w) (g := g) (row := none) (by repeat ((with_reducible exact HK.out)))) : w.heap.size ≤ gb476) : w0.heap.size ≤ gb476)); have n7_ := Aside0.mk ((by rw [hg]; exact Nat.ne_of_lt (blk_lt (g := gb469) (o := .cells #[.int .i64 0, .int .i64 0, .int .i64 0, .int .i64 0] 58 (0, 0)) (by (with_reducible repeat (fail)); exact BK469.out)) : gb469 ≠ gb476)); have n8_ := Aside0.mk ((by rw [hg]; exact Nat.ne_of_gt (blk_lt (g := gb469) (o := .cells #[.int .i64 0, .int .i64 0, .int .i64 0, .int .i64 0] 58 (0, 0)) (by (with_reducible repeat (fail)); exact BK469.out)) : gb476 ≠ gb469)); have n9_ := Aside0.mk ((by rw [hg]; exact Nat.ne_of_lt (IsS93.lt (show IsS93 w0 _ g s0_0 t474 t475 from by repeat ((with_reducible exact HI0.out)))) : g ≠ gb476)); have n10_ := Aside0.mk ((by rw [hg]; exact Nat.ne_of_gt (IsS93.lt (show IsS93 w0 _ g s0_0 t474 t475 from by repeat ((with_reducible exact HI0.out)))) : gb476 ≠ g)); clear HI0; clear BK469; clear HK; clear HB; have HI0 := n0_; have BK469 := n1_; have HK := n2_; have HB := n3_; have BK476 := n4_; have GW476 := n5_; have GE476 := n6_; have NB469_476 := n7_; have NB476_469 := n8_; have NB0_476 := n9_; have NB476_0 := n10_; clear n0_ n1_ n2_ n3_ n4_ n5_ n6_ n7_ n8_ n9_ n10_; clear hb hbox hg; have hnb11 := NB476_469.out; have hnc11 := NB469_476.out; have hnb12 := NB476_0.out; have hnc12 := NB0_476.out; have hcz13_0 : w10.cell? ⟨gb476, 0, none⟩ = some (.int .i64 0) := (blk_cell BK476.out 0).trans rfl; have hcz13_1 : w10.cell? ⟨gb476, 1, none⟩ = some (.int .i64 0) := (blk_cell BK476.out 1).trans rfl; have hcz13_2 : w10.cell? ⟨gb476, 2, none⟩ = some (.int .i64 0) := (blk_cell BK476.out 2).trans rfl; have hcz13_3 : w10.cell? ⟨gb476, 3, none⟩ = some (.int .i64 0) := (blk_cell BK476.out 3).trans rfl; have hfz13_0 := blk_frozen BK476.out 0; have hfz13_1 := blk_frozen BK476.out 1; have hfz13_2 := blk_frozen BK476.out 2; have hfz13_3 := blk_frozen BK476.out 3))
 go_cut [27] (fun v27 wc => ∃ (kq : Nat) (x27_5 : Bool) (x1001_5 : Int) (x1002_5 : Int), v27 = .bool x27_5 ∧ Aside0 (spec_l6DrawEvent.j0 kq l1 a2 t470 x27_5 s0_0 x1001_5 x1002_5 t470 1 t473 a2 = some (r1, r2, r3, r4, r5, r6)) ∧ Aside0 (kq ≤ k) ∧ Aside0 (wc.heap[gb469]? = some (.cells #[.int .i64 0, .int .i64 0, .int .i64 0, .int .i64 0] 58 (0, 0))) ∧ Aside0 (wc.heap[gb476]? = some (.cells #[.int .i64 t470, .int .i64 1, .int .i64 t473, .int .i64 a2] 58 (0, 0))) ∧ Aside0 (IsS93 w0 wc g s0_0 x1001_5 x1002_5) ∧ Aside0 (KeepBut w wc g none) ∧ Aside0 (Below w0.heap.size w0 wc))
 case first =>
  have H := HC6.out
  clear HC6
  by_cases c14 : 0 ≤ t470
  ·rw [if_pos c14] at H
   have c14b0 : decide (0 ≤ t470) = true := decide_eq_true c14
   clear c14
   (skip)
   by_cases c15 : t470 < (l1.length : Int)
   ·rw [if_pos c15] at H
    have c15b0 : decide (t470 < (l1.length : Int)) = true := decide_eq_true c15
    clear c15
    by_cases c16 : ((rd_T30 l1 t470).f0) = 2
    ·rw [if_pos c16] at H
     have c16b0 : (((rd_T30 l1 t470).f0) == 2) = true := beq_iff_eq.mpr c16
     have c16b1 : (((rd_T30 l1 t470).f0) != 2) = false := bne_eq_false_iff_eq.mpr c16
     clear c16
     replace H := bind_eq_some_iff.mp H
     obtain ⟨⟨t478, t479, t480⟩, A170, H⟩ := H
     replace H : (spec_l6DrawEvent.j0 k l1 a2 t470 t478 s0_0 t479 t480 t470 1 t473 a2) = some (r1, r2, r3, r4, r5, r6) := H
     have A17 := Aside0.mk A170
     clear A170
     have H' := Aside0.mk H
     clear H
     have p477 : 0 ≤ (t470 : Int) := of_decide_eq_true (by (with_reducible assumption))
     have q477 : t470 < (l1.length : Int) := of_decide_eq_true (by (with_reducible assumption))
     obtain ⟨ad477, e477, hx477_0, hx477_1, hx477_2, hx477_3, hx477_4⟩ := at_T30 (Kd.C_foot_now HR1.out (show KeepBut w ((((w10.setCell ⟨gb476, 0, none⟩ (.int .i64 t470)).setCell ⟨gb476, 1, none⟩ (.int .i64 1)).setCell ⟨gb476, 2, none⟩ (.int .i64 t473)).setCell ⟨gb476, 3, none⟩ (.int .i64 a2)) g none from by repeat ((with_reducible first | exact HK.out | refine keep_far ?_ GW476.out _)))) t470 p477 q477
     cases e477
     replace p477 := eq_true p477
     replace q477 := eq_true q477
     go_wp2_with (go_at_call 85; (with_reducible refine (spec_l1Once.calls g s0_0 t474 t475 2 t478 t479 t480 w0 _ ?side1 ?side2 A17.out).mono ?_); (case side1 => repeat ((with_reducible first | exact HI0.out | refine IsS93.far ?_ NB0_476.out _))); (case side2 => repeat ((with_reducible first | exact HB.out | refine below_set ?_ GE476.out))); rintro e w18 ⟨rfl, hi, hb, hk⟩; have n0_ := Aside0.mk (KeepBut.blk hk (g' := gb469) (o := .cells #[.int .i64 0, .int .i64 0, .int .i64 0, .int .i64 0] 58 (0, 0)) (by (with_reducible repeat (fail)); refine blk_far ?_ NB469_476.out _; (with_reducible repeat (fail)); refine blk_far ?_ NB469_476.out _; (with_reducible repeat (fail)); refine blk_far ?_ NB469_476.out _; (with_reducible repeat (fail)); refine blk_far ?_ NB469_476.out _; (with_reducible repeat (fail)); exact BK469.out) NB469_0.out (by simp)); have n1_ := Aside0.mk (KeepBut.blk hk (g' := gb476) (o := .cells #[.int .i64 t470, .int .i64 1, .int .i64 t473, .int .i64 a2] 58 (0, 0)) (by (with_reducible repeat (fail)); refine blk_put (cs := #[.int .i64 t470, .int .i64 1, .int .i64 t473, .int .i64 0]) ?_ 3 _ rfl; (with_reducible repeat (fail)); refine blk_put (cs := #[.int .i64 t470, .int .i64 1, .int .i64 0, .int .i64 0]) ?_ 2 _ rfl; (with_reducible repeat (fail)); refine blk_put (cs := #[.int .i64 t470, .int .i64 0, .int .i64 0, .int .i64 0]) ?_ 1 _ rfl; (with_reducible repeat (fail)); refine blk_put (cs := #[.int .i64 0, .int .i64 0, .int .i64 0, .int .i64 0]) ?_ 0 _ rfl; (with_reducible repeat (fail)); exact BK476.out) NB476_0.out (by simp)); have n2_ := Aside0.mk (KeepBut.trans (by repeat ((with_reducible first | exact HK.out | refine keep_far ?_ GW476.out _))) hk (.inl rfl)); have n3_ := Aside0.mk (hb); have n4_ := Aside0.mk (hi); clear BK469; clear BK476; clear HK; clear HB; clear HI0; have BK469 := n0_; have BK476 := n1_; have HK := n2_; have HB := n3_; have HI0 := n4_; clear n0_ n1_ n2_ n3_ n4_; (try clear hb); (try clear hk); (try clear hi))
     go_meet
     case rel => exact ⟨_, (t478), (t479), (t480), (by rfl), H', ⟨by omega⟩, ⟨by (with_reducible repeat (fail)); exact BK469.out⟩, ⟨by (with_reducible repeat (fail)); exact BK476.out⟩, ⟨by repeat ((with_reducible exact HI0.out))⟩, ⟨by repeat ((with_reducible exact HK.out))⟩, ⟨by repeat ((with_reducible exact HB.out))⟩⟩
    ·rw [if_neg c16] at H
     have c16b0 : (((rd_T30 l1 t470).f0) == 2) = false := beq_eq_false_iff_ne.mpr c16
     have c16b1 : (((rd_T30 l1 t470).f0) != 2) = true := bne_iff_ne.mpr c16
     have H' := Aside0.mk H
     clear H
     have p477 : 0 ≤ (t470 : Int) := of_decide_eq_true (by (with_reducible assumption))
     have q477 : t470 < (l1.length : Int) := of_decide_eq_true (by (with_reducible assumption))
     obtain ⟨ad477, e477, hx477_0, hx477_1, hx477_2, hx477_3, hx477_4⟩ := at_T30 (Kd.C_foot_now HR1.out (show KeepBut w ((((w10.setCell ⟨gb476, 0, none⟩ (.int .i64 t470)).setCell ⟨gb476, 1, none⟩ (.int .i64 1)).setCell ⟨gb476, 2, none⟩ (.int .i64 t473)).setCell ⟨gb476, 3, none⟩ (.int .i64 a2)) g none from by repeat ((with_reducible first | exact HK.out | refine keep_far ?_ GW476.out _)))) t470 p477 q477
     cases e477
     replace p477 := eq_true p477
     replace q477 := eq_true q477
     go_wp2
     go_meet
     case rel => exact ⟨_, (false), (t474), (t475), (by rfl), H', ⟨by omega⟩, ⟨by (with_reducible repeat (fail)); refine blk_far ?_ NB469_476.out _; (with_reducible repeat (fail)); refine blk_far ?_ NB469_476.out _; (with_reducible repeat (fail)); refine blk_far ?_ NB469_476.out _; (with_reducible repeat (fail)); refine blk_far ?_ NB469_476.out _; (with_reducible repeat (fail)); exact BK469.out⟩, ⟨by (with_reducible repeat (fail)); refine blk_put (cs := #[.int .i64 t470, .int .i64 1, .int .i64 t473, .int .i64 0]) ?_ 3 _ rfl; (with_reducible repeat (fail)); refine blk_put (cs := #[.int .i64 t470, .int .i64 1, .int .i64 0, .int .i64 0]) ?_ 2 _ rfl; (with_reducible repeat (fail)); refine blk_put (cs := #[.int .i64 t470, .int .i64 0, .int .i64 0, .int .i64 0]) ?_ 1 _ rfl; (with_reducible repeat (fail)); refine blk_put (cs := #[.int .i64 0, .int .i64 0, .int .i64 0, .int .i64 0]) ?_ 0 _ rfl; (with_reducible repeat (fail)); exact BK476.out⟩, ⟨by repeat ((with_reducible first | exact HI0.out | refine IsS93.far ?_ NB0_476.out _))⟩, ⟨by repeat ((with_reducible first | exact HK.out | refine keep_far ?_ GW476.out _))⟩, ⟨by repeat ((with_reducible first | exact HB.out | refine below_set ?_ GE476.out))⟩⟩
   ·rw [if_neg c15] at H
    exact absurd H (by simp)
  ·rw [if_neg c14] at H
   exact absurd H (by simp)
 case rest =>
  clear HC6
  try clear c1
  try clear p2
  try clear p4
  try clear q4
  try clear hx4
  try clear c8
  try clear c11
  try clear c12
  try clear c14
  try clear c14b0
  try clear c15
  try clear c15b0
  try clear c16
  try clear c16b0
  try clear c16b1
  try clear hcz13_0
  try clear hcz13_1
  try clear hcz13_2
  try clear hcz13_3
  try clear hfz13_0
  try clear hfz13_1
  try clear hfz13_2
  try clear hfz13_3
  try clear hx477_0
  try clear hx477_1
  try clear hx477_2
  try clear hx477_3
  try clear hx477_4
  try clear p477
  try clear q477
  obtain ⟨kq, x27_5, x1001_5, x1002_5, rfl, HA, HJ5, BK469, BK476, HI0, HK, HB⟩ := hcut
  cases kq with
  | zero => exact absurd HA.out (by simp [spec_l6DrawEvent.j0])
  | succ kj5 =>
   have H := HA.out
   clear HA
   simp only [spec_l6DrawEvent.j0] at H
   by_cases c19 : x27_5 = true
   ·subst c19
    have H1 : (if 0 ≤ t470 then (if t470 < (l1.length : Int) then (if ((rd_T30 l1 t470).f2) = 9223372036854775807 then (some (t470, 2, 0, a2, x1001_5, x1002_5)) else ((spec_l1Once.f s0_0 x1001_5 x1002_5 4).bind fun bt482 => (if bt482.1 = true then (some (t470, 2, 0, a2, bt482.2.1, bt482.2.2)) else ((spec_l1Max.f a2 ((rd_T30 l1 t470).f2)).bind fun t486 => (some (t470, 2, 0, t486, bt482.2.1, bt482.2.2)))))) else (none)) else (none)) = some (r1, r2, r3, r4, r5, r6) := by rw [if_pos rfl] at H; exact H
    clear H
    have H := H1
    clear H1
    by_cases c20 : 0 ≤ t470
    ·rw [if_pos c20] at H
     have c20b0 : decide (0 ≤ t470) = true := decide_eq_true c20
     clear c20
     by_cases c21 : t470 < (l1.length : Int)
     ·rw [if_pos c21] at H
      have c21b0 : decide (t470 < (l1.length : Int)) = true := decide_eq_true c21
      clear c21
      by_cases c22 : ((rd_T30 l1 t470).f2) = 9223372036854775807
      ·rw [if_pos c22] at H
       have c22b0 : (((rd_T30 l1 t470).f2) == 9223372036854775807) = true := beq_iff_eq.mpr c22
       have c22b1 : (((rd_T30 l1 t470).f2) != 9223372036854775807) = false := bne_eq_false_iff_eq.mpr c22
       clear c22
       simp only [Option.some.injEq, Prod.mk.injEq] at H
       obtain ⟨rfl, rfl, rfl, rfl, rfl, rfl⟩ := H
       have hnb23 := NB476_469.out
       have hnc23 := NB469_476.out
       have hnb24 := NB476_0.out
       have hnc24 := NB0_476.out
       have hcz25_0 : wc.cell? ⟨gb476, 0, none⟩ = some (.int .i64 t470) := (blk_cell BK476.out 0).trans rfl
       have hcz25_1 : wc.cell? ⟨gb476, 1, none⟩ = some (.int .i64 1) := (blk_cell BK476.out 1).trans rfl
       have hcz25_2 : wc.cell? ⟨gb476, 2, none⟩ = some (.int .i64 t473) := (blk_cell BK476.out 2).trans rfl
       have hcz25_3 : wc.cell? ⟨gb476, 3, none⟩ = some (.int .i64 a2) := (blk_cell BK476.out 3).trans rfl
       have hfz25_0 := blk_frozen BK476.out 0
       have hfz25_1 := blk_frozen BK476.out 1
       have hfz25_2 := blk_frozen BK476.out 2
       have hfz25_3 := blk_frozen BK476.out 3
       have p481 : 0 ≤ (t470 : Int) := of_decide_eq_true (by (with_reducible assumption))
       have q481 : t470 < (l1.length : Int) := of_decide_eq_true (by (with_reducible assumption))
       obtain ⟨ad481, e481, hx481_0, hx481_1, hx481_2, hx481_3, hx481_4⟩ := at_T30 (Kd.C_foot_now HR1.out (show KeepBut w ((((wc.setCell ⟨gb476, 0, none⟩ (.int .i64 t470)).setCell ⟨gb476, 1, none⟩ (.int .i64 2)).setCell ⟨gb476, 2, none⟩ (.int .i64 0)).setCell ⟨gb476, 3, none⟩ (.int .i64 a2)) g none from by repeat ((with_reducible first | exact HK.out | refine keep_far ?_ GW476.out _)))) t470 p481 q481
       cases e481
       replace p481 := eq_true p481
       replace q481 := eq_true q481
       have hnb26 := NB469_0.out
       have hnc26 := NB0_469.out
       have hcz27_0 : wc.cell? ⟨gb469, 0, none⟩ = some (.int .i64 0) := (blk_cell BK469.out 0).trans rfl
       have hcz27_1 : wc.cell? ⟨gb469, 1, none⟩ = some (.int .i64 0) := (blk_cell BK469.out 1).trans rfl
       have hcz27_2 : wc.cell? ⟨gb469, 2, none⟩ = some (.int .i64 0) := (blk_cell BK469.out 2).trans rfl
       have hcz27_3 : wc.cell? ⟨gb469, 3, none⟩ = some (.int .i64 0) := (blk_cell BK469.out 3).trans rfl
       have hfz27_0 := blk_frozen BK469.out 0
       have hfz27_1 := blk_frozen BK469.out 1
       have hfz27_2 := blk_frozen BK469.out 2
       have hfz27_3 := blk_frozen BK469.out 3
       go_wp2
       refine bodyPost_ret (results_cell_row rfl _ _ gb469 58 #[.int .i64 t470, .int .i64 2, .int .i64 0, .int .i64 a2] (0, 0) _ rfl (by (with_reducible repeat (fail)); refine blk_put (cs := #[.int .i64 t470, .int .i64 2, .int .i64 0, .int .i64 0]) ?_ 3 _ rfl; (with_reducible repeat (fail)); refine blk_put (cs := #[.int .i64 t470, .int .i64 2, .int .i64 0, .int .i64 0]) ?_ 2 _ rfl; (with_reducible repeat (fail)); refine blk_put (cs := #[.int .i64 t470, .int .i64 0, .int .i64 0, .int .i64 0]) ?_ 1 _ rfl; (with_reducible repeat (fail)); refine blk_put (cs := #[.int .i64 0, .int .i64 0, .int .i64 0, .int .i64 0]) ?_ 0 _ rfl; (with_reducible repeat (fail)); refine blk_far ?_ NB469_476.out _; (with_reducible repeat (fail)); refine blk_far ?_ NB469_476.out _; (with_reducible repeat (fail)); refine blk_far ?_ NB469_476.out _; (with_reducible repeat (fail)); refine blk_far ?_ NB469_476.out _; (with_reducible repeat (fail)); exact BK469.out) Try.underlying58 rfl (by kernel_rfl)) rfl ?_
       exact ⟨by rfl, by repeat ((with_reducible first | exact HI0.out | refine IsS93.far ?_ NB0_469.out _ | refine IsS93.far ?_ NB0_476.out _)), by repeat ((with_reducible first | exact HB.out | refine below_set ?_ GE469.out | refine below_set ?_ GE476.out)), by repeat ((with_reducible first | exact HK.out | refine keep_far ?_ GW469.out _ | refine keep_far ?_ GW476.out _))⟩
      ·rw [if_neg c22] at H
       have c22b0 : (((rd_T30 l1 t470).f2) == 9223372036854775807) = false := beq_eq_false_iff_ne.mpr c22
       have c22b1 : (((rd_T30 l1 t470).f2) != 9223372036854775807) = true := bne_iff_ne.mpr c22
       replace H := bind_eq_some_iff.mp H
       obtain ⟨⟨t482, t483, t484⟩, A280, H⟩ := H
       replace H : (if t482 = true then (some (t470, 2, 0, a2, t483, t484)) else ((spec_l1Max.f a2 ((rd_T30 l1 t470).f2)).bind fun t486 => (some (t470, 2, 0, t486, t483, t484)))) = some (r1, r2, r3, r4, r5, r6) := H
       have A28 := Aside0.mk A280
       clear A280
       by_cases c29 : t482 = true
       ·subst c29
        have H1 : (some (t470, 2, 0, a2, t483, t484)) = some (r1, r2, r3, r4, r5, r6) := by rw [if_pos rfl] at H; exact H
        clear H
        have H := H1
        clear H1
        simp only [Option.some.injEq, Prod.mk.injEq] at H
        obtain ⟨rfl, rfl, rfl, rfl, rfl, rfl⟩ := H
        have hnb30 := NB476_469.out
        have hnc30 := NB469_476.out
        have hnb31 := NB476_0.out
        have hnc31 := NB0_476.out
        have hcz32_0 : wc.cell? ⟨gb476, 0, none⟩ = some (.int .i64 t470) := (blk_cell BK476.out 0).trans rfl
        have hcz32_1 : wc.cell? ⟨gb476, 1, none⟩ = some (.int .i64 1) := (blk_cell BK476.out 1).trans rfl
        have hcz32_2 : wc.cell? ⟨gb476, 2, none⟩ = some (.int .i64 t473) := (blk_cell BK476.out 2).trans rfl
        have hcz32_3 : wc.cell? ⟨gb476, 3, none⟩ = some (.int .i64 a2) := (blk_cell BK476.out 3).trans rfl
        have hfz32_0 := blk_frozen BK476.out 0
        have hfz32_1 := blk_frozen BK476.out 1
        have hfz32_2 := blk_frozen BK476.out 2
        have hfz32_3 := blk_frozen BK476.out 3
        have p481 : 0 ≤ (t470 : Int) := of_decide_eq_true (by (with_reducible assumption))
        have q481 : t470 < (l1.length : Int) := of_decide_eq_true (by (with_reducible assumption))
        obtain ⟨ad481, e481, hx481_0, hx481_1, hx481_2, hx481_3, hx481_4⟩ := at_T30 (Kd.C_foot_now HR1.out (show KeepBut w ((((wc.setCell ⟨gb476, 0, none⟩ (.int .i64 t470)).setCell ⟨gb476, 1, none⟩ (.int .i64 2)).setCell ⟨gb476, 2, none⟩ (.int .i64 0)).setCell ⟨gb476, 3, none⟩ (.int .i64 a2)) g none from by repeat ((with_reducible first | exact HK.out | refine keep_far ?_ GW476.out _)))) t470 p481 q481
        cases e481
        replace p481 := eq_true p481
        replace q481 := eq_true q481
        go_wp2_with (go_at_call 85; (with_reducible refine (spec_l1Once.calls g s0_0 x1001_5 x1002_5 4 true t483 t484 w0 _ ?side1 ?side2 A28.out).mono ?_); (case side1 => repeat ((with_reducible first | exact HI0.out | refine IsS93.far ?_ NB0_476.out _))); (case side2 => repeat ((with_reducible first | exact HB.out | refine below_set ?_ GE476.out))); rintro e w33 ⟨rfl, hi, hb, hk⟩; have n0_ := Aside0.mk (KeepBut.blk hk (g' := gb469) (o := .cells #[.int .i64 0, .int .i64 0, .int .i64 0, .int .i64 0] 58 (0, 0)) (by (with_reducible repeat (fail)); refine blk_far ?_ NB469_476.out _; (with_reducible repeat (fail)); refine blk_far ?_ NB469_476.out _; (with_reducible repeat (fail)); refine blk_far ?_ NB469_476.out _; (with_reducible repeat (fail)); refine blk_far ?_ NB469_476.out _; (with_reducible repeat (fail)); exact BK469.out) NB469_0.out (by simp)); have n1_ := Aside0.mk (KeepBut.blk hk (g' := gb476) (o := .cells #[.int .i64 t470, .int .i64 2, .int .i64 0, .int .i64 a2] 58 (0, 0)) (by (with_reducible repeat (fail)); refine blk_put (cs := #[.int .i64 t470, .int .i64 2, .int .i64 0, .int .i64 a2]) ?_ 3 _ rfl; (with_reducible repeat (fail)); refine blk_put (cs := #[.int .i64 t470, .int .i64 2, .int .i64 t473, .int .i64 a2]) ?_ 2 _ rfl; (with_reducible repeat (fail)); refine blk_put (cs := #[.int .i64 t470, .int .i64 1, .int .i64 t473, .int .i64 a2]) ?_ 1 _ rfl; (with_reducible repeat (fail)); refine blk_put (cs := #[.int .i64 t470, .int .i64 1, .int .i64 t473, .int .i64 a2]) ?_ 0 _ rfl; (with_reducible repeat (fail)); exact BK476.out) NB476_0.out (by simp)); have n2_ := Aside0.mk (KeepBut.trans (by repeat ((with_reducible first | exact HK.out | refine keep_far ?_ GW476.out _))) hk (.inl rfl)); have n3_ := Aside0.mk (hb); have n4_ := Aside0.mk (hi); clear BK469; clear BK476; clear HK; clear HB; clear HI0; have BK469 := n0_; have BK476 := n1_; have HK := n2_; have HB := n3_; have HI0 := n4_; clear n0_ n1_ n2_ n3_ n4_; (try clear hb); (try clear hk); (try clear hi); have hcz34_0 : w33.cell? ⟨gb476, 0, none⟩ = some (.int .i64 t470) := (blk_cell BK476.out 0).trans rfl; have hcz34_1 : w33.cell? ⟨gb476, 1, none⟩ = some (.int .i64 2) := (blk_cell BK476.out 1).trans rfl; have hcz34_2 : w33.cell? ⟨gb476, 2, none⟩ = some (.int .i64 0) := (blk_cell BK476.out 2).trans rfl; have hcz34_3 : w33.cell? ⟨gb476, 3, none⟩ = some (.int .i64 a2) := (blk_cell BK476.out 3).trans rfl; have hfz34_0 := blk_frozen BK476.out 0; have hfz34_1 := blk_frozen BK476.out 1; have hfz34_2 := blk_frozen BK476.out 2; have hfz34_3 := blk_frozen BK476.out 3; have hnb35 := NB469_0.out; have hnc35 := NB0_469.out; have hcz36_0 : w33.cell? ⟨gb469, 0, none⟩ = some (.int .i64 0) := (blk_cell BK469.out 0).trans rfl; have hcz36_1 : w33.cell? ⟨gb469, 1, none⟩ = some (.int .i64 0) := (blk_cell BK469.out 1).trans rfl; have hcz36_2 : w33.cell? ⟨gb469, 2, none⟩ = some (.int .i64 0) := (blk_cell BK469.out 2).trans rfl; have hcz36_3 : w33.cell? ⟨gb469, 3, none⟩ = some (.int .i64 0) := (blk_cell BK469.out 3).trans rfl; have hfz36_0 := blk_frozen BK469.out 0; have hfz36_1 := blk_frozen BK469.out 1; have hfz36_2 := blk_frozen BK469.out 2; have hfz36_3 := blk_frozen BK469.out 3)
        refine bodyPost_ret (results_cell_row rfl _ _ gb469 58 #[.int .i64 t470, .int .i64 2, .int .i64 0, .int .i64 a2] (0, 0) _ rfl (by (with_reducible repeat (fail)); refine blk_put (cs := #[.int .i64 t470, .int .i64 2, .int .i64 0, .int .i64 0]) ?_ 3 _ rfl; (with_reducible repeat (fail)); refine blk_put (cs := #[.int .i64 t470, .int .i64 2, .int .i64 0, .int .i64 0]) ?_ 2 _ rfl; (with_reducible repeat (fail)); refine blk_put (cs := #[.int .i64 t470, .int .i64 0, .int .i64 0, .int .i64 0]) ?_ 1 _ rfl; (with_reducible repeat (fail)); refine blk_put (cs := #[.int .i64 0, .int .i64 0, .int .i64 0, .int .i64 0]) ?_ 0 _ rfl; (with_reducible repeat (fail)); exact BK469.out) Try.underlying58 rfl (by kernel_rfl)) rfl ?_
        exact ⟨by rfl, by repeat ((with_reducible first | exact HI0.out | refine IsS93.far ?_ NB0_469.out _)), by repeat ((with_reducible first | exact HB.out | refine below_set ?_ GE469.out)), by repeat ((with_reducible first | exact HK.out | refine keep_far ?_ GW469.out _))⟩
       ·replace c29 := Bool.eq_false_iff.mpr c29
        subst c29
        have H1 : ((spec_l1Max.f a2 ((rd_T30 l1 t470).f2)).bind fun t486 => (some (t470, 2, 0, t486, t483, t484))) = some (r1, r2, r3, r4, r5, r6) := by rw [if_neg (show ¬ (false = true) by decide)] at H; exact H
        clear H
        have H := H1
        clear H1
        replace H := bind_eq_some_iff.mp H
        obtain ⟨t486, A370, H⟩ := H
        replace H : (some (t470, 2, 0, t486, t483, t484)) = some (r1, r2, r3, r4, r5, r6) := H
        have A37 := Aside0.mk A370
        clear A370
        simp only [Option.some.injEq, Prod.mk.injEq] at H
        obtain ⟨rfl, rfl, rfl, rfl, rfl, rfl⟩ := H
        have hnb38 := NB476_469.out
        have hnc38 := NB469_476.out
        have hnb39 := NB476_0.out
        have hnc39 := NB0_476.out
        have hcz40_0 : wc.cell? ⟨gb476, 0, none⟩ = some (.int .i64 t470) := (blk_cell BK476.out 0).trans rfl
        have hcz40_1 : wc.cell? ⟨gb476, 1, none⟩ = some (.int .i64 1) := (blk_cell BK476.out 1).trans rfl
        have hcz40_2 : wc.cell? ⟨gb476, 2, none⟩ = some (.int .i64 t473) := (blk_cell BK476.out 2).trans rfl
        have hcz40_3 : wc.cell? ⟨gb476, 3, none⟩ = some (.int .i64 a2) := (blk_cell BK476.out 3).trans rfl
        have hfz40_0 := blk_frozen BK476.out 0
        have hfz40_1 := blk_frozen BK476.out 1
        have hfz40_2 := blk_frozen BK476.out 2
        have hfz40_3 := blk_frozen BK476.out 3
        have p481 : 0 ≤ (t470 : Int) := of_decide_eq_true (by (with_reducible assumption))
        have q481 : t470 < (l1.length : Int) := of_decide_eq_true (by (with_reducible assumption))
        obtain ⟨ad481, e481, hx481_0, hx481_1, hx481_2, hx481_3, hx481_4⟩ := at_T30 (Kd.C_foot_now HR1.out (show KeepBut w ((((wc.setCell ⟨gb476, 0, none⟩ (.int .i64 t470)).setCell ⟨gb476, 1, none⟩ (.int .i64 2)).setCell ⟨gb476, 2, none⟩ (.int .i64 0)).setCell ⟨gb476, 3, none⟩ (.int .i64 a2)) g none from by repeat ((with_reducible first | exact HK.out | refine keep_far ?_ GW476.out _)))) t470 p481 q481
        cases e481
        replace p481 := eq_true p481
        replace q481 := eq_true q481
        go_wp2_with (first | (go_at_call 85; (with_reducible refine (spec_l1Once.calls g s0_0 x1001_5 x1002_5 4 false t483 t484 w0 _ ?side1 ?side2 A28.out).mono ?_); (case side1 => repeat ((with_reducible first | exact HI0.out | refine IsS93.far ?_ NB0_476.out _))); (case side2 => repeat ((with_reducible first | exact HB.out | refine below_set ?_ GE476.out))); rintro e w41 ⟨rfl, hi, hb, hk⟩; have n0_ := Aside0.mk (KeepBut.blk hk (g' := gb469) (o := .cells #[.int .i64 0, .int .i64 0, .int .i64 0, .int .i64 0] 58 (0, 0)) (by (with_reducible repeat (fail)); refine blk_far ?_ NB469_476.out _; (with_reducible repeat (fail)); refine blk_far ?_ NB469_476.out _; (with_reducible repeat (fail)); refine blk_far ?_ NB469_476.out _; (with_reducible repeat (fail)); refine blk_far ?_ NB469_476.out _; (with_reducible repeat (fail)); exact BK469.out) NB469_0.out (by simp)); have n1_ := Aside0.mk (KeepBut.blk hk (g' := gb476) (o := .cells #[.int .i64 t470, .int .i64 2, .int .i64 0, .int .i64 a2] 58 (0, 0)) (by (with_reducible repeat (fail)); refine blk_put (cs := #[.int .i64 t470, .int .i64 2, .int .i64 0, .int .i64 a2]) ?_ 3 _ rfl; (with_reducible repeat (fail)); refine blk_put (cs := #[.int .i64 t470, .int .i64 2, .int .i64 t473, .int .i64 a2]) ?_ 2 _ rfl; (with_reducible repeat (fail)); refine blk_put (cs := #[.int .i64 t470, .int .i64 1, .int .i64 t473, .int .i64 a2]) ?_ 1 _ rfl; (with_reducible repeat (fail)); refine blk_put (cs := #[.int .i64 t470, .int .i64 1, .int .i64 t473, .int .i64 a2]) ?_ 0 _ rfl; (with_reducible repeat (fail)); exact BK476.out) NB476_0.out (by simp)); have n2_ := Aside0.mk (KeepBut.trans (by repeat ((with_reducible first | exact HK.out | refine keep_far ?_ GW476.out _))) hk (.inl rfl)); have n3_ := Aside0.mk (hb); have n4_ := Aside0.mk (hi); clear BK469; clear BK476; clear HK; clear HB; clear HI0; have BK469 := n0_; have BK476 := n1_; have HK := n2_; have HB := n3_; have HI0 := n4_; clear n0_ n1_ n2_ n3_ n4_; (try clear hb); (try clear hk); (try clear hi); have p485 : 0 ≤ (t470 : Int) := of_decide_eq_true (by (with_reducible assumption)); have q485 : t470 < (l1.length : Int) := of_decide_eq_true (by (with_reducible assumption)); obtain ⟨ad485, e485, hx485_0, hx485_1, hx485_2, hx485_3, hx485_4⟩ := at_T30 (Kd.C_foot_now HR1.out HK.out) t470 p485 q485; obtain rfl : ad481 = ad485 := (by injection e485); replace p485 := eq_true p485; replace q485 := eq_true q485) | ((with_reducible refine gate_callee (f := 96) rfl ?_); refine goesL_ (some 48) rfl rfl Try.func96 (by kernel_rfl) rfl #[.int .i64 a2, .int .i64 ((rd_T30 l1 t470).f2)] rfl (by (try simp only [map_toArray, map_cons, map_nil]); rfl) ?_; (with_reducible refine (spec_l1Max.calls a2 ((rd_T30 l1 t470).f2) t486 _ A37.out).mono ?_); rintro e w' ⟨rfl, ⟨nd, rfl⟩⟩; refine ⟨_, rfl, ?_⟩; (try (rw [drewN_self w41]; generalize hq_ : World.drewN w41 _ = w41; have n0_ : Aside0 (w41.heap[gb469]? = some (.cells #[.int .i64 0, .int .i64 0, .int .i64 0, .int .i64 0] 58 (0, 0))) := ⟨by rw [← hq_]; exact (by (with_reducible repeat (refine blk_drewN ?_ _)); exact BK469.out)⟩; have n1_ : Aside0 (w41.heap[gb476]? = some (.cells #[.int .i64 t470, .int .i64 2, .int .i64 0, .int .i64 a2] 58 (0, 0))) := ⟨by rw [← hq_]; exact (by (with_reducible repeat (refine blk_drewN ?_ _)); exact BK476.out)⟩; have n2_ : Aside0 (IsS93 w0 w41 g s0_0 t483 t484) := ⟨by rw [← hq_]; exact (by repeat ((with_reducible first | exact HI0.out | apply IsS93.drewN)))⟩; have n3_ : Aside0 (KeepBut w w41 g none) := ⟨by rw [← hq_]; exact (by repeat ((with_reducible first | exact HK.out | apply keep_drewN)))⟩; have n4_ : Aside0 (Below w0.heap.size w0 w41) := ⟨by rw [← hq_]; exact (by repeat ((with_reducible first | exact HB.out | apply bwN)))⟩; clear BK469 BK476 HI0 HK HB hq_; have BK469 := n0_; have BK476 := n1_; have HI0 := n2_; have HK := n3_; have HB := n4_; clear n0_ n1_ n2_ n3_ n4_; have hcr469_0 : w41.cell? ⟨gb469, 0, none⟩ = some (.int .i64 0) := (blk_cell BK469.out 0).trans rfl; have hfr469_0 := blk_frozen BK469.out 0; have hcr469_1 : w41.cell? ⟨gb469, 1, none⟩ = some (.int .i64 0) := (blk_cell BK469.out 1).trans rfl; have hfr469_1 := blk_frozen BK469.out 1; have hcr469_2 : w41.cell? ⟨gb469, 2, none⟩ = some (.int .i64 0) := (blk_cell BK469.out 2).trans rfl; have hfr469_2 := blk_frozen BK469.out 2; have hcr469_3 : w41.cell? ⟨gb469, 3, none⟩ = some (.int .i64 0) := (blk_cell BK469.out 3).trans rfl; have hfr469_3 := blk_frozen BK469.out 3; have hcr476_0 : w41.cell? ⟨gb476, 0, none⟩ = some (.int .i64 t470) := (blk_cell BK476.out 0).trans rfl; have hfr476_0 := blk_frozen BK476.out 0; have hcr476_1 : w41.cell? ⟨gb476, 1, none⟩ = some (.int .i64 2) := (blk_cell BK476.out 1).trans rfl; have hfr476_1 := blk_frozen BK476.out 1; have hcr476_2 : w41.cell? ⟨gb476, 2, none⟩ = some (.int .i64 0) := (blk_cell BK476.out 2).trans rfl; have hfr476_2 := blk_frozen BK476.out 2; have hcr476_3 : w41.cell? ⟨gb476, 3, none⟩ = some (.int .i64 a2) := (blk_cell BK476.out 3).trans rfl; have hfr476_3 := blk_frozen BK476.out 3)); have hcz42_0 : w41.cell? ⟨gb476, 0, none⟩ = some (.int .i64 t470) := (blk_cell BK476.out 0).trans rfl; have hcz42_1 : w41.cell? ⟨gb476, 1, none⟩ = some (.int .i64 2) := (blk_cell BK476.out 1).trans rfl; have hcz42_2 : w41.cell? ⟨gb476, 2, none⟩ = some (.int .i64 0) := (blk_cell BK476.out 2).trans rfl; have hcz42_3 : w41.cell? ⟨gb476, 3, none⟩ = some (.int .i64 a2) := (blk_cell BK476.out 3).trans rfl; have hfz42_0 := blk_frozen BK476.out 0; have hfz42_1 := blk_frozen BK476.out 1; have hfz42_2 := blk_frozen BK476.out 2; have hfz42_3 := blk_frozen BK476.out 3; have hnb43 := NB469_0.out; have hnc43 := NB0_469.out; have hcz44_0 : w41.cell? ⟨gb469, 0, none⟩ = some (.int .i64 0) := (blk_cell BK469.out 0).trans rfl; have hcz44_1 : w41.cell? ⟨gb469, 1, none⟩ = some (.int .i64 0) := (blk_cell BK469.out 1).trans rfl; have hcz44_2 : w41.cell? ⟨gb469, 2, none⟩ = some (.int .i64 0) := (blk_cell BK469.out 2).trans rfl; have hcz44_3 : w41.cell? ⟨gb469, 3, none⟩ = some (.int .i64 0) := (blk_cell BK469.out 3).trans rfl; have hfz44_0 := blk_frozen BK469.out 0; have hfz44_1 := blk_frozen BK469.out 1; have hfz44_2 := blk_frozen BK469.out 2; have hfz44_3 := blk_frozen BK469.out 3))
        refine bodyPost_ret (results_cell_row rfl _ _ gb469 58 #[.int .i64 t470, .int .i64 2, .int .i64 0, .int .i64 t486] (0, 0) _ rfl (by (with_reducible repeat (fail)); refine blk_put (cs := #[.int .i64 t470, .int .i64 2, .int .i64 0, .int .i64 0]) ?_ 3 _ rfl; (with_reducible repeat (fail)); refine blk_put (cs := #[.int .i64 t470, .int .i64 2, .int .i64 0, .int .i64 0]) ?_ 2 _ rfl; (with_reducible repeat (fail)); refine blk_put (cs := #[.int .i64 t470, .int .i64 0, .int .i64 0, .int .i64 0]) ?_ 1 _ rfl; (with_reducible repeat (fail)); refine blk_put (cs := #[.int .i64 0, .int .i64 0, .int .i64 0, .int .i64 0]) ?_ 0 _ rfl; (with_reducible repeat (fail)); refine blk_far ?_ NB469_476.out _; (with_reducible repeat (fail)); exact BK469.out) Try.underlying58 rfl (by kernel_rfl)) rfl ?_
        exact ⟨by rfl, by repeat ((with_reducible first | exact HI0.out | refine IsS93.far ?_ NB0_469.out _ | refine IsS93.far ?_ NB0_476.out _)), by repeat ((with_reducible first | exact HB.out | refine below_set ?_ GE469.out | refine below_set ?_ GE476.out)), by repeat ((with_reducible first | exact HK.out | refine keep_far ?_ GW469.out _ | refine keep_far ?_ GW476.out _))⟩
     ·rw [if_neg c21] at H
      exact absurd H (by simp)
    ·rw [if_neg c20] at H
     exact absurd H (by simp)
   ·replace c19 := Bool.eq_false_iff.mpr c19
    subst c19
    have H1 : (some (t470, 1, t473, a2, x1001_5, x1002_5)) = some (r1, r2, r3, r4, r5, r6) := by rw [if_neg (show ¬ (false = true) by decide)] at H; exact H
    clear H
    have H := H1
    clear H1
    simp only [Option.some.injEq, Prod.mk.injEq] at H
    obtain ⟨rfl, rfl, rfl, rfl, rfl, rfl⟩ := H
    have hnb45 := NB476_469.out
    have hnc45 := NB469_476.out
    have hnb46 := NB476_0.out
    have hnc46 := NB0_476.out
    have hcz47_0 : wc.cell? ⟨gb476, 0, none⟩ = some (.int .i64 t470) := (blk_cell BK476.out 0).trans rfl
    have hcz47_1 : wc.cell? ⟨gb476, 1, none⟩ = some (.int .i64 1) := (blk_cell BK476.out 1).trans rfl
    have hcz47_2 : wc.cell? ⟨gb476, 2, none⟩ = some (.int .i64 t473) := (blk_cell BK476.out 2).trans rfl
    have hcz47_3 : wc.cell? ⟨gb476, 3, none⟩ = some (.int .i64 a2) := (blk_cell BK476.out 3).trans rfl
    have hfz47_0 := blk_frozen BK476.out 0
    have hfz47_1 := blk_frozen BK476.out 1
    have hfz47_2 := blk_frozen BK476.out 2
    have hfz47_3 := blk_frozen BK476.out 3
    have hnb48 := NB469_0.out
    have hnc48 := NB0_469.out
    have hcz49_0 : wc.cell? ⟨gb469, 0, none⟩ = some (.int .i64 0) := (blk_cell BK469.out 0).trans rfl
    have hcz49_1 : wc.cell? ⟨gb469, 1, none⟩ = some (.int .i64 0) := (blk_cell BK469.out 1).trans rfl
    have hcz49_2 : wc.cell? ⟨gb469, 2, none⟩ = some (.int .i64 0) := (blk_cell BK469.out 2).trans rfl
    have hcz49_3 : wc.cell? ⟨gb469, 3, none⟩ = some (.int .i64 0) := (blk_cell BK469.out 3).trans rfl
    have hfz49_0 := blk_frozen BK469.out 0
    have hfz49_1 := blk_frozen BK469.out 1
    have hfz49_2 := blk_frozen BK469.out 2
    have hfz49_3 := blk_frozen BK469.out 3
    go_wp2
    refine bodyPost_ret (results_cell_row rfl _ _ gb469 58 #[.int .i64 t470, .int .i64 1, .int .i64 t473, .int .i64 a2] (0, 0) _ rfl (by (with_reducible repeat (fail)); refine blk_put (cs := #[.int .i64 t470, .int .i64 1, .int .i64 t473, .int .i64 0]) ?_ 3 _ rfl; (with_reducible repeat (fail)); refine blk_put (cs := #[.int .i64 t470, .int .i64 1, .int .i64 0, .int .i64 0]) ?_ 2 _ rfl; (with_reducible repeat (fail)); refine blk_put (cs := #[.int .i64 t470, .int .i64 0, .int .i64 0, .int .i64 0]) ?_ 1 _ rfl; (with_reducible repeat (fail)); refine blk_put (cs := #[.int .i64 0, .int .i64 0, .int .i64 0, .int .i64 0]) ?_ 0 _ rfl; (with_reducible repeat (fail)); exact BK469.out) Try.underlying58 rfl (by kernel_rfl)) rfl ?_
    exact ⟨by rfl, by repeat ((with_reducible first | exact HI0.out | refine IsS93.far ?_ NB0_469.out _)), by repeat ((with_reducible first | exact HB.out | refine below_set ?_ GE469.out)), by repeat ((with_reducible first | exact HK.out | refine keep_far ?_ GW469.out _))⟩
def spec_l6DrawList.l0 : Nat → List (S30) → List (S58) → Int → Int → List Int → Int → Int → Option ((List (S58)) × Int × Int)
 | 0, _, _, _, _, _, _, _ => none
 | k + 1, x1, x5, x6, x7, x1000, x1001, x1002 => if x7 > 0 then ((spec_l6DrawEvent.f k x1000 x1001 x1002 x1 x6).bind fun bt496 => ((spec_LetGo.f k x1 x5 bt496.1 bt496.2.1 bt496.2.2.1 bt496.2.2.2.1).bind fun bt503 => (if bt503.2 = true then ((spec_l1Min.f bt496.2.2.2.1 40).bind fun t507 => ((spec_l1Max.f x6 t507).bind fun t508 => ((spec_l1Below.f x1000 bt496.2.2.2.2.1 bt496.2.2.2.2.2 3).bind fun bt509 => (spec_l6DrawList.l0 k x1 bt503.1 (wrap64 (t508 + bt509.1)) (wrap64 (x7 - 1)) x1000 bt509.2.1 bt509.2.2)))) else (spec_l6DrawList.l0 k x1 x5 x6 (wrap64 (x7 - 1)) x1000 bt496.2.2.2.2.1 bt496.2.2.2.2.2)))) else (some (x5, x1001, x1002))
def spec_l6DrawList.f (k : Nat) (s0_0 : List Int) (s0_1 : Int) (s0_2 : Int) (l1 : List (S30)) : Option ((List (S58)) × Int × Int) := (spec_l1Below.f s0_0 s0_1 s0_2 4).bind fun bt490 => ((spec_l1Below.f s0_0 bt490.2.1 bt490.2.2 7).bind fun bt493 => (spec_l6DrawList.l0 k l1 (([] : List (S58))) bt490.1 bt493.1 s0_0 bt493.2.1 bt493.2.2))
set_option maxHeartbeats 8000000 in
set_option maxRecDepth 100000 in
theorem spec_l6DrawList.calls (k : Nat) (g : Nat) (s0_0 : List Int) (s0_1 : Int) (s0_2 : Int) (A1 : Option Addr) (c1 : Nat) (l1 : List (S30)) (r1 : List (S58)) (r2 : Int) (r3 : Int) (w0 w : World) (hI : IsS93 w0 w g s0_0 s0_1 s0_2) (hB : Below w0.heap.size w0 w) (hr1 : ∀ W_, KeepBut w W_ g none → Kd.C k30 W_ A1 l1.length l1) (hc1 : l1.length ≤ c1) (h : spec_l6DrawList.f k s0_0 s0_1 s0_2 l1 = some (r1, r2, r3)) :
  Calls Try.prog 94 #[.pointer (some ⟨g, 0, none⟩), .slice A1 l1.length c1] w fun e w' => ∃ v0_ : Value, e = .returned (v0_) ∧ Kd.R k58 58 w' w.heap.size (fun _ => True) v0_ r1 ∧ IsS93 w0 w' g s0_0 r2 r3 ∧ Below w0.heap.size w0 w' ∧ KeepBut w w' g none := by
 have hu58 := Try.underlying58
 have HR1 := Aside0.mk hr1
 have HC1 := Aside0.mk hc1
 clear hr1 hc1
 have HI0 := Aside0.mk hI
 have HK := Aside0.mk (KeepBut.refl w g none)
 have HL := Aside0.mk hB.size
 clear hI
 have HW0 := Aside0.mk hB.size
 have HB := Aside0.mk hB
 clear hB
 have H : ((spec_l1Below.f s0_0 s0_1 s0_2 4).bind fun bt490 => ((spec_l1Below.f s0_0 bt490.2.1 bt490.2.2 7).bind fun bt493 => (spec_l6DrawList.l0 k l1 (([] : List (S58))) bt490.1 bt493.1 s0_0 bt493.2.1 bt493.2.2))) = some (r1, r2, r3) := h
 clear h
 obtain ⟨y487, hy487⟩ : ∃ y_ : List (S58), y_ = (([] : List (S58))) := ⟨_, rfl⟩
 replace H : ((spec_l1Below.f s0_0 s0_1 s0_2 4).bind fun bt490 => ((spec_l1Below.f s0_0 bt490.2.1 bt490.2.2 7).bind fun bt493 => (spec_l6DrawList.l0 k l1 y487 bt490.1 bt493.1 s0_0 bt493.2.1 bt493.2.2))) = some (r1, r2, r3) := by (rw [hy487]; with_reducible exact H)
 have Ny487 := Aside0.mk hy487
 clear hy487
 replace H := bind_eq_some_iff.mp H
 obtain ⟨⟨t490, t491, t492⟩, A30, H⟩ := H
 replace H : ((spec_l1Below.f s0_0 t491 t492 7).bind fun bt493 => (spec_l6DrawList.l0 k l1 y487 t490 bt493.1 s0_0 bt493.2.1 bt493.2.2)) = some (r1, r2, r3) := H
 have A3 := Aside0.mk A30
 clear A30
 replace H := bind_eq_some_iff.mp H
 obtain ⟨⟨t493, t494, t495⟩, A40, H⟩ := H
 replace H : (spec_l6DrawList.l0 k l1 y487 t490 t493 s0_0 t494 t495) = some (r1, r2, r3) := H
 have A4 := Aside0.mk A40
 clear A40
 have H' := Aside0.mk H
 clear H
 go_enter Try.func94, Try.ntmps94
 go_wp2_with (first | ((with_reducible refine gate_dst (N := 11) rfl ?_); refine Kd.R_lit k58 _ 58 ?hg (N := 11) ?hd (xs := ([] : List (S58))) (inner := []) (ok := fun _ => True) (okp := fun _ => True) ?hr ?hp (fun _ hk => hk) trivial (Below.refl _ _) (Nat.le_refl _) (by simp) ?_; (case hd => rfl); (case hg => rfl); (case hr => (go_simp; done)); (case hp => exact (Reps.none _ _)); intro v488 w5 ho6 hb hg_ hnew_; clear hg_ hnew_; (rw [← Ny487.out] at ho6); have n0_ := Aside0.mk (Kd.R_lower ho6 (keep_size (w := w) (g := g) (row := none) (by repeat ((with_reducible exact HK.out))))); have n1_ := Aside0.mk (IsS93.below (by repeat ((with_reducible exact HI0.out))) hb); have n2_ := Aside0.mk (KeepBut.trans (by repeat ((with_reducible exact HK.out))) (KeepBut.of_below hb g none) (.inl rfl)); have n3_ := Aside0.mk (below_step (by repeat ((with_reducible exact HB.out))) hb); clear HI0; clear HK; clear HB; have HO489 := n0_; have HI0 := n1_; have HK := n2_; have HB := n3_; clear n0_ n1_ n2_ n3_; clear hb ho6) | ((with_reducible refine gate_callee (f := 89) rfl ?_); refine goesL_ (some 13) rfl rfl Try.func89 (by kernel_rfl) rfl #[.pointer (some ⟨g, 0, none⟩), .int .i64 4] rfl (by (try simp only [map_toArray, map_cons, map_nil]); rfl) ?_; (with_reducible refine (spec_l1Below.calls g s0_0 s0_1 s0_2 4 t490 t491 t492 w0 _ ?side1 ?side2 A3.out).mono ?_); (case side1 => repeat ((with_reducible exact HI0.out))); (case side2 => repeat ((with_reducible exact HB.out))); rintro e w7 ⟨rfl, hi, hb, hk⟩; refine ⟨_, rfl, ?_⟩; have n0_ := Aside0.mk (Kd.R_mono (Kd.R_keep (IsS93.apart (show IsS93 w0 _ g s0_0 s0_1 s0_2 from by repeat ((with_reducible exact HI0.out))) (by (with_reducible repeat (fail)); exact HO489.out) (by decide)) hk (fun _ h => h.2)) (fun _ h => h.1)); have n1_ := Aside0.mk (KeepBut.trans (by repeat ((with_reducible exact HK.out))) hk (.inl rfl)); have n2_ := Aside0.mk (hb); have n3_ := Aside0.mk (hi); clear HO489; clear HK; clear HB; clear HI0; have HO489 := n0_; have HK := n1_; have HB := n2_; have HI0 := n3_; clear n0_ n1_ n2_ n3_; (try clear hb); (try clear hk); (try clear hi)) | ((with_reducible refine gate_callee (f := 89) rfl ?_); refine goesL_ (some 15) rfl rfl Try.func89 (by kernel_rfl) rfl #[.pointer (some ⟨g, 0, none⟩), .int .i64 7] rfl (by (try simp only [map_toArray, map_cons, map_nil]); rfl) ?_; (with_reducible refine (spec_l1Below.calls g s0_0 t491 t492 7 t493 t494 t495 w0 _ ?side1 ?side2 A4.out).mono ?_); (case side1 => repeat ((with_reducible exact HI0.out))); (case side2 => repeat ((with_reducible exact HB.out))); rintro e w8 ⟨rfl, hi, hb, hk⟩; refine ⟨_, rfl, ?_⟩; have n0_ := Aside0.mk (Kd.R_mono (Kd.R_keep (IsS93.apart (show IsS93 w0 _ g s0_0 t491 t492 from by repeat ((with_reducible exact HI0.out))) (by (with_reducible repeat (fail)); exact HO489.out) (by decide)) hk (fun _ h => h.2)) (fun _ h => h.1)); have n1_ := Aside0.mk (KeepBut.trans (by repeat ((with_reducible exact HK.out))) hk (.inl rfl)); have n2_ := Aside0.mk (hb); have n3_ := Aside0.mk (hi); clear HO489; clear HK; clear HB; clear HI0; have HO489 := n0_; have HK := n1_; have HB := n2_; have HI0 := n3_; clear n0_ n1_ n2_ n3_; (try clear hb); (try clear hk); (try clear hi)))
 go_loopg [5, 6, 7] k (fun kq v5 v6 v7 w' => ∃ (x5_1 : List (S58)) (x6_1 : Int) (x7_1 : Int) (x1001_1 : Int) (x1002_1 : Int), v6 = .int .i64 x6_1 ∧ v7 = .int .i64 x7_1 ∧ Aside0 (spec_l6DrawList.l0 kq l1 x5_1 x6_1 x7_1 s0_0 x1001_1 x1002_1 = some (r1, r2, r3)) ∧ Aside0 (kq ≤ k) ∧ Aside0 (Kd.R k58 58 w' w.heap.size (fun _ => True) v5 x5_1) ∧ Aside0 (IsS93 w0 w' g s0_0 x1001_1 x1002_1) ∧ Aside0 (KeepBut w w' g none) ∧ Aside0 (Below w0.heap.size w0 w'))
 case atStart => exact ⟨(y487), (t490), (t493), (t494), (t495), (by rfl), (by rfl), H', ⟨Nat.le_refl _⟩, ⟨by (with_reducible repeat (fail)); exact HO489.out⟩, ⟨by repeat ((with_reducible exact HI0.out))⟩, ⟨by repeat ((with_reducible exact HK.out))⟩, ⟨by repeat ((with_reducible exact HB.out))⟩⟩
 case round =>
  clear H'
  try clear c1
  try clear p2
  try clear c8
  obtain ⟨x5_1, x6_1, x7_1, x1001_1, x1002_1, rfl, rfl, HA, HK1, HO_5, HI0, HK, HB⟩ := hrel
  cases gk with
  | zero => exact absurd HA.out (by simp [spec_l6DrawList.l0])
  | succ k1 =>
   have H := HA.out
   clear HA
   simp only [spec_l6DrawList.l0] at H
   by_cases c9 : x7_1 > 0
   ·rw [if_pos c9] at H
    have c9b0 : decide (0 < x7_1) = true := decide_eq_true c9
    clear c9
    replace H := bind_eq_some_iff.mp H
    obtain ⟨⟨t496, t497, t498, t499, t500, t501⟩, A100, H⟩ := H
    replace H : ((spec_LetGo.f k1 l1 x5_1 t496 t497 t498 t499).bind fun bt503 => (if bt503.2 = true then ((spec_l1Min.f t499 40).bind fun t507 => ((spec_l1Max.f x6_1 t507).bind fun t508 => ((spec_l1Below.f s0_0 t500 t501 3).bind fun bt509 => (spec_l6DrawList.l0 k1 l1 bt503.1 (wrap64 (t508 + bt509.1)) (wrap64 (x7_1 - 1)) s0_0 bt509.2.1 bt509.2.2)))) else (spec_l6DrawList.l0 k1 l1 x5_1 x6_1 (wrap64 (x7_1 - 1)) s0_0 t500 t501))) = some (r1, r2, r3) := H
    have A10 := Aside0.mk A100
    clear A100
    replace H := bind_eq_some_iff.mp H
    obtain ⟨⟨t503, t506⟩, A110, H⟩ := H
    replace H : (if t506 = true then ((spec_l1Min.f t499 40).bind fun t507 => ((spec_l1Max.f x6_1 t507).bind fun t508 => ((spec_l1Below.f s0_0 t500 t501 3).bind fun bt509 => (spec_l6DrawList.l0 k1 l1 t503 (wrap64 (t508 + bt509.1)) (wrap64 (x7_1 - 1)) s0_0 bt509.2.1 bt509.2.2)))) else (spec_l6DrawList.l0 k1 l1 x5_1 x6_1 (wrap64 (x7_1 - 1)) s0_0 t500 t501)) = some (r1, r2, r3) := H
    have A11 := Aside0.mk A110
    clear A110
    by_cases c12 : t506 = true
    ·subst c12
     have H1 : ((spec_l1Min.f t499 40).bind fun t507 => ((spec_l1Max.f x6_1 t507).bind fun t508 => ((spec_l1Below.f s0_0 t500 t501 3).bind fun bt509 => (spec_l6DrawList.l0 k1 l1 t503 (wrap64 (t508 + bt509.1)) (wrap64 (x7_1 - 1)) s0_0 bt509.2.1 bt509.2.2)))) = some (r1, r2, r3) := by rw [if_pos rfl] at H; exact H
     clear H
     have H := H1
     clear H1
     replace H := bind_eq_some_iff.mp H
     obtain ⟨t507, A130, H⟩ := H
     replace H : ((spec_l1Max.f x6_1 t507).bind fun t508 => ((spec_l1Below.f s0_0 t500 t501 3).bind fun bt509 => (spec_l6DrawList.l0 k1 l1 t503 (wrap64 (t508 + bt509.1)) (wrap64 (x7_1 - 1)) s0_0 bt509.2.1 bt509.2.2))) = some (r1, r2, r3) := H
     have A13 := Aside0.mk A130
     clear A130
     replace H := bind_eq_some_iff.mp H
     obtain ⟨t508, A140, H⟩ := H
     replace H : ((spec_l1Below.f s0_0 t500 t501 3).bind fun bt509 => (spec_l6DrawList.l0 k1 l1 t503 (wrap64 (t508 + bt509.1)) (wrap64 (x7_1 - 1)) s0_0 bt509.2.1 bt509.2.2)) = some (r1, r2, r3) := H
     have A14 := Aside0.mk A140
     clear A140
     replace H := bind_eq_some_iff.mp H
     obtain ⟨⟨t509, t510, t511⟩, A150, H⟩ := H
     replace H : (spec_l6DrawList.l0 k1 l1 t503 (wrap64 (t508 + t509)) (wrap64 (x7_1 - 1)) s0_0 t510 t511) = some (r1, r2, r3) := H
     have A15 := Aside0.mk A150
     clear A150
     have H' := Aside0.mk H
     clear H
     go_wp2_with (first | ((with_reducible refine gate_callee (f := 84) rfl ?_); refine goesL_ (some 23) rfl rfl Try.func84 (by kernel_rfl) rfl #[.pointer (some ⟨g, 0, none⟩), .slice A1 l1.length c1, .int .i64 x6_1] rfl (by (try simp only [map_toArray, map_cons, map_nil]); rfl) ?_; (with_reducible refine (spec_l6DrawEvent.calls k1 g s0_0 x1001_1 x1002_1 _ _ l1 x6_1 t496 t497 t498 t499 t500 t501 w0 _ ?side1 ?side2 ?side3 ?side4 A10.out).mono ?_); (case side1 => repeat ((with_reducible exact HI0.out))); (case side2 => repeat ((with_reducible exact HB.out))); (case side3 => exact Kd.C_foot_step HR1.out (by repeat ((with_reducible exact HK.out)))); (case side4 => exact HC1.out); rintro e w16 ⟨rfl, hi, hb, hk⟩; refine ⟨_, rfl, ?_⟩; have n0_ := Aside0.mk (Kd.R_mono (Kd.R_keep (IsS93.apart (show IsS93 w0 _ g s0_0 x1001_1 x1002_1 from by repeat ((with_reducible exact HI0.out))) (by (with_reducible repeat (fail)); exact HO_5.out) (by decide)) hk (fun _ h => h.2)) (fun _ h => h.1)); have n1_ := Aside0.mk (KeepBut.trans (by repeat ((with_reducible exact HK.out))) hk (.inl rfl)); have n2_ := Aside0.mk (hb); have n3_ := Aside0.mk (hi); clear HO_5; clear HK; clear HB; clear HI0; have HO_5 := n0_; have HK := n1_; have HB := n2_; have HI0 := n3_; clear n0_ n1_ n2_ n3_; (try clear hb); (try clear hk); (try clear hi)) | ((with_reducible refine gate_dst (N := 8) rfl ?_); refine box_event ?hg (N := 8) ?hd (cs := #[.int .i64 0, .int .i64 0, .int .i64 0, .int .i64 0]) (t := 58) ?hr ?_; (case hd => rfl); (case hg => rfl); (case hr => (go_simp; done)); intro gb502 hg w17 hbox hb; have n0_ := Aside0.mk (R_below (Kd.R_elderB (by (with_reducible repeat (fail)); exact HO_5.out) gb502 (Nat.le_of_eq hg.symm)) hb); have n1_ := Aside0.mk (IsS93.below (by repeat ((with_reducible exact HI0.out))) hb); have n2_ := Aside0.mk (KeepBut.trans (by repeat ((with_reducible exact HK.out))) (KeepBut.of_below hb g none) (.inl rfl)); have n3_ := Aside0.mk (below_step (by repeat ((with_reducible exact HB.out))) hb); have n4_ := Aside0.mk (hbox); have n5_ := Aside0.mk ((by rw [hg]; exact (keep_size (w := w) (g := g) (row := none) (by repeat ((with_reducible exact HK.out)))) : w.heap.size ≤ gb502)); have n6_ := Aside0.mk ((Nat.le_trans HW0.out (by rw [hg]; exact (keep_size (w := w) (g := g) (row := none) (by repeat ((with_reducible exact HK.out)))) : w.heap.size ≤ gb502) : w0.heap.size ≤ gb502)); have n7_ := Aside0.mk ((by rw [hg]; exact Nat.ne_of_lt (IsS93.lt (show IsS93 w0 _ g s0_0 t500 t501 from by repeat ((with_reducible exact HI0.out)))) : g ≠ gb502)); have n8_ := Aside0.mk ((by rw [hg]; exact Nat.ne_of_gt (IsS93.lt (show IsS93 w0 _ g s0_0 t500 t501 from by repeat ((with_reducible exact HI0.out)))) : gb502 ≠ g)); clear HO_5; clear HI0; clear HK; clear HB; have HO_5 := n0_; have HI0 := n1_; have HK := n2_; have HB := n3_; have BK502 := n4_; have GW502 := n5_; have GE502 := n6_; have NB0_502 := n7_; have NB502_0 := n8_; clear n0_ n1_ n2_ n3_ n4_ n5_ n6_ n7_ n8_; clear hb hbox hg; have hnb18 := NB502_0.out; have hnc18 := NB0_502.out; have hcz19_0 : w17.cell? ⟨gb502, 0, none⟩ = some (.int .i64 0) := (blk_cell BK502.out 0).trans rfl; have hcz19_1 : w17.cell? ⟨gb502, 1, none⟩ = some (.int .i64 0) := (blk_cell BK502.out 1).trans rfl; have hcz19_2 : w17.cell? ⟨gb502, 2, none⟩ = some (.int .i64 0) := (blk_cell BK502.out 2).trans rfl; have hcz19_3 : w17.cell? ⟨gb502, 3, none⟩ = some (.int .i64 0) := (blk_cell BK502.out 3).trans rfl; have hfz19_0 := blk_frozen BK502.out 0; have hfz19_1 := blk_frozen BK502.out 1; have hfz19_2 := blk_frozen BK502.out 2; have hfz19_3 := blk_frozen BK502.out 3; obtain ⟨Ao20, co20, eo20⟩ := Kd.R_slice HO_5.out; subst eo20) | ((with_reducible refine gate_callee (f := 51) rfl ?_); refine goesL_ (some 28) rfl rfl Try.func51 (by kernel_rfl) rfl #[.slice A1 l1.length c1, .slice Ao20 x5_1.length co20, .agg #[.int .i64 t496, .int .i64 t497, .int .i64 t498, .int .i64 t499]] rfl (by (try simp only [map_toArray, map_cons, map_nil]); rfl) ?_; (with_reducible refine (spec_LetGo.calls k1 _ _ l1 _ _ x5_1 t496 t497 t498 t499 t503 true _ ?side1 ?side2 ?side3 ?side4 A11.out).mono ?_); (case side1 => exact Kd.C_foot_now HR1.out (by repeat ((with_reducible first | exact HK.out | refine keep_far ?_ GW502.out _)))); (case side2 => exact HC1.out); (case side3 => refine (R_reads' (e := 58) (base := w.heap.size) (ok := fun k_ => (True ∧ k_ ≠ gb502)) (n := x5_1.length) (c := co20) ?_).2.2; exact (by (with_reducible repeat (fail)); exact (Kd.R_mono (Kd.R_far (p := ⟨gb502, 3, none⟩) (Kd.R_far (p := ⟨gb502, 2, none⟩) (Kd.R_far (p := ⟨gb502, 1, none⟩) (Kd.R_far (p := ⟨gb502, 0, none⟩) (Kd.R_mono HO_5.out (fun k_ hk => (⟨hk, hk.2⟩ : _ ∧ k_ ≠ gb502))) (fun _ hk => hk.2) (.int .i64 t496)) (fun _ hk => hk.2) (.int .i64 t497)) (fun _ hk => hk.2) (.int .i64 t498)) (fun _ hk => hk.2) (.int .i64 t499)) (fun _ h_ => h_.1)))); (case side4 => exact (R_reads' HO_5.out).2.1); rintro e w21 ⟨v504, rfl, ho0, hb⟩; refine ⟨_, rfl, ?_⟩; have n0_ := Aside0.mk (Kd.R_elder' (by (with_reducible repeat (fail)); exact (Kd.R_mono (Kd.R_far (p := ⟨gb502, 3, none⟩) (Kd.R_far (p := ⟨gb502, 2, none⟩) (Kd.R_far (p := ⟨gb502, 1, none⟩) (Kd.R_far (p := ⟨gb502, 0, none⟩) (Kd.R_mono HO_5.out (fun k_ hk => (⟨hk, hk.2⟩ : _ ∧ k_ ≠ gb502))) (fun _ hk => hk.2) (.int .i64 t496)) (fun _ hk => hk.2) (.int .i64 t497)) (fun _ hk => hk.2) (.int .i64 t498)) (fun _ hk => hk.2) (.int .i64 t499)) (fun _ h_ => h_.1))) (Kd.R_base ho0) hb); have n1_ := Aside0.mk (Kd.R_lower (Kd.R_newB (Kd.R_new' ho0 (Kd.R_lt (by (with_reducible repeat (fail)); exact (Kd.R_mono (Kd.R_far (p := ⟨gb502, 3, none⟩) (Kd.R_far (p := ⟨gb502, 2, none⟩) (Kd.R_far (p := ⟨gb502, 1, none⟩) (Kd.R_far (p := ⟨gb502, 0, none⟩) (Kd.R_mono HO_5.out (fun k_ hk => (⟨hk, hk.2⟩ : _ ∧ k_ ≠ gb502))) (fun _ hk => hk.2) (.int .i64 t496)) (fun _ hk => hk.2) (.int .i64 t497)) (fun _ hk => hk.2) (.int .i64 t498)) (fun _ hk => hk.2) (.int .i64 t499)) (fun _ h_ => h_.1))))) (g := gb502) (o := .cells #[.int .i64 t496, .int .i64 t497, .int .i64 t498, .int .i64 t499] 58 (0, 0)) (by (with_reducible repeat (fail)); refine blk_put (cs := #[.int .i64 t496, .int .i64 t497, .int .i64 t498, .int .i64 0]) ?_ 3 _ rfl; (with_reducible repeat (fail)); refine blk_put (cs := #[.int .i64 t496, .int .i64 t497, .int .i64 0, .int .i64 0]) ?_ 2 _ rfl; (with_reducible repeat (fail)); refine blk_put (cs := #[.int .i64 t496, .int .i64 0, .int .i64 0, .int .i64 0]) ?_ 1 _ rfl; (with_reducible repeat (fail)); refine blk_put (cs := #[.int .i64 0, .int .i64 0, .int .i64 0, .int .i64 0]) ?_ 0 _ rfl; (with_reducible repeat (fail)); exact BK502.out)) (keep_size (w := w) (g := g) (row := none) (by repeat ((with_reducible first | exact HK.out | refine keep_far ?_ GW502.out _))))); have n2_ := Aside0.mk (IsS93.below (show IsS93 w0 ((((w17.setCell ⟨gb502, 0, none⟩ (.int .i64 t496)).setCell ⟨gb502, 1, none⟩ (.int .i64 t497)).setCell ⟨gb502, 2, none⟩ (.int .i64 t498)).setCell ⟨gb502, 3, none⟩ (.int .i64 t499)) g s0_0 t500 t501 from by repeat ((with_reducible first | exact HI0.out | refine IsS93.far ?_ NB0_502.out _))) hb); have n3_ := Aside0.mk (blk_below (g := gb502) (o := .cells #[.int .i64 t496, .int .i64 t497, .int .i64 t498, .int .i64 t499] 58 (0, 0)) (by (with_reducible repeat (fail)); refine blk_put (cs := #[.int .i64 t496, .int .i64 t497, .int .i64 t498, .int .i64 0]) ?_ 3 _ rfl; (with_reducible repeat (fail)); refine blk_put (cs := #[.int .i64 t496, .int .i64 t497, .int .i64 0, .int .i64 0]) ?_ 2 _ rfl; (with_reducible repeat (fail)); refine blk_put (cs := #[.int .i64 t496, .int .i64 0, .int .i64 0, .int .i64 0]) ?_ 1 _ rfl; (with_reducible repeat (fail)); refine blk_put (cs := #[.int .i64 0, .int .i64 0, .int .i64 0, .int .i64 0]) ?_ 0 _ rfl; (with_reducible repeat (fail)); exact BK502.out) hb); have n4_ := Aside0.mk (KeepBut.trans (by repeat ((with_reducible first | exact HK.out | refine keep_far ?_ GW502.out _))) (KeepBut.of_below hb g none) (.inl rfl)); have n5_ := Aside0.mk (below_step (by repeat ((with_reducible first | exact HB.out | refine below_set ?_ GE502.out))) hb); clear HO_5; clear HI0; clear BK502; clear HK; clear HB; have HO_5 := n0_; have HO505 := n1_; have HI0 := n2_; have BK502 := n3_; have HK := n4_; have HB := n5_; clear n0_ n1_ n2_ n3_ n4_ n5_; (try clear hb); skip; (try clear ho0); have hcz22_0 : w21.cell? ⟨gb502, 0, none⟩ = some (.int .i64 t496) := (blk_cell BK502.out 0).trans rfl; have hcz22_1 : w21.cell? ⟨gb502, 1, none⟩ = some (.int .i64 t497) := (blk_cell BK502.out 1).trans rfl; have hcz22_2 : w21.cell? ⟨gb502, 2, none⟩ = some (.int .i64 t498) := (blk_cell BK502.out 2).trans rfl; have hcz22_3 : w21.cell? ⟨gb502, 3, none⟩ = some (.int .i64 t499) := (blk_cell BK502.out 3).trans rfl; have hfz22_0 := blk_frozen BK502.out 0; have hfz22_1 := blk_frozen BK502.out 1; have hfz22_2 := blk_frozen BK502.out 2; have hfz22_3 := blk_frozen BK502.out 3) | ((with_reducible refine gate_callee (f := 102) rfl ?_); refine goesL_ (some 36) rfl rfl Try.func102 (by kernel_rfl) rfl #[.int .i64 t499, .int .i64 40] rfl (by (try simp only [map_toArray, map_cons, map_nil]); rfl) ?_; (with_reducible refine (spec_l1Min.calls t499 40 t507 _ A13.out).mono ?_); rintro e w' ⟨rfl, ⟨nd, rfl⟩⟩; refine ⟨_, rfl, ?_⟩) | ((with_reducible refine gate_callee (f := 96) rfl ?_); refine goesL_ (some 37) rfl rfl Try.func96 (by kernel_rfl) rfl #[.int .i64 x6_1, .int .i64 t507] rfl (by (try simp only [map_toArray, map_cons, map_nil]); rfl) ?_; (with_reducible refine (spec_l1Max.calls x6_1 t507 t508 _ A14.out).mono ?_); rintro e w' ⟨rfl, ⟨nd, rfl⟩⟩; refine ⟨_, rfl, ?_⟩) | ((with_reducible refine gate_callee (f := 89) rfl ?_); refine goesL_ (some 39) rfl rfl Try.func89 (by kernel_rfl) rfl #[.pointer (some ⟨g, 0, none⟩), .int .i64 3] rfl (by (try simp only [map_toArray, map_cons, map_nil]); rfl) ?_; (with_reducible refine (spec_l1Below.calls g s0_0 t500 t501 3 t509 t510 t511 w0 _ ?side1 ?side2 A15.out).mono ?_); (case side1 => repeat ((with_reducible first | exact HI0.out | apply IsS93.drewN))); (case side2 => repeat ((with_reducible first | exact HB.out | apply bwN))); rintro e w23 ⟨rfl, hi, hb, hk⟩; refine ⟨_, rfl, ?_⟩; have n0_ := Aside0.mk (Kd.R_mono (Kd.R_keep (IsS93.apart (show IsS93 w0 _ g s0_0 t500 t501 from by repeat ((with_reducible first | exact HI0.out | apply IsS93.drewN))) (by (with_reducible repeat (apply R_drewN)); exact HO_5.out) (by decide)) hk (fun _ h => h.2)) (fun _ h => h.1)); have n1_ := Aside0.mk (KeepBut.blk hk (g' := gb502) (o := .cells #[.int .i64 t496, .int .i64 t497, .int .i64 t498, .int .i64 t499] 58 (0, 0)) (by (with_reducible repeat (refine blk_drewN ?_ _)); exact BK502.out) NB502_0.out (by simp)); have n2_ := Aside0.mk (Kd.R_mono (Kd.R_keep (IsS93.apart (show IsS93 w0 _ g s0_0 t500 t501 from by repeat ((with_reducible first | exact HI0.out | apply IsS93.drewN))) (by (with_reducible repeat (apply R_drewN)); exact HO505.out) (by decide)) hk (fun _ h => h.2)) (fun _ h => h.1)); have n3_ := Aside0.mk (KeepBut.trans (by repeat ((with_reducible first | exact HK.out | apply keep_drewN))) hk (.inl rfl)); have n4_ := Aside0.mk (hb); have n5_ := Aside0.mk (hi); clear HO_5; clear BK502; clear HO505; clear HK; clear HB; clear HI0; have HO_5 := n0_; have BK502 := n1_; have HO505 := n2_; have HK := n3_; have HB := n4_; have HI0 := n5_; clear n0_ n1_ n2_ n3_ n4_ n5_; (try clear hb); (try clear hk); (try clear hi)))
     go_roundg k1
     case measure => have := HK1.out; omega
     case rel => exact ⟨(t503), (wrap64 (t508 + t509)), (wrap64 (x7_1 - 1)), (t510), (t511), (by rfl), (by rfl), H', ⟨by have := HK1.out; omega⟩, ⟨by (with_reducible repeat (fail)); exact Kd.R_mono HO505.out (fun _ hk => trivial)⟩, ⟨by repeat ((with_reducible exact HI0.out))⟩, ⟨by repeat ((with_reducible exact HK.out))⟩, ⟨by repeat ((with_reducible exact HB.out))⟩⟩
    ·replace c12 := Bool.eq_false_iff.mpr c12
     subst c12
     have H1 : (spec_l6DrawList.l0 k1 l1 x5_1 x6_1 (wrap64 (x7_1 - 1)) s0_0 t500 t501) = some (r1, r2, r3) := by rw [if_neg (show ¬ (false = true) by decide)] at H; exact H
     clear H
     have H := H1
     clear H1
     have H' := Aside0.mk H
     clear H
     go_wp2_with (first | ((with_reducible refine gate_callee (f := 84) rfl ?_); refine goesL_ (some 23) rfl rfl Try.func84 (by kernel_rfl) rfl #[.pointer (some ⟨g, 0, none⟩), .slice A1 l1.length c1, .int .i64 x6_1] rfl (by (try simp only [map_toArray, map_cons, map_nil]); rfl) ?_; (with_reducible refine (spec_l6DrawEvent.calls k1 g s0_0 x1001_1 x1002_1 _ _ l1 x6_1 t496 t497 t498 t499 t500 t501 w0 _ ?side1 ?side2 ?side3 ?side4 A10.out).mono ?_); (case side1 => repeat ((with_reducible exact HI0.out))); (case side2 => repeat ((with_reducible exact HB.out))); (case side3 => exact Kd.C_foot_step HR1.out (by repeat ((with_reducible exact HK.out)))); (case side4 => exact HC1.out); rintro e w24 ⟨rfl, hi, hb, hk⟩; refine ⟨_, rfl, ?_⟩; have n0_ := Aside0.mk (Kd.R_mono (Kd.R_keep (IsS93.apart (show IsS93 w0 _ g s0_0 x1001_1 x1002_1 from by repeat ((with_reducible exact HI0.out))) (by (with_reducible repeat (fail)); exact HO_5.out) (by decide)) hk (fun _ h => h.2)) (fun _ h => h.1)); have n1_ := Aside0.mk (KeepBut.trans (by repeat ((with_reducible exact HK.out))) hk (.inl rfl)); have n2_ := Aside0.mk (hb); have n3_ := Aside0.mk (hi); clear HO_5; clear HK; clear HB; clear HI0; have HO_5 := n0_; have HK := n1_; have HB := n2_; have HI0 := n3_; clear n0_ n1_ n2_ n3_; (try clear hb); (try clear hk); (try clear hi)) | ((with_reducible refine gate_dst (N := 8) rfl ?_); refine box_event ?hg (N := 8) ?hd (cs := #[.int .i64 0, .int .i64 0, .int .i64 0, .int .i64 0]) (t := 58) ?hr ?_; (case hd => rfl); (case hg => rfl); (case hr => (go_simp; done)); intro gb502 hg w25 hbox hb; have n0_ := Aside0.mk (R_below (Kd.R_elderB (by (with_reducible repeat (fail)); exact HO_5.out) gb502 (Nat.le_of_eq hg.symm)) hb); have n1_ := Aside0.mk (IsS93.below (by repeat ((with_reducible exact HI0.out))) hb); have n2_ := Aside0.mk (KeepBut.trans (by repeat ((with_reducible exact HK.out))) (KeepBut.of_below hb g none) (.inl rfl)); have n3_ := Aside0.mk (below_step (by repeat ((with_reducible exact HB.out))) hb); have n4_ := Aside0.mk (hbox); have n5_ := Aside0.mk ((by rw [hg]; exact (keep_size (w := w) (g := g) (row := none) (by repeat ((with_reducible exact HK.out)))) : w.heap.size ≤ gb502)); have n6_ := Aside0.mk ((Nat.le_trans HW0.out (by rw [hg]; exact (keep_size (w := w) (g := g) (row := none) (by repeat ((with_reducible exact HK.out)))) : w.heap.size ≤ gb502) : w0.heap.size ≤ gb502)); have n7_ := Aside0.mk ((by rw [hg]; exact Nat.ne_of_lt (IsS93.lt (show IsS93 w0 _ g s0_0 t500 t501 from by repeat ((with_reducible exact HI0.out)))) : g ≠ gb502)); have n8_ := Aside0.mk ((by rw [hg]; exact Nat.ne_of_gt (IsS93.lt (show IsS93 w0 _ g s0_0 t500 t501 from by repeat ((with_reducible exact HI0.out)))) : gb502 ≠ g)); clear HO_5; clear HI0; clear HK; clear HB; have HO_5 := n0_; have HI0 := n1_; have HK := n2_; have HB := n3_; have BK502 := n4_; have GW502 := n5_; have GE502 := n6_; have NB0_502 := n7_; have NB502_0 := n8_; clear n0_ n1_ n2_ n3_ n4_ n5_ n6_ n7_ n8_; clear hb hbox hg; have hnb26 := NB502_0.out; have hnc26 := NB0_502.out; have hcz27_0 : w25.cell? ⟨gb502, 0, none⟩ = some (.int .i64 0) := (blk_cell BK502.out 0).trans rfl; have hcz27_1 : w25.cell? ⟨gb502, 1, none⟩ = some (.int .i64 0) := (blk_cell BK502.out 1).trans rfl; have hcz27_2 : w25.cell? ⟨gb502, 2, none⟩ = some (.int .i64 0) := (blk_cell BK502.out 2).trans rfl; have hcz27_3 : w25.cell? ⟨gb502, 3, none⟩ = some (.int .i64 0) := (blk_cell BK502.out 3).trans rfl; have hfz27_0 := blk_frozen BK502.out 0; have hfz27_1 := blk_frozen BK502.out 1; have hfz27_2 := blk_frozen BK502.out 2; have hfz27_3 := blk_frozen BK502.out 3; obtain ⟨Ao28, co28, eo28⟩ := Kd.R_slice HO_5.out; subst eo28) | ((with_reducible refine gate_callee (f := 51) rfl ?_); refine goesL_ (some 28) rfl rfl Try.func51 (by kernel_rfl) rfl #[.slice A1 l1.length c1, .slice Ao28 x5_1.length co28, .agg #[.int .i64 t496, .int .i64 t497, .int .i64 t498, .int .i64 t499]] rfl (by (try simp only [map_toArray, map_cons, map_nil]); rfl) ?_; (with_reducible refine (spec_LetGo.calls k1 _ _ l1 _ _ x5_1 t496 t497 t498 t499 t503 false _ ?side1 ?side2 ?side3 ?side4 A11.out).mono ?_); (case side1 => exact Kd.C_foot_now HR1.out (by repeat ((with_reducible first | exact HK.out | refine keep_far ?_ GW502.out _)))); (case side2 => exact HC1.out); (case side3 => refine (R_reads' (e := 58) (base := w.heap.size) (ok := fun k_ => (True ∧ k_ ≠ gb502)) (n := x5_1.length) (c := co28) ?_).2.2; exact (by (with_reducible repeat (fail)); exact (Kd.R_mono (Kd.R_far (p := ⟨gb502, 3, none⟩) (Kd.R_far (p := ⟨gb502, 2, none⟩) (Kd.R_far (p := ⟨gb502, 1, none⟩) (Kd.R_far (p := ⟨gb502, 0, none⟩) (Kd.R_mono HO_5.out (fun k_ hk => (⟨hk, hk.2⟩ : _ ∧ k_ ≠ gb502))) (fun _ hk => hk.2) (.int .i64 t496)) (fun _ hk => hk.2) (.int .i64 t497)) (fun _ hk => hk.2) (.int .i64 t498)) (fun _ hk => hk.2) (.int .i64 t499)) (fun _ h_ => h_.1)))); (case side4 => exact (R_reads' HO_5.out).2.1); rintro e w29 ⟨v504, rfl, ho0, hb⟩; refine ⟨_, rfl, ?_⟩; have n0_ := Aside0.mk (Kd.R_elder' (by (with_reducible repeat (fail)); exact (Kd.R_mono (Kd.R_far (p := ⟨gb502, 3, none⟩) (Kd.R_far (p := ⟨gb502, 2, none⟩) (Kd.R_far (p := ⟨gb502, 1, none⟩) (Kd.R_far (p := ⟨gb502, 0, none⟩) (Kd.R_mono HO_5.out (fun k_ hk => (⟨hk, hk.2⟩ : _ ∧ k_ ≠ gb502))) (fun _ hk => hk.2) (.int .i64 t496)) (fun _ hk => hk.2) (.int .i64 t497)) (fun _ hk => hk.2) (.int .i64 t498)) (fun _ hk => hk.2) (.int .i64 t499)) (fun _ h_ => h_.1))) (Kd.R_base ho0) hb); have n1_ := Aside0.mk (Kd.R_lower (Kd.R_newB (Kd.R_new' ho0 (Kd.R_lt (by (with_reducible repeat (fail)); exact (Kd.R_mono (Kd.R_far (p := ⟨gb502, 3, none⟩) (Kd.R_far (p := ⟨gb502, 2, none⟩) (Kd.R_far (p := ⟨gb502, 1, none⟩) (Kd.R_far (p := ⟨gb502, 0, none⟩) (Kd.R_mono HO_5.out (fun k_ hk => (⟨hk, hk.2⟩ : _ ∧ k_ ≠ gb502))) (fun _ hk => hk.2) (.int .i64 t496)) (fun _ hk => hk.2) (.int .i64 t497)) (fun _ hk => hk.2) (.int .i64 t498)) (fun _ hk => hk.2) (.int .i64 t499)) (fun _ h_ => h_.1))))) (g := gb502) (o := .cells #[.int .i64 t496, .int .i64 t497, .int .i64 t498, .int .i64 t499] 58 (0, 0)) (by (with_reducible repeat (fail)); refine blk_put (cs := #[.int .i64 t496, .int .i64 t497, .int .i64 t498, .int .i64 0]) ?_ 3 _ rfl; (with_reducible repeat (fail)); refine blk_put (cs := #[.int .i64 t496, .int .i64 t497, .int .i64 0, .int .i64 0]) ?_ 2 _ rfl; (with_reducible repeat (fail)); refine blk_put (cs := #[.int .i64 t496, .int .i64 0, .int .i64 0, .int .i64 0]) ?_ 1 _ rfl; (with_reducible repeat (fail)); refine blk_put (cs := #[.int .i64 0, .int .i64 0, .int .i64 0, .int .i64 0]) ?_ 0 _ rfl; (with_reducible repeat (fail)); exact BK502.out)) (keep_size (w := w) (g := g) (row := none) (by repeat ((with_reducible first | exact HK.out | refine keep_far ?_ GW502.out _))))); have n2_ := Aside0.mk (IsS93.below (show IsS93 w0 ((((w25.setCell ⟨gb502, 0, none⟩ (.int .i64 t496)).setCell ⟨gb502, 1, none⟩ (.int .i64 t497)).setCell ⟨gb502, 2, none⟩ (.int .i64 t498)).setCell ⟨gb502, 3, none⟩ (.int .i64 t499)) g s0_0 t500 t501 from by repeat ((with_reducible first | exact HI0.out | refine IsS93.far ?_ NB0_502.out _))) hb); have n3_ := Aside0.mk (blk_below (g := gb502) (o := .cells #[.int .i64 t496, .int .i64 t497, .int .i64 t498, .int .i64 t499] 58 (0, 0)) (by (with_reducible repeat (fail)); refine blk_put (cs := #[.int .i64 t496, .int .i64 t497, .int .i64 t498, .int .i64 0]) ?_ 3 _ rfl; (with_reducible repeat (fail)); refine blk_put (cs := #[.int .i64 t496, .int .i64 t497, .int .i64 0, .int .i64 0]) ?_ 2 _ rfl; (with_reducible repeat (fail)); refine blk_put (cs := #[.int .i64 t496, .int .i64 0, .int .i64 0, .int .i64 0]) ?_ 1 _ rfl; (with_reducible repeat (fail)); refine blk_put (cs := #[.int .i64 0, .int .i64 0, .int .i64 0, .int .i64 0]) ?_ 0 _ rfl; (with_reducible repeat (fail)); exact BK502.out) hb); have n4_ := Aside0.mk (KeepBut.trans (by repeat ((with_reducible first | exact HK.out | refine keep_far ?_ GW502.out _))) (KeepBut.of_below hb g none) (.inl rfl)); have n5_ := Aside0.mk (below_step (by repeat ((with_reducible first | exact HB.out | refine below_set ?_ GE502.out))) hb); clear HO_5; clear HI0; clear BK502; clear HK; clear HB; have HO_5 := n0_; have HO505 := n1_; have HI0 := n2_; have BK502 := n3_; have HK := n4_; have HB := n5_; clear n0_ n1_ n2_ n3_ n4_ n5_; (try clear hb); skip; (try clear ho0)))
     go_roundg k1
     case measure => have := HK1.out; omega
     case rel => exact ⟨(x5_1), (x6_1), (wrap64 (x7_1 - 1)), (t500), (t501), (by rfl), (by rfl), H', ⟨by have := HK1.out; omega⟩, ⟨by (with_reducible repeat (fail)); exact Kd.R_mono HO_5.out (fun _ hk => trivial)⟩, ⟨by repeat ((with_reducible exact HI0.out))⟩, ⟨by repeat ((with_reducible exact HK.out))⟩, ⟨by repeat ((with_reducible exact HB.out))⟩⟩
   ·rw [if_neg c9] at H
    have c9b0 : decide (0 < x7_1) = false := decide_eq_false c9
    clear c9
    simp only [Option.some.injEq, Prod.mk.injEq] at H
    obtain ⟨rfl, rfl, rfl⟩ := H
    go_wp2
    go_ret
    exact ⟨_, by rfl, by (with_reducible repeat (fail)); exact HO_5.out, by repeat ((with_reducible exact HI0.out)), by repeat ((with_reducible exact HB.out)), by repeat ((with_reducible exact HK.out))⟩
mutual
def spec_l6DrawAny.j0 : Nat → List (S30) → List (S58) → List Int → Int → Int → Option ((List (S30)) × (List (S58)) × Int × Int)
 | 0, _, _, _, _, _ => none
 | k + 1, x4, x5, x1000, x1001, x1002 => (spec_l1Once.f x1000 x1001 x1002 6).bind fun bt526 => (if bt526.1 = true then (spec_l6DrawAny.j1 k x4 x5 (decide ((x5.length : Int) > 0)) x1000 bt526.2.1 bt526.2.2) else (spec_l6DrawAny.j1 k x4 x5 false x1000 bt526.2.1 bt526.2.2))
def spec_l6DrawAny.j1 : Nat → List (S30) → List (S58) → Bool → List Int → Int → Int → Option ((List (S30)) × (List (S58)) × Int × Int)
 | 0, _, _, _, _, _, _ => none
 | k + 1, x4, x5, x21, x1000, x1001, x1002 => if x21 = true then ((spec_l1Below.f x1000 x1001 x1002 (x5.length : Int)).bind fun bt529 => ((spec_l1Below.f x1000 bt529.2.1 bt529.2.2 5).bind fun bt532 => (if bt532.1 = 0 then ((spec_l1From.f x1000 bt532.2.1 bt532.2.2 (-1) (x4.length : Int)).bind fun bt535 => (if 0 ≤ bt529.1 then (if bt529.1 < (x5.length : Int) then (some (x4, (x5.set (bt529.1 : Int).toNat (⟨bt535.1, (rd_T58 x5 bt529.1).f1, (rd_T58 x5 bt529.1).f2, (rd_T58 x5 bt529.1).f3⟩ : S58)), bt535.2.1, bt535.2.2)) else (none)) else (none))) else (if bt532.1 = 1 then ((spec_l1From.f x1000 bt532.2.1 bt532.2.2 (-1) 3).bind fun bt539 => (if 0 ≤ bt529.1 then (if bt529.1 < (x5.length : Int) then (some (x4, (x5.set (bt529.1 : Int).toNat (⟨(rd_T58 x5 bt529.1).f0, bt539.1, (rd_T58 x5 bt529.1).f2, (rd_T58 x5 bt529.1).f3⟩ : S58)), bt539.2.1, bt539.2.2)) else (none)) else (none))) else (if bt532.1 = 2 then ((spec_l1Num.f x1000 bt532.2.1 bt532.2.2 999).bind fun bt543 => (if 0 ≤ bt529.1 then (if bt529.1 < (x5.length : Int) then (some (x4, (x5.set (bt529.1 : Int).toNat (⟨(rd_T58 x5 bt529.1).f0, (rd_T58 x5 bt529.1).f1, bt543.1, (rd_T58 x5 bt529.1).f3⟩ : S58)), bt543.2.1, bt543.2.2)) else (none)) else (none))) else (if bt532.1 = 3 then ((spec_l1Below.f x1000 bt532.2.1 bt532.2.2 9).bind fun bt547 => (if 0 ≤ bt529.1 then (if bt529.1 < (x5.length : Int) then (some (x4, (x5.set (bt529.1 : Int).toNat (⟨(rd_T58 x5 bt529.1).f0, (rd_T58 x5 bt529.1).f1, (rd_T58 x5 bt529.1).f2, bt547.1⟩ : S58)), bt547.2.1, bt547.2.2)) else (none)) else (none))) else (if bt532.1 = 4 then (if 0 ≤ bt529.1 then (if bt529.1 < (x5.length : Int) then (if x5.length < 4398046511104 then (some (x4, (x5 ++ [(⟨(rd_T58 x5 bt529.1).f0, (rd_T58 x5 bt529.1).f1, (rd_T58 x5 bt529.1).f2, (rd_T58 x5 bt529.1).f3⟩ : S58)]), bt532.2.1, bt532.2.2)) else (none)) else (none)) else (none)) else (some (x4, x5, bt532.2.1, bt532.2.2))))))))) else (some (x4, x5, x1001, x1002))
end
def spec_l6DrawAny.f (k : Nat) (s0_0 : List Int) (s0_1 : Int) (s0_2 : Int) : Option ((List (S30)) × (List (S58)) × Int × Int) := (spec_l5DrawAny.f k s0_0 s0_1 s0_2).bind fun bt512 => ((spec_TreeOk.f k bt512.1).bind fun t520 => (if t520 = true then ((spec_l6DrawList.f k s0_0 bt512.2.1 bt512.2.2 bt512.1).bind fun bt521 => (spec_l6DrawAny.j0 k bt512.1 bt521.1 s0_0 bt521.2.1 bt521.2.2)) else (spec_l6DrawAny.j0 k bt512.1 (([] : List (S58))) s0_0 bt512.2.1 bt512.2.2)))
set_option maxHeartbeats 8000000 in
set_option maxRecDepth 100000 in
theorem spec_l6DrawAny.calls (k : Nat) (g : Nat) (s0_0 : List Int) (s0_1 : Int) (s0_2 : Int) (r1 : List (S30)) (r2 : List (S58)) (r3 : Int) (r4 : Int) (w0 w : World) (hI : IsS93 w0 w g s0_0 s0_1 s0_2) (hB : Below w0.heap.size w0 w) (h : spec_l6DrawAny.f k s0_0 s0_1 s0_2 = some (r1, r2, r3, r4)) :
  Calls Try.prog 83 #[.pointer (some ⟨g, 0, none⟩)] w fun e w' => ∃ v0_ v1_ : Value, e = .returned (.tuple #[v0_, v1_]) ∧ Kd.R k30 30 w' w.heap.size (fun _ => True) v0_ r1 ∧ Kd.R k58 58 w' w.heap.size (fun _ => True) v1_ r2 ∧ IsS93 w0 w' g s0_0 r3 r4 ∧ Below w0.heap.size w0 w' ∧ KeepBut w w' g none := by
 have hu58 := Try.underlying58
 have HI0 := Aside0.mk hI
 have HK := Aside0.mk (KeepBut.refl w g none)
 have HL := Aside0.mk hB.size
 clear hI
 have HW0 := Aside0.mk hB.size
 have HB := Aside0.mk hB
 clear hB
 have H : ((spec_l5DrawAny.f k s0_0 s0_1 s0_2).bind fun bt512 => ((spec_TreeOk.f k bt512.1).bind fun t520 => (if t520 = true then ((spec_l6DrawList.f k s0_0 bt512.2.1 bt512.2.2 bt512.1).bind fun bt521 => (spec_l6DrawAny.j0 k bt512.1 bt521.1 s0_0 bt521.2.1 bt521.2.2)) else (spec_l6DrawAny.j0 k bt512.1 (([] : List (S58))) s0_0 bt512.2.1 bt512.2.2)))) = some (r1, r2, r3, r4) := h
 clear h
 replace H := bind_eq_some_iff.mp H
 obtain ⟨⟨t512, t515, t516⟩, A20, H⟩ := H
 replace H : ((spec_TreeOk.f k t512).bind fun t520 => (if t520 = true then ((spec_l6DrawList.f k s0_0 t515 t516 t512).bind fun bt521 => (spec_l6DrawAny.j0 k t512 bt521.1 s0_0 bt521.2.1 bt521.2.2)) else (spec_l6DrawAny.j0 k t512 (([] : List (S58))) s0_0 t515 t516))) = some (r1, r2, r3, r4) := H
 have A2 := Aside0.mk A20
 clear A20
 obtain ⟨y517, hy517⟩ : ∃ y_ : List (S58), y_ = (([] : List (S58))) := ⟨_, rfl⟩
 replace H : ((spec_TreeOk.f k t512).bind fun t520 => (if t520 = true then ((spec_l6DrawList.f k s0_0 t515 t516 t512).bind fun bt521 => (spec_l6DrawAny.j0 k t512 bt521.1 s0_0 bt521.2.1 bt521.2.2)) else (spec_l6DrawAny.j0 k t512 y517 s0_0 t515 t516))) = some (r1, r2, r3, r4) := by (rw [hy517]; with_reducible exact H)
 have Ny517 := Aside0.mk hy517
 clear hy517
 replace H := bind_eq_some_iff.mp H
 obtain ⟨t520, A30, H⟩ := H
 replace H : (if t520 = true then ((spec_l6DrawList.f k s0_0 t515 t516 t512).bind fun bt521 => (spec_l6DrawAny.j0 k t512 bt521.1 s0_0 bt521.2.1 bt521.2.2)) else (spec_l6DrawAny.j0 k t512 y517 s0_0 t515 t516)) = some (r1, r2, r3, r4) := H
 have A3 := Aside0.mk A30
 clear A30
 have HC4 := Aside0.mk H
 clear H
 go_enter Try.func83, Try.ntmps83
 go_upto_if 11 with (first | ((with_reducible refine gate_callee (f := 87) rfl ?_); refine goesL_ (some 8) rfl rfl Try.func87 (by kernel_rfl) rfl #[.pointer (some ⟨g, 0, none⟩)] rfl (by (try simp only [map_toArray, map_cons, map_nil]); rfl) ?_; (with_reducible refine (spec_l5DrawAny.calls k g s0_0 s0_1 s0_2 t512 t515 t516 w0 _ ?side1 ?side2 A2.out).mono ?_); (case side1 => repeat ((with_reducible exact HI0.out))); (case side2 => repeat ((with_reducible exact HB.out))); rintro e w5 ⟨v513, rfl, ho0, hi, hb, hk⟩; refine ⟨_, rfl, ?_⟩; have n0_ := Aside0.mk (Kd.R_lower ho0 (keep_size (w := w) (g := g) (row := none) (by repeat ((with_reducible exact HK.out))))); have n1_ := Aside0.mk (KeepBut.trans (by repeat ((with_reducible exact HK.out))) hk (.inl rfl)); have n2_ := Aside0.mk (hb); have n3_ := Aside0.mk (hi); clear HK; clear HB; clear HI0; have HO514 := n0_; have HK := n1_; have HB := n2_; have HI0 := n3_; clear n0_ n1_ n2_ n3_; (try clear hb); (try clear hk); (try clear hi); (try clear ho0)) | ((with_reducible refine gate_dst (N := 9) rfl ?_); (try (refine gate_guard (by rfl) ?_; dsimp only)); refine Kd.R_lit k58 _ 58 ?hg (N := 9) ?hd (xs := ([] : List (S58))) (inner := []) (ok := fun _ => True) (okp := fun _ => True) ?hr ?hp (fun _ hk => hk) trivial (Below.refl _ _) (Nat.le_refl _) (by simp) ?_; (case hd => rfl); (case hg => rfl); (case hr => (go_simp; done)); (case hp => exact (Reps.none _ _)); intro v518 w6 ho7 hb hg_ hnew_; clear hg_ hnew_; (rw [← Ny517.out] at ho7); have n0_ := Aside0.mk (R_below (by (with_reducible repeat (fail)); exact HO514.out) hb); have n1_ := Aside0.mk (Kd.R_lower ho7 (keep_size (w := w) (g := g) (row := none) (by repeat ((with_reducible exact HK.out))))); have n2_ := Aside0.mk (IsS93.below (by repeat ((with_reducible exact HI0.out))) hb); have n3_ := Aside0.mk (KeepBut.trans (by repeat ((with_reducible exact HK.out))) (KeepBut.of_below hb g none) (.inl rfl)); have n4_ := Aside0.mk (below_step (by repeat ((with_reducible exact HB.out))) hb); clear HO514; clear HI0; clear HK; clear HB; have HO514 := n0_; have HO519 := n1_; have HI0 := n2_; have HK := n3_; have HB := n4_; clear n0_ n1_ n2_ n3_ n4_; clear hb ho7; obtain ⟨Ao8, co8, eo8⟩ := Kd.R_slice HO514.out; subst eo8) | ((with_reducible refine gate_callee (f := 32) rfl ?_); refine goesL_ (some 11) rfl rfl Try.func32 (by kernel_rfl) rfl #[.slice Ao8 t512.length co8] rfl (by (try simp only [map_toArray, map_cons, map_nil]); rfl) ?_; (with_reducible refine (spec_TreeOk.calls k _ _ t512 t520 _ ?side1 ?side2 A3.out).mono ?_); (case side1 => repeat (exact (R_reads' HO514.out).2.2)); (case side2 => exact (R_reads' HO514.out).2.1); rintro e w9 ⟨rfl, hb⟩; refine ⟨_, rfl, ?_⟩; have n0_ := Aside0.mk (R_below (by (with_reducible repeat (fail)); exact HO514.out) hb); have n1_ := Aside0.mk (R_below (by (with_reducible repeat (fail)); exact HO519.out) hb); have n2_ := Aside0.mk (IsS93.below (by repeat ((with_reducible exact HI0.out))) hb); have n3_ := Aside0.mk (KeepBut.trans (by repeat ((with_reducible exact HK.out))) (KeepBut.of_below hb g none) (.inl rfl)); have n4_ := Aside0.mk (below_step (by repeat ((with_reducible exact HB.out))) hb); clear HO514; clear HO519; clear HI0; clear HK; clear HB; have HO514 := n0_; have HO519 := n1_; have HI0 := n2_; have HK := n3_; have HB := n4_; clear n0_ n1_ n2_ n3_ n4_; (try clear hb); skip))
 (try simp only [Act.put, stA, stZ, stS])
 go_cut [5] (fun v5 wc => ∃ (kq : Nat) (x5_3 : List (S58)) (x1001_3 : Int) (x1002_3 : Int), Aside0 (spec_l6DrawAny.j0 kq t512 x5_3 s0_0 x1001_3 x1002_3 = some (r1, r2, r3, r4)) ∧ Aside0 (kq ≤ k) ∧ Aside0 (Kd.R k30 30 wc w.heap.size (fun _ => True) (.slice Ao8 t512.length co8) t512) ∧ Aside0 (Kd.R k58 58 wc w.heap.size (fun _ => True) v5 x5_3) ∧ Aside0 (IsS93 w0 wc g s0_0 x1001_3 x1002_3) ∧ Aside0 (KeepBut w wc g none) ∧ Aside0 (Below w0.heap.size w0 wc))
 case first =>
  have H := HC4.out
  clear HC4
  by_cases c10 : t520 = true
  ·subst c10
   have H1 : ((spec_l6DrawList.f k s0_0 t515 t516 t512).bind fun bt521 => (spec_l6DrawAny.j0 k t512 bt521.1 s0_0 bt521.2.1 bt521.2.2)) = some (r1, r2, r3, r4) := by rw [if_pos rfl] at H; exact H
   clear H
   have H := H1
   clear H1
   replace H := bind_eq_some_iff.mp H
   obtain ⟨⟨t521, t524, t525⟩, A110, H⟩ := H
   replace H : (spec_l6DrawAny.j0 k t512 t521 s0_0 t524 t525) = some (r1, r2, r3, r4) := H
   have A11 := Aside0.mk A110
   clear A110
   have H' := Aside0.mk H
   clear H
   go_wp2_with ((with_reducible refine gate_callee (f := 94) rfl ?_); refine goesL_ (some 14) rfl rfl Try.func94 (by kernel_rfl) rfl #[.pointer (some ⟨g, 0, none⟩), .slice Ao8 t512.length co8] rfl (by (try simp only [map_toArray, map_cons, map_nil]); rfl) ?_; (with_reducible refine (spec_l6DrawList.calls k g s0_0 t515 t516 _ _ t512 t521 t524 t525 w0 _ ?side1 ?side2 ?side3 ?side4 A11.out).mono ?_); (case side1 => repeat ((with_reducible exact HI0.out))); (case side2 => repeat ((with_reducible exact HB.out))); (case side3 => exact Kd.C_foot_own (IsS93.apart (show IsS93 w0 _ g s0_0 t515 t516 from by repeat ((with_reducible exact HI0.out))) (by (with_reducible repeat (fail)); exact HO514.out) (by decide)) (fun _ h_ => h_.2)); (case side4 => exact (R_reads' HO514.out).2.1); rintro e w12 ⟨v522, rfl, ho0, hi, hb, hk⟩; refine ⟨_, rfl, ?_⟩; have n0_ := Aside0.mk (Kd.R_mono (Kd.R_keep (IsS93.apart (show IsS93 w0 _ g s0_0 t515 t516 from by repeat ((with_reducible exact HI0.out))) (by (with_reducible repeat (fail)); exact HO514.out) (by decide)) hk (fun _ h => h.2)) (fun _ h => h.1)); have n1_ := Aside0.mk (Kd.R_mono (Kd.R_told (Kd.R_oldK (IsS93.apart (show IsS93 w0 _ g s0_0 t515 t516 from by repeat ((with_reducible exact HI0.out))) (by (with_reducible repeat (fail)); exact HO519.out) (by decide)) hk) (Kd.R_base ho0)) (fun _ h_ => h_.1)); have n2_ := Aside0.mk (Kd.R_lower (Kd.R_new' ho0 (Kd.R_lt (by (with_reducible repeat (fail)); exact HO519.out))) (keep_size (w := w) (g := g) (row := none) (by repeat ((with_reducible exact HK.out))))); have n3_ := Aside0.mk (KeepBut.trans (by repeat ((with_reducible exact HK.out))) hk (.inl rfl)); have n4_ := Aside0.mk (hb); have n5_ := Aside0.mk (hi); clear HO514; clear HO519; clear HK; clear HB; clear HI0; have HO514 := n0_; have HO519 := n1_; have HO523 := n2_; have HK := n3_; have HB := n4_; have HI0 := n5_; clear n0_ n1_ n2_ n3_ n4_ n5_; (try clear hb); (try clear hk); (try clear hi); (try clear ho0))
   go_meet
   case rel => exact ⟨_, (t521), (t524), (t525), H', ⟨by omega⟩, ⟨by (with_reducible repeat (fail)); exact HO514.out⟩, ⟨by (with_reducible repeat (fail)); exact Kd.R_mono HO523.out (fun _ hk => trivial)⟩, ⟨by repeat ((with_reducible exact HI0.out))⟩, ⟨by repeat ((with_reducible exact HK.out))⟩, ⟨by repeat ((with_reducible exact HB.out))⟩⟩
  ·replace c10 := Bool.eq_false_iff.mpr c10
   subst c10
   have H1 : (spec_l6DrawAny.j0 k t512 y517 s0_0 t515 t516) = some (r1, r2, r3, r4) := by rw [if_neg (show ¬ (false = true) by decide)] at H; exact H
   clear H
   have H := H1
   clear H1
   have H' := Aside0.mk H
   clear H
   go_wp2
   go_meet
   case rel => exact ⟨_, (y517), (t515), (t516), H', ⟨by omega⟩, ⟨by (with_reducible repeat (fail)); exact HO514.out⟩, ⟨by (with_reducible repeat (fail)); exact HO519.out⟩, ⟨by repeat ((with_reducible exact HI0.out))⟩, ⟨by repeat ((with_reducible exact HK.out))⟩, ⟨by repeat ((with_reducible exact HB.out))⟩⟩
 case rest =>
  clear HC4
  try clear c1
  try clear p2
  try clear c3
  try clear c8
  try clear c9
  try clear c10
  obtain ⟨kq, x5_3, x1001_3, x1002_3, HA, HJ3, HO_4, HO_5, HI0, HK, HB⟩ := hcut
  cases kq with
  | zero => exact absurd HA.out (by simp [spec_l6DrawAny.j0])
  | succ kj3 =>
   have H := HA.out
   clear HA
   simp only [spec_l6DrawAny.j0] at H
   have HC13 := Aside0.mk H
   clear H
   go_upto_region 5 with (fail)
   go_cut [21] (fun v21 wc => ∃ (kq : Nat) (x21_12 : Bool) (x1001_12 : Int) (x1002_12 : Int), v21 = .bool x21_12 ∧ Aside0 (spec_l6DrawAny.j1 kq t512 x5_3 x21_12 s0_0 x1001_12 x1002_12 = some (r1, r2, r3, r4)) ∧ Aside0 (kq ≤ kj3) ∧ Aside0 (Kd.R k30 30 wc w.heap.size (fun _ => True) (.slice Ao8 t512.length co8) t512) ∧ Aside0 (Kd.R k58 58 wc w.heap.size (fun _ => True) u5 x5_3) ∧ Aside0 (IsS93 w0 wc g s0_0 x1001_12 x1002_12) ∧ Aside0 (KeepBut w wc g none) ∧ Aside0 (Below w0.heap.size w0 wc))
   case first =>
    have H := HC13.out
    clear HC13
    replace H := bind_eq_some_iff.mp H
    obtain ⟨⟨t526, t527, t528⟩, A140, H⟩ := H
    replace H : (if t526 = true then (spec_l6DrawAny.j1 kj3 t512 x5_3 (decide ((x5_3.length : Int) > 0)) s0_0 t527 t528) else (spec_l6DrawAny.j1 kj3 t512 x5_3 false s0_0 t527 t528)) = some (r1, r2, r3, r4) := H
    have A14 := Aside0.mk A140
    clear A140
    by_cases c15 : t526 = true
    ·subst c15
     have H1 : (spec_l6DrawAny.j1 kj3 t512 x5_3 (decide ((x5_3.length : Int) > 0)) s0_0 t527 t528) = some (r1, r2, r3, r4) := by rw [if_pos rfl] at H; exact H
     clear H
     have H := H1
     clear H1
     have H' := Aside0.mk H
     clear H
     go_wp2_with ((with_reducible refine gate_callee (f := 85) rfl ?_); refine goesL_ (some 16) rfl rfl Try.func85 (by kernel_rfl) rfl #[.pointer (some ⟨g, 0, none⟩), .int .i64 6] rfl (by (try simp only [map_toArray, map_cons, map_nil]); rfl) ?_; (with_reducible refine (spec_l1Once.calls g s0_0 x1001_3 x1002_3 6 true t527 t528 w0 _ ?side1 ?side2 A14.out).mono ?_); (case side1 => repeat ((with_reducible exact HI0.out))); (case side2 => repeat ((with_reducible exact HB.out))); rintro e w16 ⟨rfl, hi, hb, hk⟩; refine ⟨_, rfl, ?_⟩; have n0_ := Aside0.mk (Kd.R_mono (Kd.R_keep (IsS93.apart (show IsS93 w0 _ g s0_0 x1001_3 x1002_3 from by repeat ((with_reducible exact HI0.out))) (by (with_reducible repeat (fail)); exact HO_4.out) (by decide)) hk (fun _ h => h.2)) (fun _ h => h.1)); have n1_ := Aside0.mk (Kd.R_mono (Kd.R_keep (IsS93.apart (show IsS93 w0 _ g s0_0 x1001_3 x1002_3 from by repeat ((with_reducible exact HI0.out))) (by (with_reducible repeat (fail)); exact HO_5.out) (by decide)) hk (fun _ h => h.2)) (fun _ h => h.1)); have n2_ := Aside0.mk (KeepBut.trans (by repeat ((with_reducible exact HK.out))) hk (.inl rfl)); have n3_ := Aside0.mk (hb); have n4_ := Aside0.mk (hi); clear HO_4; clear HO_5; clear HK; clear HB; clear HI0; have HO_4 := n0_; have HO_5 := n1_; have HK := n2_; have HB := n3_; have HI0 := n4_; clear n0_ n1_ n2_ n3_ n4_; (try clear hb); (try clear hk); (try clear hi); obtain ⟨Ao17, co17, eo17⟩ := Kd.R_slice HO_5.out; subst eo17)
     go_meet
     case rel => exact ⟨_, (decide ((x5_3.length : Int) > 0)), (t527), (t528), (by (simp; done)), H', ⟨by have := HJ3.out; omega⟩, ⟨by (with_reducible repeat (fail)); exact HO_4.out⟩, ⟨by (with_reducible repeat (fail)); exact HO_5.out⟩, ⟨by repeat ((with_reducible exact HI0.out))⟩, ⟨by repeat ((with_reducible exact HK.out))⟩, ⟨by repeat ((with_reducible exact HB.out))⟩⟩
    ·replace c15 := Bool.eq_false_iff.mpr c15
     subst c15
     have H1 : (spec_l6DrawAny.j1 kj3 t512 x5_3 false s0_0 t527 t528) = some (r1, r2, r3, r4) := by rw [if_neg (show ¬ (false = true) by decide)] at H; exact H
     clear H
     have H := H1
     clear H1
     have H' := Aside0.mk H
     clear H
     go_wp2_with ((with_reducible refine gate_callee (f := 85) rfl ?_); refine goesL_ (some 16) rfl rfl Try.func85 (by kernel_rfl) rfl #[.pointer (some ⟨g, 0, none⟩), .int .i64 6] rfl (by (try simp only [map_toArray, map_cons, map_nil]); rfl) ?_; (with_reducible refine (spec_l1Once.calls g s0_0 x1001_3 x1002_3 6 false t527 t528 w0 _ ?side1 ?side2 A14.out).mono ?_); (case side1 => repeat ((with_reducible exact HI0.out))); (case side2 => repeat ((with_reducible exact HB.out))); rintro e w18 ⟨rfl, hi, hb, hk⟩; refine ⟨_, rfl, ?_⟩; have n0_ := Aside0.mk (Kd.R_mono (Kd.R_keep (IsS93.apart (show IsS93 w0 _ g s0_0 x1001_3 x1002_3 from by repeat ((with_reducible exact HI0.out))) (by (with_reducible repeat (fail)); exact HO_4.out) (by decide)) hk (fun _ h => h.2)) (fun _ h => h.1)); have n1_ := Aside0.mk (Kd.R_mono (Kd.R_keep (IsS93.apart (show IsS93 w0 _ g s0_0 x1001_3 x1002_3 from by repeat ((with_reducible exact HI0.out))) (by (with_reducible repeat (fail)); exact HO_5.out) (by decide)) hk (fun _ h => h.2)) (fun _ h => h.1)); have n2_ := Aside0.mk (KeepBut.trans (by repeat ((with_reducible exact HK.out))) hk (.inl rfl)); have n3_ := Aside0.mk (hb); have n4_ := Aside0.mk (hi); clear HO_4; clear HO_5; clear HK; clear HB; clear HI0; have HO_4 := n0_; have HO_5 := n1_; have HK := n2_; have HB := n3_; have HI0 := n4_; clear n0_ n1_ n2_ n3_ n4_; (try clear hb); (try clear hk); (try clear hi))
     go_meet
     case rel => exact ⟨_, (false), (t527), (t528), (by rfl), H', ⟨by have := HJ3.out; omega⟩, ⟨by (with_reducible repeat (fail)); exact HO_4.out⟩, ⟨by (with_reducible repeat (fail)); exact HO_5.out⟩, ⟨by repeat ((with_reducible exact HI0.out))⟩, ⟨by repeat ((with_reducible exact HK.out))⟩, ⟨by repeat ((with_reducible exact HB.out))⟩⟩
   case rest =>
    clear HC13
    try clear c1
    try clear p2
    try clear c3
    try clear c8
    try clear c9
    try clear c10
    try clear c15
    try clear p2
    obtain ⟨kq, x21_12, x1001_12, x1002_12, rfl, HA, HJ12, HO_4, HO_5, HI0, HK, HB⟩ := hcut
    cases kq with
    | zero => exact absurd HA.out (by simp [spec_l6DrawAny.j1])
    | succ kj12 =>
     have H := HA.out
     clear HA
     simp only [spec_l6DrawAny.j1] at H
     by_cases c19 : x21_12 = true
     ·subst c19
      have H1 : ((spec_l1Below.f s0_0 x1001_12 x1002_12 (x5_3.length : Int)).bind fun bt529 => ((spec_l1Below.f s0_0 bt529.2.1 bt529.2.2 5).bind fun bt532 => (if bt532.1 = 0 then ((spec_l1From.f s0_0 bt532.2.1 bt532.2.2 (-1) (t512.length : Int)).bind fun bt535 => (if 0 ≤ bt529.1 then (if bt529.1 < (x5_3.length : Int) then (some (t512, (x5_3.set (bt529.1 : Int).toNat (⟨bt535.1, (rd_T58 x5_3 bt529.1).f1, (rd_T58 x5_3 bt529.1).f2, (rd_T58 x5_3 bt529.1).f3⟩ : S58)), bt535.2.1, bt535.2.2)) else (none)) else (none))) else (if bt532.1 = 1 then ((spec_l1From.f s0_0 bt532.2.1 bt532.2.2 (-1) 3).bind fun bt539 => (if 0 ≤ bt529.1 then (if bt529.1 < (x5_3.length : Int) then (some (t512, (x5_3.set (bt529.1 : Int).toNat (⟨(rd_T58 x5_3 bt529.1).f0, bt539.1, (rd_T58 x5_3 bt529.1).f2, (rd_T58 x5_3 bt529.1).f3⟩ : S58)), bt539.2.1, bt539.2.2)) else (none)) else (none))) else (if bt532.1 = 2 then ((spec_l1Num.f s0_0 bt532.2.1 bt532.2.2 999).bind fun bt543 => (if 0 ≤ bt529.1 then (if bt529.1 < (x5_3.length : Int) then (some (t512, (x5_3.set (bt529.1 : Int).toNat (⟨(rd_T58 x5_3 bt529.1).f0, (rd_T58 x5_3 bt529.1).f1, bt543.1, (rd_T58 x5_3 bt529.1).f3⟩ : S58)), bt543.2.1, bt543.2.2)) else (none)) else (none))) else (if bt532.1 = 3 then ((spec_l1Below.f s0_0 bt532.2.1 bt532.2.2 9).bind fun bt547 => (if 0 ≤ bt529.1 then (if bt529.1 < (x5_3.length : Int) then (some (t512, (x5_3.set (bt529.1 : Int).toNat (⟨(rd_T58 x5_3 bt529.1).f0, (rd_T58 x5_3 bt529.1).f1, (rd_T58 x5_3 bt529.1).f2, bt547.1⟩ : S58)), bt547.2.1, bt547.2.2)) else (none)) else (none))) else (if bt532.1 = 4 then (if 0 ≤ bt529.1 then (if bt529.1 < (x5_3.length : Int) then (if x5_3.length < 4398046511104 then (some (t512, (x5_3 ++ [(⟨(rd_T58 x5_3 bt529.1).f0, (rd_T58 x5_3 bt529.1).f1, (rd_T58 x5_3 bt529.1).f2, (rd_T58 x5_3 bt529.1).f3⟩ : S58)]), bt532.2.1, bt532.2.2)) else (none)) else (none)) else (none)) else (some (t512, x5_3, bt532.2.1, bt532.2.2))))))))) = some (r1, r2, r3, r4) := by rw [if_pos rfl] at H; exact H
      clear H
      have H := H1
      clear H1
      replace H := bind_eq_some_iff.mp H
      obtain ⟨⟨t529, t530, t531⟩, A200, H⟩ := H
      replace H : ((spec_l1Below.f s0_0 t530 t531 5).bind fun bt532 => (if bt532.1 = 0 then ((spec_l1From.f s0_0 bt532.2.1 bt532.2.2 (-1) (t512.length : Int)).bind fun bt535 => (if 0 ≤ t529 then (if t529 < (x5_3.length : Int) then (some (t512, (x5_3.set (t529 : Int).toNat (⟨bt535.1, (rd_T58 x5_3 t529).f1, (rd_T58 x5_3 t529).f2, (rd_T58 x5_3 t529).f3⟩ : S58)), bt535.2.1, bt535.2.2)) else (none)) else (none))) else (if bt532.1 = 1 then ((spec_l1From.f s0_0 bt532.2.1 bt532.2.2 (-1) 3).bind fun bt539 => (if 0 ≤ t529 then (if t529 < (x5_3.length : Int) then (some (t512, (x5_3.set (t529 : Int).toNat (⟨(rd_T58 x5_3 t529).f0, bt539.1, (rd_T58 x5_3 t529).f2, (rd_T58 x5_3 t529).f3⟩ : S58)), bt539.2.1, bt539.2.2)) else (none)) else (none))) else (if bt532.1 = 2 then ((spec_l1Num.f s0_0 bt532.2.1 bt532.2.2 999).bind fun bt543 => (if 0 ≤ t529 then (if t529 < (x5_3.length : Int) then (some (t512, (x5_3.set (t529 : Int).toNat (⟨(rd_T58 x5_3 t529).f0, (rd_T58 x5_3 t529).f1, bt543.1, (rd_T58 x5_3 t529).f3⟩ : S58)), bt543.2.1, bt543.2.2)) else (none)) else (none))) else (if bt532.1 = 3 then ((spec_l1Below.f s0_0 bt532.2.1 bt532.2.2 9).bind fun bt547 => (if 0 ≤ t529 then (if t529 < (x5_3.length : Int) then (some (t512, (x5_3.set (t529 : Int).toNat (⟨(rd_T58 x5_3 t529).f0, (rd_T58 x5_3 t529).f1, (rd_T58 x5_3 t529).f2, bt547.1⟩ : S58)), bt547.2.1, bt547.2.2)) else (none)) else (none))) else (if bt532.1 = 4 then (if 0 ≤ t529 then (if t529 < (x5_3.length : Int) then (if x5_3.length < 4398046511104 then (some (t512, (x5_3 ++ [(⟨(rd_T58 x5_3 t529).f0, (rd_T58 x5_3 t529).f1, (rd_T58 x5_3 t529).f2, (rd_T58 x5_3 t529).f3⟩ : S58)]), bt532.2.1, bt532.2.2)) else (none)) else (none)) else (none)) else (some (t512, x5_3, bt532.2.1, bt532.2.2)))))))) = some (r1, r2, r3, r4) := H
      have A20 := Aside0.mk A200
      clear A200
      replace H := bind_eq_some_iff.mp H
      obtain ⟨⟨t532, t533, t534⟩, A210, H⟩ := H
      replace H : (if t532 = 0 then ((spec_l1From.f s0_0 t533 t534 (-1) (t512.length : Int)).bind fun bt535 => (if 0 ≤ t529 then (if t529 < (x5_3.length : Int) then (some (t512, (x5_3.set (t529 : Int).toNat (⟨bt535.1, (rd_T58 x5_3 t529).f1, (rd_T58 x5_3 t529).f2, (rd_T58 x5_3 t529).f3⟩ : S58)), bt535.2.1, bt535.2.2)) else (none)) else (none))) else (if t532 = 1 then ((spec_l1From.f s0_0 t533 t534 (-1) 3).bind fun bt539 => (if 0 ≤ t529 then (if t529 < (x5_3.length : Int) then (some (t512, (x5_3.set (t529 : Int).toNat (⟨(rd_T58 x5_3 t529).f0, bt539.1, (rd_T58 x5_3 t529).f2, (rd_T58 x5_3 t529).f3⟩ : S58)), bt539.2.1, bt539.2.2)) else (none)) else (none))) else (if t532 = 2 then ((spec_l1Num.f s0_0 t533 t534 999).bind fun bt543 => (if 0 ≤ t529 then (if t529 < (x5_3.length : Int) then (some (t512, (x5_3.set (t529 : Int).toNat (⟨(rd_T58 x5_3 t529).f0, (rd_T58 x5_3 t529).f1, bt543.1, (rd_T58 x5_3 t529).f3⟩ : S58)), bt543.2.1, bt543.2.2)) else (none)) else (none))) else (if t532 = 3 then ((spec_l1Below.f s0_0 t533 t534 9).bind fun bt547 => (if 0 ≤ t529 then (if t529 < (x5_3.length : Int) then (some (t512, (x5_3.set (t529 : Int).toNat (⟨(rd_T58 x5_3 t529).f0, (rd_T58 x5_3 t529).f1, (rd_T58 x5_3 t529).f2, bt547.1⟩ : S58)), bt547.2.1, bt547.2.2)) else (none)) else (none))) else (if t532 = 4 then (if 0 ≤ t529 then (if t529 < (x5_3.length : Int) then (if x5_3.length < 4398046511104 then (some (t512, (x5_3 ++ [(⟨(rd_T58 x5_3 t529).f0, (rd_T58 x5_3 t529).f1, (rd_T58 x5_3 t529).f2, (rd_T58 x5_3 t529).f3⟩ : S58)]), t533, t534)) else (none)) else (none)) else (none)) else (some (t512, x5_3, t533, t534))))))) = some (r1, r2, r3, r4) := H
      have A21 := Aside0.mk A210
      clear A210
      by_cases c22 : t532 = 0
      ·rw [if_pos c22] at H
       have c22b0 : (t532 == 0) = true := beq_iff_eq.mpr c22
       have c22b1 : (t532 != 0) = false := bne_eq_false_iff_eq.mpr c22
       clear c22
       replace H := bind_eq_some_iff.mp H
       obtain ⟨⟨t535, t536, t537⟩, A230, H⟩ := H
       replace H : (if 0 ≤ t529 then (if t529 < (x5_3.length : Int) then (some (t512, (x5_3.set (t529 : Int).toNat (⟨t535, (rd_T58 x5_3 t529).f1, (rd_T58 x5_3 t529).f2, (rd_T58 x5_3 t529).f3⟩ : S58)), t536, t537)) else (none)) else (none)) = some (r1, r2, r3, r4) := H
       have A23 := Aside0.mk A230
       clear A230
       by_cases c24 : 0 ≤ t529
       ·rw [if_pos c24] at H
        have c24b0 : decide (0 ≤ t529) = true := decide_eq_true c24
        clear c24
        by_cases c25 : t529 < (x5_3.length : Int)
        ·rw [if_pos c25] at H
         have c25b0 : decide (t529 < (x5_3.length : Int)) = true := decide_eq_true c25
         clear c25
         obtain ⟨y538, hy538⟩ : ∃ y_ : List (S58), y_ = (x5_3.set (t529 : Int).toNat (⟨t535, (rd_T58 x5_3 t529).f1, (rd_T58 x5_3 t529).f2, (rd_T58 x5_3 t529).f3⟩ : S58)) := ⟨_, rfl⟩
         replace H : (some (t512, y538, t536, t537)) = some (r1, r2, r3, r4) := by (rw [hy538]; with_reducible exact H)
         have Ny538 := Aside0.mk hy538
         clear hy538
         simp only [Option.some.injEq, Prod.mk.injEq] at H
         obtain ⟨rfl, rfl, rfl, rfl⟩ := H
         obtain ⟨Ao27, co27, eo27⟩ := Kd.R_slice HO_5.out
         subst eo27
         go_wp2_with (first | ((with_reducible refine gate_callee (f := 89) rfl ?_); refine goesL_ (some 25) rfl rfl Try.func89 (by kernel_rfl) rfl #[.pointer (some ⟨g, 0, none⟩), .int .i64 (x5_3.length : Int)] rfl (by (try simp only [map_toArray, map_cons, map_nil]); rfl) ?_; (with_reducible refine (spec_l1Below.calls g s0_0 x1001_12 x1002_12 (x5_3.length : Int) t529 t530 t531 w0 _ ?side1 ?side2 A20.out).mono ?_); (case side1 => repeat ((with_reducible exact HI0.out))); (case side2 => repeat ((with_reducible exact HB.out))); rintro e w28 ⟨rfl, hi, hb, hk⟩; refine ⟨_, rfl, ?_⟩; have n0_ := Aside0.mk (Kd.R_mono (Kd.R_keep (IsS93.apart (show IsS93 w0 _ g s0_0 x1001_12 x1002_12 from by repeat ((with_reducible exact HI0.out))) (by (with_reducible repeat (fail)); exact HO_4.out) (by decide)) hk (fun _ h => h.2)) (fun _ h => h.1)); have n1_ := Aside0.mk (Kd.R_mono (Kd.R_keep (IsS93.apart (show IsS93 w0 _ g s0_0 x1001_12 x1002_12 from by repeat ((with_reducible exact HI0.out))) (by (with_reducible repeat (fail)); exact HO_5.out) (by decide)) hk (fun _ h => h.2)) (fun _ h => h.1)); have n2_ := Aside0.mk (KeepBut.trans (by repeat ((with_reducible exact HK.out))) hk (.inl rfl)); have n3_ := Aside0.mk (hb); have n4_ := Aside0.mk (hi); clear HO_4; clear HO_5; clear HK; clear HB; clear HI0; have HO_4 := n0_; have HO_5 := n1_; have HK := n2_; have HB := n3_; have HI0 := n4_; clear n0_ n1_ n2_ n3_ n4_; (try clear hb); (try clear hk); (try clear hi)) | ((with_reducible refine gate_callee (f := 89) rfl ?_); refine goesL_ (some 27) rfl rfl Try.func89 (by kernel_rfl) rfl #[.pointer (some ⟨g, 0, none⟩), .int .i64 5] rfl (by (try simp only [map_toArray, map_cons, map_nil]); rfl) ?_; (with_reducible refine (spec_l1Below.calls g s0_0 t530 t531 5 t532 t533 t534 w0 _ ?side1 ?side2 A21.out).mono ?_); (case side1 => repeat ((with_reducible exact HI0.out))); (case side2 => repeat ((with_reducible exact HB.out))); rintro e w29 ⟨rfl, hi, hb, hk⟩; refine ⟨_, rfl, ?_⟩; have n0_ := Aside0.mk (Kd.R_mono (Kd.R_keep (IsS93.apart (show IsS93 w0 _ g s0_0 t530 t531 from by repeat ((with_reducible exact HI0.out))) (by (with_reducible repeat (fail)); exact HO_4.out) (by decide)) hk (fun _ h => h.2)) (fun _ h => h.1)); have n1_ := Aside0.mk (Kd.R_mono (Kd.R_keep (IsS93.apart (show IsS93 w0 _ g s0_0 t530 t531 from by repeat ((with_reducible exact HI0.out))) (by (with_reducible repeat (fail)); exact HO_5.out) (by decide)) hk (fun _ h => h.2)) (fun _ h => h.1)); have n2_ := Aside0.mk (KeepBut.trans (by repeat ((with_reducible exact HK.out))) hk (.inl rfl)); have n3_ := Aside0.mk (hb); have n4_ := Aside0.mk (hi); clear HO_4; clear HO_5; clear HK; clear HB; clear HI0; have HO_4 := n0_; have HO_5 := n1_; have HK := n2_; have HB := n3_; have HI0 := n4_; clear n0_ n1_ n2_ n3_ n4_; (try clear hb); (try clear hk); (try clear hi)) | ((with_reducible refine gate_callee (f := 71) rfl ?_); refine goesL_ (some 35) rfl rfl Try.func71 (by kernel_rfl) rfl #[.pointer (some ⟨g, 0, none⟩), .int .i64 (-1), .int .i64 (t512.length : Int)] rfl (by (try simp only [map_toArray, map_cons, map_nil]); rfl) ?_; (with_reducible refine (spec_l1From.calls g s0_0 t533 t534 (-1) (t512.length : Int) t535 t536 t537 w0 _ ?side1 ?side2 A23.out).mono ?_); (case side1 => repeat ((with_reducible exact HI0.out))); (case side2 => repeat ((with_reducible exact HB.out))); rintro e w30 ⟨rfl, hi, hb, hk⟩; refine ⟨_, rfl, ?_⟩; have n0_ := Aside0.mk (Kd.R_mono (Kd.R_keep (IsS93.apart (show IsS93 w0 _ g s0_0 t533 t534 from by repeat ((with_reducible exact HI0.out))) (by (with_reducible repeat (fail)); exact HO_4.out) (by decide)) hk (fun _ h => h.2)) (fun _ h => h.1)); have n1_ := Aside0.mk (Kd.R_mono (Kd.R_keep (IsS93.apart (show IsS93 w0 _ g s0_0 t533 t534 from by repeat ((with_reducible exact HI0.out))) (by (with_reducible repeat (fail)); exact HO_5.out) (by decide)) hk (fun _ h => h.2)) (fun _ h => h.1)); have n2_ := Aside0.mk (KeepBut.trans (by repeat ((with_reducible exact HK.out))) hk (.inl rfl)); have n3_ := Aside0.mk (hb); have n4_ := Aside0.mk (hi); clear HO_4; clear HO_5; clear HK; clear HB; clear HI0; have HO_4 := n0_; have HO_5 := n1_; have HK := n2_; have HB := n3_; have HI0 := n4_; clear n0_ n1_ n2_ n3_ n4_; (try clear hb); (try clear hk); (try clear hi); have p26 : 0 ≤ (t529 : Int) := of_decide_eq_true (by (with_reducible assumption)); have q26 : (t529 : Int) < ((x5_3.length : Int) : Int) := of_decide_eq_true (by (with_reducible assumption)); obtain ⟨go26, co26, eo26, gb26, gl26, cl26, HG26⟩ := Kd.R_form HO_5.out (by omega); (cases eo26); have GB26 := Aside0.mk gb26; have GG26 := Aside0.mk HG26; clear gb26 gl26 HG26; obtain ⟨ce26, hcl26, hM26, hcc26, hfr26⟩ := Kd.R_elem HO_5.out z58 (t529 : Int) p26 q26; obtain rfl := k58_openM hM26; have hx26_0 : w30.cell? ⟨go26, (t529 : Int).toNat * 4, none⟩ = some (.int .i64 ((rd_T58 x5_3 t529).f0)) := hcc26 0 _ rfl; have hx26_1 : w30.cell? ⟨go26, (t529 : Int).toNat * 4 + 1, none⟩ = some (.int .i64 ((rd_T58 x5_3 t529).f1)) := hcc26 1 _ rfl; have hx26_2 : w30.cell? ⟨go26, (t529 : Int).toNat * 4 + 2, none⟩ = some (.int .i64 ((rd_T58 x5_3 t529).f2)) := hcc26 2 _ rfl; have hx26_3 : w30.cell? ⟨go26, (t529 : Int).toNat * 4 + 3, none⟩ = some (.int .i64 ((rd_T58 x5_3 t529).f3)) := hcc26 3 _ rfl; have hf26_0 : w30.frozen? ⟨go26, (t529 : Int).toNat * 4, none⟩ = false := hfr26 0; have hf26_1 : w30.frozen? ⟨go26, (t529 : Int).toNat * 4 + 1, none⟩ = false := hfr26 1; have hf26_2 : w30.frozen? ⟨go26, (t529 : Int).toNat * 4 + 2, none⟩ = false := hfr26 2; have hf26_3 : w30.frozen? ⟨go26, (t529 : Int).toNat * 4 + 3, none⟩ = false := hfr26 3; clear hcl26 hcc26 hfr26 hM26; replace p26 := eq_true p26; replace q26 := eq_true q26; have HX31 := Aside0.mk (show Kd.R k58 58 w30 w.heap.size (fun _ => True) (.slice (some ⟨go26, 0, none⟩) x5_3.length co27) x5_3 from (by (with_reducible repeat (fail)); exact HO_5.out)); obtain ⟨ce31, hcl31, hM31, hcc31, hfr31⟩ := Kd.R_elem HX31.out z58 (t529 : Int) (of_decide_eq_true (by (with_reducible assumption))) (by have h_ : (t529 : Int) < ((x5_3.length : Int) : Int) := of_decide_eq_true (by (with_reducible assumption)); exact h_); obtain rfl := k58_openM hM31; have HP31 := Kd.R_seg HX31.out (t529 : Int) (of_decide_eq_true (by (with_reducible assumption))) (by have h_ : (t529 : Int) < ((x5_3.length : Int) : Int) := of_decide_eq_true (by (with_reducible assumption)); exact h_) (seg := [.int .i64 t535]) (j := 0) hcl31 hcc31 (show 1 ≤ 4 from by decide) (x' := (⟨t535, (rd_T58 x5_3 t529).f1, (rd_T58 x5_3 t529).f2, (rd_T58 x5_3 t529).f3⟩ : S58)) (k58_mkM _ _ _ (⟨t535, (rd_T58 x5_3 t529).f1, (rd_T58 x5_3 t529).f2, (rd_T58 x5_3 t529).f3⟩ : S58) ) (fun _ hk => hk); have hx31_0 := hcc31 0 _ rfl; (try simp only [show (k58).sz = 4 from rfl, Nat.mul_one, Nat.add_zero] at hx31_0); have hf31_0 := hfr31 0; (try simp only [show (k58).sz = 4 from rfl, Nat.mul_one, Nat.add_zero] at hf31_0); clear hcl31 hcc31 hfr31 hM31) | ((with_reducible refine gate_store (t := 2) (p := 37) rfl ?_); refine store_event (t := 2) (p := 37) (v := ?vo_w32) (w1 := (w30.setCell ⟨go26, (t529 : Int).toNat * 4, none⟩ (.int .i64 t535))) ?hg ?ho ?hn ?hr ?_; (case ho => rfl); (case hg => rfl); (case hn => rfl); (case hr => (go_simp; done)); intro w32 hw; have hg : w30.grownBy w32 (some go26) := (by rw [hw]; exact HP31.2); have hp_ : Kd.R k58 58 w32 w.heap.size (fun _ => True) (.slice (some ⟨go26, 0, none⟩) x5_3.length co27) y538 := (by rw [hw, Ny538.out]; exact HP31.1); clear HP31; have n0_ := Aside0.mk (Kd.R_over' (v := (.slice (some ⟨go26, 0, none⟩) x5_3.length co27)) (by (with_reducible repeat (fail)); exact HO_4.out) (Kd.R_typed HO_5.out) (by decide) hg); have n1_ := Aside0.mk (hp_); have n2_ := Aside0.mk (IsS93.grown (by repeat ((with_reducible exact HI0.out))) hg (IsS93.own_ne HI0.out HO_5.out (by decide))); have n3_ := Aside0.mk ((by rw [hw]; exact below_set (HB.out) (Nat.le_trans HL.out GB26.out) : Below w0.heap.size w0 w32)); have n4_ := Aside0.mk (KeepBut.trans (by repeat ((with_reducible exact HK.out))) (KeepBut.of_grown hg g) (Kd.R_base2 HO_5.out)); clear HO_4; clear HO_5; clear HI0; clear HB; clear HK; have HO_4 := n0_; have HO_5 := n1_; have HI0 := n2_; have HB := n3_; have HK := n4_; clear n0_ n1_ n2_ n3_ n4_; clear hg hw hp_))
         go_ret2
         exact ⟨_, _, by rfl, by (with_reducible repeat (fail)); exact HO_4.out, by (with_reducible repeat (fail)); exact HO_5.out, by repeat ((with_reducible exact HI0.out)), by repeat ((with_reducible exact HB.out)), by repeat ((with_reducible exact HK.out))⟩
        ·rw [if_neg c25] at H
         exact absurd H (by simp)
       ·rw [if_neg c24] at H
        exact absurd H (by simp)
      ·rw [if_neg c22] at H
       have c22b0 : (t532 == 0) = false := beq_eq_false_iff_ne.mpr c22
       have c22b1 : (t532 != 0) = true := bne_iff_ne.mpr c22
       by_cases c33 : t532 = 1
       ·rw [if_pos c33] at H
        have c33b0 : (t532 == 1) = true := beq_iff_eq.mpr c33
        have c33b1 : (t532 != 1) = false := bne_eq_false_iff_eq.mpr c33
        clear c33
        replace H := bind_eq_some_iff.mp H
        obtain ⟨⟨t539, t540, t541⟩, A340, H⟩ := H
        replace H : (if 0 ≤ t529 then (if t529 < (x5_3.length : Int) then (some (t512, (x5_3.set (t529 : Int).toNat (⟨(rd_T58 x5_3 t529).f0, t539, (rd_T58 x5_3 t529).f2, (rd_T58 x5_3 t529).f3⟩ : S58)), t540, t541)) else (none)) else (none)) = some (r1, r2, r3, r4) := H
        have A34 := Aside0.mk A340
        clear A340
        by_cases c35 : 0 ≤ t529
        ·rw [if_pos c35] at H
         have c35b0 : decide (0 ≤ t529) = true := decide_eq_true c35
         clear c35
         by_cases c36 : t529 < (x5_3.length : Int)
         ·rw [if_pos c36] at H
          have c36b0 : decide (t529 < (x5_3.length : Int)) = true := decide_eq_true c36
          clear c36
          obtain ⟨y542, hy542⟩ : ∃ y_ : List (S58), y_ = (x5_3.set (t529 : Int).toNat (⟨(rd_T58 x5_3 t529).f0, t539, (rd_T58 x5_3 t529).f2, (rd_T58 x5_3 t529).f3⟩ : S58)) := ⟨_, rfl⟩
          replace H : (some (t512, y542, t540, t541)) = some (r1, r2, r3, r4) := by (rw [hy542]; with_reducible exact H)
          have Ny542 := Aside0.mk hy542
          clear hy542
          simp only [Option.some.injEq, Prod.mk.injEq] at H
          obtain ⟨rfl, rfl, rfl, rfl⟩ := H
          obtain ⟨Ao38, co38, eo38⟩ := Kd.R_slice HO_5.out
          subst eo38
          go_wp2_with (first | ((with_reducible refine gate_callee (f := 89) rfl ?_); refine goesL_ (some 25) rfl rfl Try.func89 (by kernel_rfl) rfl #[.pointer (some ⟨g, 0, none⟩), .int .i64 (x5_3.length : Int)] rfl (by (try simp only [map_toArray, map_cons, map_nil]); rfl) ?_; (with_reducible refine (spec_l1Below.calls g s0_0 x1001_12 x1002_12 (x5_3.length : Int) t529 t530 t531 w0 _ ?side1 ?side2 A20.out).mono ?_); (case side1 => repeat ((with_reducible exact HI0.out))); (case side2 => repeat ((with_reducible exact HB.out))); rintro e w39 ⟨rfl, hi, hb, hk⟩; refine ⟨_, rfl, ?_⟩; have n0_ := Aside0.mk (Kd.R_mono (Kd.R_keep (IsS93.apart (show IsS93 w0 _ g s0_0 x1001_12 x1002_12 from by repeat ((with_reducible exact HI0.out))) (by (with_reducible repeat (fail)); exact HO_4.out) (by decide)) hk (fun _ h => h.2)) (fun _ h => h.1)); have n1_ := Aside0.mk (Kd.R_mono (Kd.R_keep (IsS93.apart (show IsS93 w0 _ g s0_0 x1001_12 x1002_12 from by repeat ((with_reducible exact HI0.out))) (by (with_reducible repeat (fail)); exact HO_5.out) (by decide)) hk (fun _ h => h.2)) (fun _ h => h.1)); have n2_ := Aside0.mk (KeepBut.trans (by repeat ((with_reducible exact HK.out))) hk (.inl rfl)); have n3_ := Aside0.mk (hb); have n4_ := Aside0.mk (hi); clear HO_4; clear HO_5; clear HK; clear HB; clear HI0; have HO_4 := n0_; have HO_5 := n1_; have HK := n2_; have HB := n3_; have HI0 := n4_; clear n0_ n1_ n2_ n3_ n4_; (try clear hb); (try clear hk); (try clear hi)) | ((with_reducible refine gate_callee (f := 89) rfl ?_); refine goesL_ (some 27) rfl rfl Try.func89 (by kernel_rfl) rfl #[.pointer (some ⟨g, 0, none⟩), .int .i64 5] rfl (by (try simp only [map_toArray, map_cons, map_nil]); rfl) ?_; (with_reducible refine (spec_l1Below.calls g s0_0 t530 t531 5 t532 t533 t534 w0 _ ?side1 ?side2 A21.out).mono ?_); (case side1 => repeat ((with_reducible exact HI0.out))); (case side2 => repeat ((with_reducible exact HB.out))); rintro e w40 ⟨rfl, hi, hb, hk⟩; refine ⟨_, rfl, ?_⟩; have n0_ := Aside0.mk (Kd.R_mono (Kd.R_keep (IsS93.apart (show IsS93 w0 _ g s0_0 t530 t531 from by repeat ((with_reducible exact HI0.out))) (by (with_reducible repeat (fail)); exact HO_4.out) (by decide)) hk (fun _ h => h.2)) (fun _ h => h.1)); have n1_ := Aside0.mk (Kd.R_mono (Kd.R_keep (IsS93.apart (show IsS93 w0 _ g s0_0 t530 t531 from by repeat ((with_reducible exact HI0.out))) (by (with_reducible repeat (fail)); exact HO_5.out) (by decide)) hk (fun _ h => h.2)) (fun _ h => h.1)); have n2_ := Aside0.mk (KeepBut.trans (by repeat ((with_reducible exact HK.out))) hk (.inl rfl)); have n3_ := Aside0.mk (hb); have n4_ := Aside0.mk (hi); clear HO_4; clear HO_5; clear HK; clear HB; clear HI0; have HO_4 := n0_; have HO_5 := n1_; have HK := n2_; have HB := n3_; have HI0 := n4_; clear n0_ n1_ n2_ n3_ n4_; (try clear hb); (try clear hk); (try clear hi)) | ((with_reducible refine gate_callee (f := 71) rfl ?_); refine goesL_ (some 43) rfl rfl Try.func71 (by kernel_rfl) rfl #[.pointer (some ⟨g, 0, none⟩), .int .i64 (-1), .int .i64 3] rfl (by (try simp only [map_toArray, map_cons, map_nil]); rfl) ?_; (with_reducible refine (spec_l1From.calls g s0_0 t533 t534 (-1) 3 t539 t540 t541 w0 _ ?side1 ?side2 A34.out).mono ?_); (case side1 => repeat ((with_reducible exact HI0.out))); (case side2 => repeat ((with_reducible exact HB.out))); rintro e w41 ⟨rfl, hi, hb, hk⟩; refine ⟨_, rfl, ?_⟩; have n0_ := Aside0.mk (Kd.R_mono (Kd.R_keep (IsS93.apart (show IsS93 w0 _ g s0_0 t533 t534 from by repeat ((with_reducible exact HI0.out))) (by (with_reducible repeat (fail)); exact HO_4.out) (by decide)) hk (fun _ h => h.2)) (fun _ h => h.1)); have n1_ := Aside0.mk (Kd.R_mono (Kd.R_keep (IsS93.apart (show IsS93 w0 _ g s0_0 t533 t534 from by repeat ((with_reducible exact HI0.out))) (by (with_reducible repeat (fail)); exact HO_5.out) (by decide)) hk (fun _ h => h.2)) (fun _ h => h.1)); have n2_ := Aside0.mk (KeepBut.trans (by repeat ((with_reducible exact HK.out))) hk (.inl rfl)); have n3_ := Aside0.mk (hb); have n4_ := Aside0.mk (hi); clear HO_4; clear HO_5; clear HK; clear HB; clear HI0; have HO_4 := n0_; have HO_5 := n1_; have HK := n2_; have HB := n3_; have HI0 := n4_; clear n0_ n1_ n2_ n3_ n4_; (try clear hb); (try clear hk); (try clear hi); have p37 : 0 ≤ (t529 : Int) := of_decide_eq_true (by (with_reducible assumption)); have q37 : (t529 : Int) < ((x5_3.length : Int) : Int) := of_decide_eq_true (by (with_reducible assumption)); obtain ⟨go37, co37, eo37, gb37, gl37, cl37, HG37⟩ := Kd.R_form HO_5.out (by omega); (cases eo37); have GB37 := Aside0.mk gb37; have GG37 := Aside0.mk HG37; clear gb37 gl37 HG37; obtain ⟨ce37, hcl37, hM37, hcc37, hfr37⟩ := Kd.R_elem HO_5.out z58 (t529 : Int) p37 q37; obtain rfl := k58_openM hM37; have hx37_0 : w41.cell? ⟨go37, (t529 : Int).toNat * 4, none⟩ = some (.int .i64 ((rd_T58 x5_3 t529).f0)) := hcc37 0 _ rfl; have hx37_1 : w41.cell? ⟨go37, (t529 : Int).toNat * 4 + 1, none⟩ = some (.int .i64 ((rd_T58 x5_3 t529).f1)) := hcc37 1 _ rfl; have hx37_2 : w41.cell? ⟨go37, (t529 : Int).toNat * 4 + 2, none⟩ = some (.int .i64 ((rd_T58 x5_3 t529).f2)) := hcc37 2 _ rfl; have hx37_3 : w41.cell? ⟨go37, (t529 : Int).toNat * 4 + 3, none⟩ = some (.int .i64 ((rd_T58 x5_3 t529).f3)) := hcc37 3 _ rfl; have hf37_0 : w41.frozen? ⟨go37, (t529 : Int).toNat * 4, none⟩ = false := hfr37 0; have hf37_1 : w41.frozen? ⟨go37, (t529 : Int).toNat * 4 + 1, none⟩ = false := hfr37 1; have hf37_2 : w41.frozen? ⟨go37, (t529 : Int).toNat * 4 + 2, none⟩ = false := hfr37 2; have hf37_3 : w41.frozen? ⟨go37, (t529 : Int).toNat * 4 + 3, none⟩ = false := hfr37 3; clear hcl37 hcc37 hfr37 hM37; replace p37 := eq_true p37; replace q37 := eq_true q37; have HX42 := Aside0.mk (show Kd.R k58 58 w41 w.heap.size (fun _ => True) (.slice (some ⟨go37, 0, none⟩) x5_3.length co38) x5_3 from (by (with_reducible repeat (fail)); exact HO_5.out)); obtain ⟨ce42, hcl42, hM42, hcc42, hfr42⟩ := Kd.R_elem HX42.out z58 (t529 : Int) (of_decide_eq_true (by (with_reducible assumption))) (by have h_ : (t529 : Int) < ((x5_3.length : Int) : Int) := of_decide_eq_true (by (with_reducible assumption)); exact h_); obtain rfl := k58_openM hM42; have HP42 := Kd.R_seg HX42.out (t529 : Int) (of_decide_eq_true (by (with_reducible assumption))) (by have h_ : (t529 : Int) < ((x5_3.length : Int) : Int) := of_decide_eq_true (by (with_reducible assumption)); exact h_) (seg := [.int .i64 t539]) (j := 1) hcl42 hcc42 (show 2 ≤ 4 from by decide) (x' := (⟨(rd_T58 x5_3 t529).f0, t539, (rd_T58 x5_3 t529).f2, (rd_T58 x5_3 t529).f3⟩ : S58)) (k58_mkM _ _ _ (⟨(rd_T58 x5_3 t529).f0, t539, (rd_T58 x5_3 t529).f2, (rd_T58 x5_3 t529).f3⟩ : S58) ) (fun _ hk => hk); have hx42_1 := hcc42 1 _ rfl; (try simp only [show (k58).sz = 4 from rfl, Nat.mul_one, Nat.add_zero] at hx42_1); have hf42_1 := hfr42 1; (try simp only [show (k58).sz = 4 from rfl, Nat.mul_one, Nat.add_zero] at hf42_1); clear hcl42 hcc42 hfr42 hM42) | ((with_reducible refine gate_store (t := 2) (p := 45) rfl ?_); refine store_event (t := 2) (p := 45) (v := ?vo_w43) (w1 := (w41.setCell ⟨go37, (t529 : Int).toNat * 4 + 1, none⟩ (.int .i64 t539))) ?hg ?ho ?hn ?hr ?_; (case ho => rfl); (case hg => rfl); (case hn => rfl); (case hr => (go_simp; done)); intro w43 hw; have hg : w41.grownBy w43 (some go37) := (by rw [hw]; exact HP42.2); have hp_ : Kd.R k58 58 w43 w.heap.size (fun _ => True) (.slice (some ⟨go37, 0, none⟩) x5_3.length co38) y542 := (by rw [hw, Ny542.out]; exact HP42.1); clear HP42; have n0_ := Aside0.mk (Kd.R_over' (v := (.slice (some ⟨go37, 0, none⟩) x5_3.length co38)) (by (with_reducible repeat (fail)); exact HO_4.out) (Kd.R_typed HO_5.out) (by decide) hg); have n1_ := Aside0.mk (hp_); have n2_ := Aside0.mk (IsS93.grown (by repeat ((with_reducible exact HI0.out))) hg (IsS93.own_ne HI0.out HO_5.out (by decide))); have n3_ := Aside0.mk ((by rw [hw]; exact below_set (HB.out) (Nat.le_trans HL.out GB37.out) : Below w0.heap.size w0 w43)); have n4_ := Aside0.mk (KeepBut.trans (by repeat ((with_reducible exact HK.out))) (KeepBut.of_grown hg g) (Kd.R_base2 HO_5.out)); clear HO_4; clear HO_5; clear HI0; clear HB; clear HK; have HO_4 := n0_; have HO_5 := n1_; have HI0 := n2_; have HB := n3_; have HK := n4_; clear n0_ n1_ n2_ n3_ n4_; clear hg hw hp_))
          go_ret2
          exact ⟨_, _, by rfl, by (with_reducible repeat (fail)); exact HO_4.out, by (with_reducible repeat (fail)); exact HO_5.out, by repeat ((with_reducible exact HI0.out)), by repeat ((with_reducible exact HB.out)), by repeat ((with_reducible exact HK.out))⟩
         ·rw [if_neg c36] at H
          exact absurd H (by simp)
        ·rw [if_neg c35] at H
         exact absurd H (by simp)
       ·rw [if_neg c33] at H
        have c33b0 : (t532 == 1) = false := beq_eq_false_iff_ne.mpr c33
        have c33b1 : (t532 != 1) = true := bne_iff_ne.mpr c33
        by_cases c44 : t532 = 2
        ·rw [if_pos c44] at H
         have c44b0 : (t532 == 2) = true := beq_iff_eq.mpr c44
         have c44b1 : (t532 != 2) = false := bne_eq_false_iff_eq.mpr c44
         clear c44
         replace H := bind_eq_some_iff.mp H
         obtain ⟨⟨t543, t544, t545⟩, A450, H⟩ := H
         replace H : (if 0 ≤ t529 then (if t529 < (x5_3.length : Int) then (some (t512, (x5_3.set (t529 : Int).toNat (⟨(rd_T58 x5_3 t529).f0, (rd_T58 x5_3 t529).f1, t543, (rd_T58 x5_3 t529).f3⟩ : S58)), t544, t545)) else (none)) else (none)) = some (r1, r2, r3, r4) := H
         have A45 := Aside0.mk A450
         clear A450
         by_cases c46 : 0 ≤ t529
         ·rw [if_pos c46] at H
          have c46b0 : decide (0 ≤ t529) = true := decide_eq_true c46
          clear c46
          by_cases c47 : t529 < (x5_3.length : Int)
          ·rw [if_pos c47] at H
           have c47b0 : decide (t529 < (x5_3.length : Int)) = true := decide_eq_true c47
           clear c47
           obtain ⟨y546, hy546⟩ : ∃ y_ : List (S58), y_ = (x5_3.set (t529 : Int).toNat (⟨(rd_T58 x5_3 t529).f0, (rd_T58 x5_3 t529).f1, t543, (rd_T58 x5_3 t529).f3⟩ : S58)) := ⟨_, rfl⟩
           replace H : (some (t512, y546, t544, t545)) = some (r1, r2, r3, r4) := by (rw [hy546]; with_reducible exact H)
           have Ny546 := Aside0.mk hy546
           clear hy546
           simp only [Option.some.injEq, Prod.mk.injEq] at H
           obtain ⟨rfl, rfl, rfl, rfl⟩ := H
           obtain ⟨Ao49, co49, eo49⟩ := Kd.R_slice HO_5.out
           subst eo49
           go_wp2_with (first | ((with_reducible refine gate_callee (f := 89) rfl ?_); refine goesL_ (some 25) rfl rfl Try.func89 (by kernel_rfl) rfl #[.pointer (some ⟨g, 0, none⟩), .int .i64 (x5_3.length : Int)] rfl (by (try simp only [map_toArray, map_cons, map_nil]); rfl) ?_; (with_reducible refine (spec_l1Below.calls g s0_0 x1001_12 x1002_12 (x5_3.length : Int) t529 t530 t531 w0 _ ?side1 ?side2 A20.out).mono ?_); (case side1 => repeat ((with_reducible exact HI0.out))); (case side2 => repeat ((with_reducible exact HB.out))); rintro e w50 ⟨rfl, hi, hb, hk⟩; refine ⟨_, rfl, ?_⟩; have n0_ := Aside0.mk (Kd.R_mono (Kd.R_keep (IsS93.apart (show IsS93 w0 _ g s0_0 x1001_12 x1002_12 from by repeat ((with_reducible exact HI0.out))) (by (with_reducible repeat (fail)); exact HO_4.out) (by decide)) hk (fun _ h => h.2)) (fun _ h => h.1)); have n1_ := Aside0.mk (Kd.R_mono (Kd.R_keep (IsS93.apart (show IsS93 w0 _ g s0_0 x1001_12 x1002_12 from by repeat ((with_reducible exact HI0.out))) (by (with_reducible repeat (fail)); exact HO_5.out) (by decide)) hk (fun _ h => h.2)) (fun _ h => h.1)); have n2_ := Aside0.mk (KeepBut.trans (by repeat ((with_reducible exact HK.out))) hk (.inl rfl)); have n3_ := Aside0.mk (hb); have n4_ := Aside0.mk (hi); clear HO_4; clear HO_5; clear HK; clear HB; clear HI0; have HO_4 := n0_; have HO_5 := n1_; have HK := n2_; have HB := n3_; have HI0 := n4_; clear n0_ n1_ n2_ n3_ n4_; (try clear hb); (try clear hk); (try clear hi)) | ((with_reducible refine gate_callee (f := 89) rfl ?_); refine goesL_ (some 27) rfl rfl Try.func89 (by kernel_rfl) rfl #[.pointer (some ⟨g, 0, none⟩), .int .i64 5] rfl (by (try simp only [map_toArray, map_cons, map_nil]); rfl) ?_; (with_reducible refine (spec_l1Below.calls g s0_0 t530 t531 5 t532 t533 t534 w0 _ ?side1 ?side2 A21.out).mono ?_); (case side1 => repeat ((with_reducible exact HI0.out))); (case side2 => repeat ((with_reducible exact HB.out))); rintro e w51 ⟨rfl, hi, hb, hk⟩; refine ⟨_, rfl, ?_⟩; have n0_ := Aside0.mk (Kd.R_mono (Kd.R_keep (IsS93.apart (show IsS93 w0 _ g s0_0 t530 t531 from by repeat ((with_reducible exact HI0.out))) (by (with_reducible repeat (fail)); exact HO_4.out) (by decide)) hk (fun _ h => h.2)) (fun _ h => h.1)); have n1_ := Aside0.mk (Kd.R_mono (Kd.R_keep (IsS93.apart (show IsS93 w0 _ g s0_0 t530 t531 from by repeat ((with_reducible exact HI0.out))) (by (with_reducible repeat (fail)); exact HO_5.out) (by decide)) hk (fun _ h => h.2)) (fun _ h => h.1)); have n2_ := Aside0.mk (KeepBut.trans (by repeat ((with_reducible exact HK.out))) hk (.inl rfl)); have n3_ := Aside0.mk (hb); have n4_ := Aside0.mk (hi); clear HO_4; clear HO_5; clear HK; clear HB; clear HI0; have HO_4 := n0_; have HO_5 := n1_; have HK := n2_; have HB := n3_; have HI0 := n4_; clear n0_ n1_ n2_ n3_ n4_; (try clear hb); (try clear hk); (try clear hi)) | ((with_reducible refine gate_callee (f := 95) rfl ?_); refine goesL_ (some 51) rfl rfl Try.func95 (by kernel_rfl) rfl #[.pointer (some ⟨g, 0, none⟩), .int .i64 999] rfl (by (try simp only [map_toArray, map_cons, map_nil]); rfl) ?_; (with_reducible refine (spec_l1Num.calls g s0_0 t533 t534 999 t543 t544 t545 w0 _ ?side1 ?side2 A45.out).mono ?_); (case side1 => repeat ((with_reducible exact HI0.out))); (case side2 => repeat ((with_reducible exact HB.out))); rintro e w52 ⟨rfl, hi, hb, hk⟩; refine ⟨_, rfl, ?_⟩; have n0_ := Aside0.mk (Kd.R_mono (Kd.R_keep (IsS93.apart (show IsS93 w0 _ g s0_0 t533 t534 from by repeat ((with_reducible exact HI0.out))) (by (with_reducible repeat (fail)); exact HO_4.out) (by decide)) hk (fun _ h => h.2)) (fun _ h => h.1)); have n1_ := Aside0.mk (Kd.R_mono (Kd.R_keep (IsS93.apart (show IsS93 w0 _ g s0_0 t533 t534 from by repeat ((with_reducible exact HI0.out))) (by (with_reducible repeat (fail)); exact HO_5.out) (by decide)) hk (fun _ h => h.2)) (fun _ h => h.1)); have n2_ := Aside0.mk (KeepBut.trans (by repeat ((with_reducible exact HK.out))) hk (.inl rfl)); have n3_ := Aside0.mk (hb); have n4_ := Aside0.mk (hi); clear HO_4; clear HO_5; clear HK; clear HB; clear HI0; have HO_4 := n0_; have HO_5 := n1_; have HK := n2_; have HB := n3_; have HI0 := n4_; clear n0_ n1_ n2_ n3_ n4_; (try clear hb); (try clear hk); (try clear hi); have p48 : 0 ≤ (t529 : Int) := of_decide_eq_true (by (with_reducible assumption)); have q48 : (t529 : Int) < ((x5_3.length : Int) : Int) := of_decide_eq_true (by (with_reducible assumption)); obtain ⟨go48, co48, eo48, gb48, gl48, cl48, HG48⟩ := Kd.R_form HO_5.out (by omega); (cases eo48); have GB48 := Aside0.mk gb48; have GG48 := Aside0.mk HG48; clear gb48 gl48 HG48; obtain ⟨ce48, hcl48, hM48, hcc48, hfr48⟩ := Kd.R_elem HO_5.out z58 (t529 : Int) p48 q48; obtain rfl := k58_openM hM48; have hx48_0 : w52.cell? ⟨go48, (t529 : Int).toNat * 4, none⟩ = some (.int .i64 ((rd_T58 x5_3 t529).f0)) := hcc48 0 _ rfl; have hx48_1 : w52.cell? ⟨go48, (t529 : Int).toNat * 4 + 1, none⟩ = some (.int .i64 ((rd_T58 x5_3 t529).f1)) := hcc48 1 _ rfl; have hx48_2 : w52.cell? ⟨go48, (t529 : Int).toNat * 4 + 2, none⟩ = some (.int .i64 ((rd_T58 x5_3 t529).f2)) := hcc48 2 _ rfl; have hx48_3 : w52.cell? ⟨go48, (t529 : Int).toNat * 4 + 3, none⟩ = some (.int .i64 ((rd_T58 x5_3 t529).f3)) := hcc48 3 _ rfl; have hf48_0 : w52.frozen? ⟨go48, (t529 : Int).toNat * 4, none⟩ = false := hfr48 0; have hf48_1 : w52.frozen? ⟨go48, (t529 : Int).toNat * 4 + 1, none⟩ = false := hfr48 1; have hf48_2 : w52.frozen? ⟨go48, (t529 : Int).toNat * 4 + 2, none⟩ = false := hfr48 2; have hf48_3 : w52.frozen? ⟨go48, (t529 : Int).toNat * 4 + 3, none⟩ = false := hfr48 3; clear hcl48 hcc48 hfr48 hM48; replace p48 := eq_true p48; replace q48 := eq_true q48; have HX53 := Aside0.mk (show Kd.R k58 58 w52 w.heap.size (fun _ => True) (.slice (some ⟨go48, 0, none⟩) x5_3.length co49) x5_3 from (by (with_reducible repeat (fail)); exact HO_5.out)); obtain ⟨ce53, hcl53, hM53, hcc53, hfr53⟩ := Kd.R_elem HX53.out z58 (t529 : Int) (of_decide_eq_true (by (with_reducible assumption))) (by have h_ : (t529 : Int) < ((x5_3.length : Int) : Int) := of_decide_eq_true (by (with_reducible assumption)); exact h_); obtain rfl := k58_openM hM53; have HP53 := Kd.R_seg HX53.out (t529 : Int) (of_decide_eq_true (by (with_reducible assumption))) (by have h_ : (t529 : Int) < ((x5_3.length : Int) : Int) := of_decide_eq_true (by (with_reducible assumption)); exact h_) (seg := [.int .i64 t543]) (j := 2) hcl53 hcc53 (show 3 ≤ 4 from by decide) (x' := (⟨(rd_T58 x5_3 t529).f0, (rd_T58 x5_3 t529).f1, t543, (rd_T58 x5_3 t529).f3⟩ : S58)) (k58_mkM _ _ _ (⟨(rd_T58 x5_3 t529).f0, (rd_T58 x5_3 t529).f1, t543, (rd_T58 x5_3 t529).f3⟩ : S58) ) (fun _ hk => hk); have hx53_2 := hcc53 2 _ rfl; (try simp only [show (k58).sz = 4 from rfl, Nat.mul_one, Nat.add_zero] at hx53_2); have hf53_2 := hfr53 2; (try simp only [show (k58).sz = 4 from rfl, Nat.mul_one, Nat.add_zero] at hf53_2); clear hcl53 hcc53 hfr53 hM53) | ((with_reducible refine gate_store (t := 2) (p := 53) rfl ?_); refine store_event (t := 2) (p := 53) (v := ?vo_w54) (w1 := (w52.setCell ⟨go48, (t529 : Int).toNat * 4 + 2, none⟩ (.int .i64 t543))) ?hg ?ho ?hn ?hr ?_; (case ho => rfl); (case hg => rfl); (case hn => rfl); (case hr => (go_simp; done)); intro w54 hw; have hg : w52.grownBy w54 (some go48) := (by rw [hw]; exact HP53.2); have hp_ : Kd.R k58 58 w54 w.heap.size (fun _ => True) (.slice (some ⟨go48, 0, none⟩) x5_3.length co49) y546 := (by rw [hw, Ny546.out]; exact HP53.1); clear HP53; have n0_ := Aside0.mk (Kd.R_over' (v := (.slice (some ⟨go48, 0, none⟩) x5_3.length co49)) (by (with_reducible repeat (fail)); exact HO_4.out) (Kd.R_typed HO_5.out) (by decide) hg); have n1_ := Aside0.mk (hp_); have n2_ := Aside0.mk (IsS93.grown (by repeat ((with_reducible exact HI0.out))) hg (IsS93.own_ne HI0.out HO_5.out (by decide))); have n3_ := Aside0.mk ((by rw [hw]; exact below_set (HB.out) (Nat.le_trans HL.out GB48.out) : Below w0.heap.size w0 w54)); have n4_ := Aside0.mk (KeepBut.trans (by repeat ((with_reducible exact HK.out))) (KeepBut.of_grown hg g) (Kd.R_base2 HO_5.out)); clear HO_4; clear HO_5; clear HI0; clear HB; clear HK; have HO_4 := n0_; have HO_5 := n1_; have HI0 := n2_; have HB := n3_; have HK := n4_; clear n0_ n1_ n2_ n3_ n4_; clear hg hw hp_))
           go_ret2
           exact ⟨_, _, by rfl, by (with_reducible repeat (fail)); exact HO_4.out, by (with_reducible repeat (fail)); exact HO_5.out, by repeat ((with_reducible exact HI0.out)), by repeat ((with_reducible exact HB.out)), by repeat ((with_reducible exact HK.out))⟩
          ·rw [if_neg c47] at H
           exact absurd H (by simp)
         ·rw [if_neg c46] at H
          exact absurd H (by simp)
        ·rw [if_neg c44] at H
         have c44b0 : (t532 == 2) = false := beq_eq_false_iff_ne.mpr c44
         have c44b1 : (t532 != 2) = true := bne_iff_ne.mpr c44
         by_cases c55 : t532 = 3
         ·rw [if_pos c55] at H
          have c55b0 : (t532 == 3) = true := beq_iff_eq.mpr c55
          have c55b1 : (t532 != 3) = false := bne_eq_false_iff_eq.mpr c55
          clear c55
          replace H := bind_eq_some_iff.mp H
          obtain ⟨⟨t547, t548, t549⟩, A560, H⟩ := H
          replace H : (if 0 ≤ t529 then (if t529 < (x5_3.length : Int) then (some (t512, (x5_3.set (t529 : Int).toNat (⟨(rd_T58 x5_3 t529).f0, (rd_T58 x5_3 t529).f1, (rd_T58 x5_3 t529).f2, t547⟩ : S58)), t548, t549)) else (none)) else (none)) = some (r1, r2, r3, r4) := H
          have A56 := Aside0.mk A560
          clear A560
          by_cases c57 : 0 ≤ t529
          ·rw [if_pos c57] at H
           have c57b0 : decide (0 ≤ t529) = true := decide_eq_true c57
           clear c57
           by_cases c58 : t529 < (x5_3.length : Int)
           ·rw [if_pos c58] at H
            have c58b0 : decide (t529 < (x5_3.length : Int)) = true := decide_eq_true c58
            clear c58
            obtain ⟨y550, hy550⟩ : ∃ y_ : List (S58), y_ = (x5_3.set (t529 : Int).toNat (⟨(rd_T58 x5_3 t529).f0, (rd_T58 x5_3 t529).f1, (rd_T58 x5_3 t529).f2, t547⟩ : S58)) := ⟨_, rfl⟩
            replace H : (some (t512, y550, t548, t549)) = some (r1, r2, r3, r4) := by (rw [hy550]; with_reducible exact H)
            have Ny550 := Aside0.mk hy550
            clear hy550
            simp only [Option.some.injEq, Prod.mk.injEq] at H
            obtain ⟨rfl, rfl, rfl, rfl⟩ := H
            obtain ⟨Ao60, co60, eo60⟩ := Kd.R_slice HO_5.out
            subst eo60
            go_wp2_with (first | ((with_reducible refine gate_callee (f := 89) rfl ?_); refine goesL_ (some 25) rfl rfl Try.func89 (by kernel_rfl) rfl #[.pointer (some ⟨g, 0, none⟩), .int .i64 (x5_3.length : Int)] rfl (by (try simp only [map_toArray, map_cons, map_nil]); rfl) ?_; (with_reducible refine (spec_l1Below.calls g s0_0 x1001_12 x1002_12 (x5_3.length : Int) t529 t530 t531 w0 _ ?side1 ?side2 A20.out).mono ?_); (case side1 => repeat ((with_reducible exact HI0.out))); (case side2 => repeat ((with_reducible exact HB.out))); rintro e w61 ⟨rfl, hi, hb, hk⟩; refine ⟨_, rfl, ?_⟩; have n0_ := Aside0.mk (Kd.R_mono (Kd.R_keep (IsS93.apart (show IsS93 w0 _ g s0_0 x1001_12 x1002_12 from by repeat ((with_reducible exact HI0.out))) (by (with_reducible repeat (fail)); exact HO_4.out) (by decide)) hk (fun _ h => h.2)) (fun _ h => h.1)); have n1_ := Aside0.mk (Kd.R_mono (Kd.R_keep (IsS93.apart (show IsS93 w0 _ g s0_0 x1001_12 x1002_12 from by repeat ((with_reducible exact HI0.out))) (by (with_reducible repeat (fail)); exact HO_5.out) (by decide)) hk (fun _ h => h.2)) (fun _ h => h.1)); have n2_ := Aside0.mk (KeepBut.trans (by repeat ((with_reducible exact HK.out))) hk (.inl rfl)); have n3_ := Aside0.mk (hb); have n4_ := Aside0.mk (hi); clear HO_4; clear HO_5; clear HK; clear HB; clear HI0; have HO_4 := n0_; have HO_5 := n1_; have HK := n2_; have HB := n3_; have HI0 := n4_; clear n0_ n1_ n2_ n3_ n4_; (try clear hb); (try clear hk); (try clear hi)) | ((with_reducible refine gate_callee (f := 89) rfl ?_); refine goesL_ (some 27) rfl rfl Try.func89 (by kernel_rfl) rfl #[.pointer (some ⟨g, 0, none⟩), .int .i64 5] rfl (by (try simp only [map_toArray, map_cons, map_nil]); rfl) ?_; (with_reducible refine (spec_l1Below.calls g s0_0 t530 t531 5 t532 t533 t534 w0 _ ?side1 ?side2 A21.out).mono ?_); (case side1 => repeat ((with_reducible exact HI0.out))); (case side2 => repeat ((with_reducible exact HB.out))); rintro e w62 ⟨rfl, hi, hb, hk⟩; refine ⟨_, rfl, ?_⟩; have n0_ := Aside0.mk (Kd.R_mono (Kd.R_keep (IsS93.apart (show IsS93 w0 _ g s0_0 t530 t531 from by repeat ((with_reducible exact HI0.out))) (by (with_reducible repeat (fail)); exact HO_4.out) (by decide)) hk (fun _ h => h.2)) (fun _ h => h.1)); have n1_ := Aside0.mk (Kd.R_mono (Kd.R_keep (IsS93.apart (show IsS93 w0 _ g s0_0 t530 t531 from by repeat ((with_reducible exact HI0.out))) (by (with_reducible repeat (fail)); exact HO_5.out) (by decide)) hk (fun _ h => h.2)) (fun _ h => h.1)); have n2_ := Aside0.mk (KeepBut.trans (by repeat ((with_reducible exact HK.out))) hk (.inl rfl)); have n3_ := Aside0.mk (hb); have n4_ := Aside0.mk (hi); clear HO_4; clear HO_5; clear HK; clear HB; clear HI0; have HO_4 := n0_; have HO_5 := n1_; have HK := n2_; have HB := n3_; have HI0 := n4_; clear n0_ n1_ n2_ n3_ n4_; (try clear hb); (try clear hk); (try clear hi)) | ((with_reducible refine gate_callee (f := 89) rfl ?_); refine goesL_ (some 59) rfl rfl Try.func89 (by kernel_rfl) rfl #[.pointer (some ⟨g, 0, none⟩), .int .i64 9] rfl (by (try simp only [map_toArray, map_cons, map_nil]); rfl) ?_; (with_reducible refine (spec_l1Below.calls g s0_0 t533 t534 9 t547 t548 t549 w0 _ ?side1 ?side2 A56.out).mono ?_); (case side1 => repeat ((with_reducible exact HI0.out))); (case side2 => repeat ((with_reducible exact HB.out))); rintro e w63 ⟨rfl, hi, hb, hk⟩; refine ⟨_, rfl, ?_⟩; have n0_ := Aside0.mk (Kd.R_mono (Kd.R_keep (IsS93.apart (show IsS93 w0 _ g s0_0 t533 t534 from by repeat ((with_reducible exact HI0.out))) (by (with_reducible repeat (fail)); exact HO_4.out) (by decide)) hk (fun _ h => h.2)) (fun _ h => h.1)); have n1_ := Aside0.mk (Kd.R_mono (Kd.R_keep (IsS93.apart (show IsS93 w0 _ g s0_0 t533 t534 from by repeat ((with_reducible exact HI0.out))) (by (with_reducible repeat (fail)); exact HO_5.out) (by decide)) hk (fun _ h => h.2)) (fun _ h => h.1)); have n2_ := Aside0.mk (KeepBut.trans (by repeat ((with_reducible exact HK.out))) hk (.inl rfl)); have n3_ := Aside0.mk (hb); have n4_ := Aside0.mk (hi); clear HO_4; clear HO_5; clear HK; clear HB; clear HI0; have HO_4 := n0_; have HO_5 := n1_; have HK := n2_; have HB := n3_; have HI0 := n4_; clear n0_ n1_ n2_ n3_ n4_; (try clear hb); (try clear hk); (try clear hi); have p59 : 0 ≤ (t529 : Int) := of_decide_eq_true (by (with_reducible assumption)); have q59 : (t529 : Int) < ((x5_3.length : Int) : Int) := of_decide_eq_true (by (with_reducible assumption)); obtain ⟨go59, co59, eo59, gb59, gl59, cl59, HG59⟩ := Kd.R_form HO_5.out (by omega); (cases eo59); have GB59 := Aside0.mk gb59; have GG59 := Aside0.mk HG59; clear gb59 gl59 HG59; obtain ⟨ce59, hcl59, hM59, hcc59, hfr59⟩ := Kd.R_elem HO_5.out z58 (t529 : Int) p59 q59; obtain rfl := k58_openM hM59; have hx59_0 : w63.cell? ⟨go59, (t529 : Int).toNat * 4, none⟩ = some (.int .i64 ((rd_T58 x5_3 t529).f0)) := hcc59 0 _ rfl; have hx59_1 : w63.cell? ⟨go59, (t529 : Int).toNat * 4 + 1, none⟩ = some (.int .i64 ((rd_T58 x5_3 t529).f1)) := hcc59 1 _ rfl; have hx59_2 : w63.cell? ⟨go59, (t529 : Int).toNat * 4 + 2, none⟩ = some (.int .i64 ((rd_T58 x5_3 t529).f2)) := hcc59 2 _ rfl; have hx59_3 : w63.cell? ⟨go59, (t529 : Int).toNat * 4 + 3, none⟩ = some (.int .i64 ((rd_T58 x5_3 t529).f3)) := hcc59 3 _ rfl; have hf59_0 : w63.frozen? ⟨go59, (t529 : Int).toNat * 4, none⟩ = false := hfr59 0; have hf59_1 : w63.frozen? ⟨go59, (t529 : Int).toNat * 4 + 1, none⟩ = false := hfr59 1; have hf59_2 : w63.frozen? ⟨go59, (t529 : Int).toNat * 4 + 2, none⟩ = false := hfr59 2; have hf59_3 : w63.frozen? ⟨go59, (t529 : Int).toNat * 4 + 3, none⟩ = false := hfr59 3; clear hcl59 hcc59 hfr59 hM59; replace p59 := eq_true p59; replace q59 := eq_true q59; have HX64 := Aside0.mk (show Kd.R k58 58 w63 w.heap.size (fun _ => True) (.slice (some ⟨go59, 0, none⟩) x5_3.length co60) x5_3 from (by (with_reducible repeat (fail)); exact HO_5.out)); obtain ⟨ce64, hcl64, hM64, hcc64, hfr64⟩ := Kd.R_elem HX64.out z58 (t529 : Int) (of_decide_eq_true (by (with_reducible assumption))) (by have h_ : (t529 : Int) < ((x5_3.length : Int) : Int) := of_decide_eq_true (by (with_reducible assumption)); exact h_); obtain rfl := k58_openM hM64; have HP64 := Kd.R_seg HX64.out (t529 : Int) (of_decide_eq_true (by (with_reducible assumption))) (by have h_ : (t529 : Int) < ((x5_3.length : Int) : Int) := of_decide_eq_true (by (with_reducible assumption)); exact h_) (seg := [.int .i64 t547]) (j := 3) hcl64 hcc64 (show 4 ≤ 4 from by decide) (x' := (⟨(rd_T58 x5_3 t529).f0, (rd_T58 x5_3 t529).f1, (rd_T58 x5_3 t529).f2, t547⟩ : S58)) (k58_mkM _ _ _ (⟨(rd_T58 x5_3 t529).f0, (rd_T58 x5_3 t529).f1, (rd_T58 x5_3 t529).f2, t547⟩ : S58) ) (fun _ hk => hk); have hx64_3 := hcc64 3 _ rfl; (try simp only [show (k58).sz = 4 from rfl, Nat.mul_one, Nat.add_zero] at hx64_3); have hf64_3 := hfr64 3; (try simp only [show (k58).sz = 4 from rfl, Nat.mul_one, Nat.add_zero] at hf64_3); clear hcl64 hcc64 hfr64 hM64) | ((with_reducible refine gate_store (t := 2) (p := 61) rfl ?_); refine store_event (t := 2) (p := 61) (v := ?vo_w65) (w1 := (w63.setCell ⟨go59, (t529 : Int).toNat * 4 + 3, none⟩ (.int .i64 t547))) ?hg ?ho ?hn ?hr ?_; (case ho => rfl); (case hg => rfl); (case hn => rfl); (case hr => (go_simp; done)); intro w65 hw; have hg : w63.grownBy w65 (some go59) := (by rw [hw]; exact HP64.2); have hp_ : Kd.R k58 58 w65 w.heap.size (fun _ => True) (.slice (some ⟨go59, 0, none⟩) x5_3.length co60) y550 := (by rw [hw, Ny550.out]; exact HP64.1); clear HP64; have n0_ := Aside0.mk (Kd.R_over' (v := (.slice (some ⟨go59, 0, none⟩) x5_3.length co60)) (by (with_reducible repeat (fail)); exact HO_4.out) (Kd.R_typed HO_5.out) (by decide) hg); have n1_ := Aside0.mk (hp_); have n2_ := Aside0.mk (IsS93.grown (by repeat ((with_reducible exact HI0.out))) hg (IsS93.own_ne HI0.out HO_5.out (by decide))); have n3_ := Aside0.mk ((by rw [hw]; exact below_set (HB.out) (Nat.le_trans HL.out GB59.out) : Below w0.heap.size w0 w65)); have n4_ := Aside0.mk (KeepBut.trans (by repeat ((with_reducible exact HK.out))) (KeepBut.of_grown hg g) (Kd.R_base2 HO_5.out)); clear HO_4; clear HO_5; clear HI0; clear HB; clear HK; have HO_4 := n0_; have HO_5 := n1_; have HI0 := n2_; have HB := n3_; have HK := n4_; clear n0_ n1_ n2_ n3_ n4_; clear hg hw hp_))
            go_ret2
            exact ⟨_, _, by rfl, by (with_reducible repeat (fail)); exact HO_4.out, by (with_reducible repeat (fail)); exact HO_5.out, by repeat ((with_reducible exact HI0.out)), by repeat ((with_reducible exact HB.out)), by repeat ((with_reducible exact HK.out))⟩
           ·rw [if_neg c58] at H
            exact absurd H (by simp)
          ·rw [if_neg c57] at H
           exact absurd H (by simp)
         ·rw [if_neg c55] at H
          have c55b0 : (t532 == 3) = false := beq_eq_false_iff_ne.mpr c55
          have c55b1 : (t532 != 3) = true := bne_iff_ne.mpr c55
          by_cases c66 : t532 = 4
          ·rw [if_pos c66] at H
           have c66b0 : (t532 == 4) = true := beq_iff_eq.mpr c66
           have c66b1 : (t532 != 4) = false := bne_eq_false_iff_eq.mpr c66
           clear c66
           by_cases c67 : 0 ≤ t529
           ·rw [if_pos c67] at H
            have c67b0 : decide (0 ≤ t529) = true := decide_eq_true c67
            clear c67
            by_cases c68 : t529 < (x5_3.length : Int)
            ·rw [if_pos c68] at H
             have c68b0 : decide (t529 < (x5_3.length : Int)) = true := decide_eq_true c68
             clear c68
             by_cases c69 : x5_3.length < 4398046511104
             ·rw [if_pos c69] at H
              have LMc69 := Aside0.mk c69
              clear c69
              obtain ⟨y552, hy552⟩ : ∃ y_ : List (S58), y_ = (x5_3 ++ [(⟨(rd_T58 x5_3 t529).f0, (rd_T58 x5_3 t529).f1, (rd_T58 x5_3 t529).f2, (rd_T58 x5_3 t529).f3⟩ : S58)]) := ⟨_, rfl⟩
              replace H : (some (t512, y552, t533, t534)) = some (r1, r2, r3, r4) := by (rw [hy552]; with_reducible exact H)
              have Ny552 := Aside0.mk hy552
              clear hy552
              simp only [Option.some.injEq, Prod.mk.injEq] at H
              obtain ⟨rfl, rfl, rfl, rfl⟩ := H
              obtain ⟨Ao70, co70, eo70⟩ := Kd.R_slice HO_5.out
              subst eo70
              go_wp2_with (first | ((with_reducible refine gate_callee (f := 89) rfl ?_); refine goesL_ (some 25) rfl rfl Try.func89 (by kernel_rfl) rfl #[.pointer (some ⟨g, 0, none⟩), .int .i64 (x5_3.length : Int)] rfl (by (try simp only [map_toArray, map_cons, map_nil]); rfl) ?_; (with_reducible refine (spec_l1Below.calls g s0_0 x1001_12 x1002_12 (x5_3.length : Int) t529 t530 t531 w0 _ ?side1 ?side2 A20.out).mono ?_); (case side1 => repeat ((with_reducible exact HI0.out))); (case side2 => repeat ((with_reducible exact HB.out))); rintro e w71 ⟨rfl, hi, hb, hk⟩; refine ⟨_, rfl, ?_⟩; have n0_ := Aside0.mk (Kd.R_mono (Kd.R_keep (IsS93.apart (show IsS93 w0 _ g s0_0 x1001_12 x1002_12 from by repeat ((with_reducible exact HI0.out))) (by (with_reducible repeat (fail)); exact HO_4.out) (by decide)) hk (fun _ h => h.2)) (fun _ h => h.1)); have n1_ := Aside0.mk (Kd.R_mono (Kd.R_keep (IsS93.apart (show IsS93 w0 _ g s0_0 x1001_12 x1002_12 from by repeat ((with_reducible exact HI0.out))) (by (with_reducible repeat (fail)); exact HO_5.out) (by decide)) hk (fun _ h => h.2)) (fun _ h => h.1)); have n2_ := Aside0.mk (KeepBut.trans (by repeat ((with_reducible exact HK.out))) hk (.inl rfl)); have n3_ := Aside0.mk (hb); have n4_ := Aside0.mk (hi); clear HO_4; clear HO_5; clear HK; clear HB; clear HI0; have HO_4 := n0_; have HO_5 := n1_; have HK := n2_; have HB := n3_; have HI0 := n4_; clear n0_ n1_ n2_ n3_ n4_; (try clear hb); (try clear hk); (try clear hi)) | ((with_reducible refine gate_callee (f := 89) rfl ?_); refine goesL_ (some 27) rfl rfl Try.func89 (by kernel_rfl) rfl #[.pointer (some ⟨g, 0, none⟩), .int .i64 5] rfl (by (try simp only [map_toArray, map_cons, map_nil]); rfl) ?_; (with_reducible refine (spec_l1Below.calls g s0_0 t530 t531 5 t532 t533 t534 w0 _ ?side1 ?side2 A21.out).mono ?_); (case side1 => repeat ((with_reducible exact HI0.out))); (case side2 => repeat ((with_reducible exact HB.out))); rintro e w72 ⟨rfl, hi, hb, hk⟩; refine ⟨_, rfl, ?_⟩; have n0_ := Aside0.mk (Kd.R_mono (Kd.R_keep (IsS93.apart (show IsS93 w0 _ g s0_0 t530 t531 from by repeat ((with_reducible exact HI0.out))) (by (with_reducible repeat (fail)); exact HO_4.out) (by decide)) hk (fun _ h => h.2)) (fun _ h => h.1)); have n1_ := Aside0.mk (Kd.R_mono (Kd.R_keep (IsS93.apart (show IsS93 w0 _ g s0_0 t530 t531 from by repeat ((with_reducible exact HI0.out))) (by (with_reducible repeat (fail)); exact HO_5.out) (by decide)) hk (fun _ h => h.2)) (fun _ h => h.1)); have n2_ := Aside0.mk (KeepBut.trans (by repeat ((with_reducible exact HK.out))) hk (.inl rfl)); have n3_ := Aside0.mk (hb); have n4_ := Aside0.mk (hi); clear HO_4; clear HO_5; clear HK; clear HB; clear HI0; have HO_4 := n0_; have HO_5 := n1_; have HK := n2_; have HB := n3_; have HI0 := n4_; clear n0_ n1_ n2_ n3_ n4_; (try clear hb); (try clear hk); (try clear hi); have p551 : 0 ≤ (t529 : Int) := of_decide_eq_true (by (with_reducible assumption)); have q551 : t529 < (x5_3.length : Int) := of_decide_eq_true (by (with_reducible assumption)); obtain ⟨ad551, e551, hx551_0, hx551_1, hx551_2, hx551_3⟩ := at_T58 (R_reads' HO_5.out).2.2 t529 p551 q551; cases e551; replace p551 := eq_true p551; replace q551 := eq_true q551) | ((with_reducible refine gate_builtin (b := .append) (xs := #[.tmp 64, .tmp 69]) rfl ?_); (try (refine gate_guard (by rfl) ?_; dsimp only)); at_builtin; refine Kd.R_append k58 w.heap.size rfl (.tmp 64) (.tmp 69) 53 58 (.agg #[(.int .i64 0), (.int .i64 0), (.int .i64 0), (.int .i64 0)]) 32 rfl Try.underlying53 info58 rfl (by decide) (by omega) (.slice (some ad551) x5_3.length co70) x5_3 (⟨(rd_T58 x5_3 t529).f0, (rd_T58 x5_3 t529).f1, (rd_T58 x5_3 t529).f2, (rd_T58 x5_3 t529).f3⟩ : S58) [.int .i64 ((rd_T58 x5_3 t529).f0), .int .i64 ((rd_T58 x5_3 t529).f1), .int .i64 ((rd_T58 x5_3 t529).f2), .int .i64 ((rd_T58 x5_3 t529).f3)] (fun _ => True) (fun _ => False) rfl rfl ?aP (fun _ hk => hk.elim) ?aF ?aO (Below.refl _ _) ?aS ?aL ?_; (case aP => exact k58_mkM _ _ _ (⟨(rd_T58 x5_3 t529).f0, (rd_T58 x5_3 t529).f1, (rd_T58 x5_3 t529).f2, (rd_T58 x5_3 t529).f3⟩ : S58)); (case aF => exact (fun _ _ => trivial)); (case aO => exact (by (with_reducible repeat (fail)); exact HO_5.out)); (case aS => exact (keep_size (w := w) (g := g) (row := none) (by repeat ((with_reducible exact HK.out))))); (case aL => have := LMc69.out; omega); intro v553 w73 ho hb hg hat; rw [← Ny552.out] at ho; have n0_ := Aside0.mk (Kd.R_over' (by (with_reducible repeat (fail)); exact HO_4.out) (Kd.R_typed (by (with_reducible repeat (fail)); exact HO_5.out)) (by decide) hg); have n1_ := Aside0.mk (IsS93.grown (by repeat ((with_reducible exact HI0.out))) hg (IsS93.own_ne HI0.out HO_5.out (by decide))); have n2_ := Aside0.mk (below_weaken (by repeat ((with_reducible exact HB.out))) HL.out hb); have n3_ := Aside0.mk (KeepBut.trans (by repeat ((with_reducible exact HK.out))) (KeepBut.of_grown hg g) (Kd.R_base2 HO_5.out)); have n4_ := Aside0.mk (ho); clear HO_4; clear HI0; clear HB; clear HK; clear HO_5; have HO_4 := n0_; have HI0 := n1_; have HB := n2_; have HK := n3_; have HO554 := n4_; clear n0_ n1_ n2_ n3_ n4_; clear ho hb hg hat))
              go_ret2
              exact ⟨_, _, by rfl, by (with_reducible repeat (fail)); exact HO_4.out, by (with_reducible repeat (fail)); exact HO554.out, by repeat ((with_reducible exact HI0.out)), by repeat ((with_reducible exact HB.out)), by repeat ((with_reducible exact HK.out))⟩
             ·rw [if_neg c69] at H
              exact absurd H (by simp)
            ·rw [if_neg c68] at H
             exact absurd H (by simp)
           ·rw [if_neg c67] at H
            exact absurd H (by simp)
          ·rw [if_neg c66] at H
           have c66b0 : (t532 == 4) = false := beq_eq_false_iff_ne.mpr c66
           have c66b1 : (t532 != 4) = true := bne_iff_ne.mpr c66
           simp only [Option.some.injEq, Prod.mk.injEq] at H
           obtain ⟨rfl, rfl, rfl, rfl⟩ := H
           obtain ⟨Ao74, co74, eo74⟩ := Kd.R_slice HO_5.out
           subst eo74
           go_wp2_with (first | ((with_reducible refine gate_callee (f := 89) rfl ?_); refine goesL_ (some 25) rfl rfl Try.func89 (by kernel_rfl) rfl #[.pointer (some ⟨g, 0, none⟩), .int .i64 (x5_3.length : Int)] rfl (by (try simp only [map_toArray, map_cons, map_nil]); rfl) ?_; (with_reducible refine (spec_l1Below.calls g s0_0 x1001_12 x1002_12 (x5_3.length : Int) t529 t530 t531 w0 _ ?side1 ?side2 A20.out).mono ?_); (case side1 => repeat ((with_reducible exact HI0.out))); (case side2 => repeat ((with_reducible exact HB.out))); rintro e w75 ⟨rfl, hi, hb, hk⟩; refine ⟨_, rfl, ?_⟩; have n0_ := Aside0.mk (Kd.R_mono (Kd.R_keep (IsS93.apart (show IsS93 w0 _ g s0_0 x1001_12 x1002_12 from by repeat ((with_reducible exact HI0.out))) (by (with_reducible repeat (fail)); exact HO_4.out) (by decide)) hk (fun _ h => h.2)) (fun _ h => h.1)); have n1_ := Aside0.mk (Kd.R_mono (Kd.R_keep (IsS93.apart (show IsS93 w0 _ g s0_0 x1001_12 x1002_12 from by repeat ((with_reducible exact HI0.out))) (by (with_reducible repeat (fail)); exact HO_5.out) (by decide)) hk (fun _ h => h.2)) (fun _ h => h.1)); have n2_ := Aside0.mk (KeepBut.trans (by repeat ((with_reducible exact HK.out))) hk (.inl rfl)); have n3_ := Aside0.mk (hb); have n4_ := Aside0.mk (hi); clear HO_4; clear HO_5; clear HK; clear HB; clear HI0; have HO_4 := n0_; have HO_5 := n1_; have HK := n2_; have HB := n3_; have HI0 := n4_; clear n0_ n1_ n2_ n3_ n4_; (try clear hb); (try clear hk); (try clear hi)) | ((with_reducible refine gate_callee (f := 89) rfl ?_); refine goesL_ (some 27) rfl rfl Try.func89 (by kernel_rfl) rfl #[.pointer (some ⟨g, 0, none⟩), .int .i64 5] rfl (by (try simp only [map_toArray, map_cons, map_nil]); rfl) ?_; (with_reducible refine (spec_l1Below.calls g s0_0 t530 t531 5 t532 t533 t534 w0 _ ?side1 ?side2 A21.out).mono ?_); (case side1 => repeat ((with_reducible exact HI0.out))); (case side2 => repeat ((with_reducible exact HB.out))); rintro e w76 ⟨rfl, hi, hb, hk⟩; refine ⟨_, rfl, ?_⟩; have n0_ := Aside0.mk (Kd.R_mono (Kd.R_keep (IsS93.apart (show IsS93 w0 _ g s0_0 t530 t531 from by repeat ((with_reducible exact HI0.out))) (by (with_reducible repeat (fail)); exact HO_4.out) (by decide)) hk (fun _ h => h.2)) (fun _ h => h.1)); have n1_ := Aside0.mk (Kd.R_mono (Kd.R_keep (IsS93.apart (show IsS93 w0 _ g s0_0 t530 t531 from by repeat ((with_reducible exact HI0.out))) (by (with_reducible repeat (fail)); exact HO_5.out) (by decide)) hk (fun _ h => h.2)) (fun _ h => h.1)); have n2_ := Aside0.mk (KeepBut.trans (by repeat ((with_reducible exact HK.out))) hk (.inl rfl)); have n3_ := Aside0.mk (hb); have n4_ := Aside0.mk (hi); clear HO_4; clear HO_5; clear HK; clear HB; clear HI0; have HO_4 := n0_; have HO_5 := n1_; have HK := n2_; have HB := n3_; have HI0 := n4_; clear n0_ n1_ n2_ n3_ n4_; (try clear hb); (try clear hk); (try clear hi)))
           go_ret2
           exact ⟨_, _, by rfl, by (with_reducible repeat (fail)); exact HO_4.out, by (with_reducible repeat (fail)); exact HO_5.out, by repeat ((with_reducible exact HI0.out)), by repeat ((with_reducible exact HB.out)), by repeat ((with_reducible exact HK.out))⟩
     ·replace c19 := Bool.eq_false_iff.mpr c19
      subst c19
      have H1 : (some (t512, x5_3, x1001_12, x1002_12)) = some (r1, r2, r3, r4) := by rw [if_neg (show ¬ (false = true) by decide)] at H; exact H
      clear H
      have H := H1
      clear H1
      simp only [Option.some.injEq, Prod.mk.injEq] at H
      obtain ⟨rfl, rfl, rfl, rfl⟩ := H
      go_wp2
      go_ret2
      exact ⟨_, _, by rfl, by (with_reducible repeat (fail)); exact HO_4.out, by (with_reducible repeat (fail)); exact HO_5.out, by repeat ((with_reducible exact HI0.out)), by repeat ((with_reducible exact HB.out)), by repeat ((with_reducible exact HK.out))⟩
end Go.Proofs.Ytcndchcepajmjaa.PFnLetGo
