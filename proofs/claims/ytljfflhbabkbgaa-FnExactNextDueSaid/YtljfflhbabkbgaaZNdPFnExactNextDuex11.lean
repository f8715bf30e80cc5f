/- Texts of the claim of the law FnExactNextDue, made smaller by a program of this session: what the claim does not use is left out. No condition. -/
import Derived.Test.YtljfflhbabkbgaaZNdPFnExactNextDuex0
import Derived.Test.YtljfflhbabkbgaaZNdPFnExactNextDuex10
namespace Go.Proofs.Ytljfflhbabkbgaa.PFnExactNextDue
open Go.RowKit Go.Proofs.YtljfflhbabkbgaaW.PrintWords Go.Proofs.YtljfflhbabkbgaaW.PrintLast Go.Proofs.YtljfflhbabkbgaaW.PrintMore
open Option (bind_eq_some_iff)
open Go.World (block_lt_of_cell?)
open Kd (C_below)
attribute [local go_sem] max2_int min2_int max_two min_two max_three min_three max_four min_four   -- for this text's walks alone
set_option linter.unusedVariables false
set_option linter.unusedSimpArgs false
def impl_TimersOk_1.c (k : Nat) (a0_0 : Int) (a0_1 : Int) (a0_2 : Int) (m0 : List (S31)) (m1 : List (S81)) (b2 : Int) : Option (Bool) := (impl_Timers_at.f k m0 m1 b2 a0_1).bind fun t => if t < 0 then (some true) else (if 0 ≤ t then (if t < (m1.length : Int) then (if (rd_T81 m1 t).f4 = true then (if (rd_T81 m1 t).f1 = a0_0 then (some false) else (some true)) else (some true)) else (none)) else (none))
def impl_TimersOk_1.l0 : Nat → List (S31) → List (S31) → List (S81) → Int → Int → Int → Option (Int)
  | 0, _, _, _, _, _, _ => none
  | k + 1, x0, m0, m1, b2, x7, x8 => if x8 < x7 then (if 0 ≤ x8 then (if x8 < (x0.length : Int) then ((impl_TimersOk_1.c k ((rd_T31 x0 x8).f0) ((rd_T31 x0 x8).f1) ((rd_T31 x0 x8).f2) m0 m1 b2).bind fun t156 => (if t156 = true then (some x8) else (impl_TimersOk_1.l0 k x0 m0 m1 b2 x7 (wrap64 (x8 + 1))))) else (none)) else (none)) else (some (-1))
def impl_TimersOk_1.i (k : Nat) (l0 : List (S31)) (m0 : List (S31)) (m1 : List (S81)) (b2 : Int) : Option (Int) := impl_TimersOk_1.l0 k l0 m0 m1 b2 (l0.length : Int) 0
def impl_TimersOk_1.f (k : Nat) (m0 : List (S31)) (m1 : List (S81)) (b2 : Int) : Option (Bool) := (impl_TimersOk_1.i k m0 m0 m1 b2).bind fun t => some (decide (t ≥ 0))
set_option maxHeartbeats 8000000 in
set_option maxRecDepth 100000 in
theorem impl_TimersOk_1.callsC (k : Nat) (a0_0 : Int) (a0_1 : Int) (a0_2 : Int) (M0 : Option Addr) (d0 : Nat) (m0 : List (S31)) (M1 : Option Addr) (d1 : Nat) (m1 : List (S81)) (b2 : Int) (g_ : Nat) (r : Bool) (w : World) (hr1 : Kd.C k31 w M0 m0.length m0) (hc1 : m0.length ≤ d0) (hr2 : Kd.C k81 w M1 m1.length m1) (hc2 : m1.length ≤ d1) (hg_ : w.heap[g_]? = some (.cells #[.slice M0 m0.length d0, .slice M1 m1.length d1, .int .i64 b2] 48 (0, 0))) (h : impl_TimersOk_1.c k a0_0 a0_1 a0_2 m0 m1 b2 = some r) :
    Calls Try.prog 68 #[.agg #[.int .i64 a0_0, .int .i64 a0_1, .int .i64 a0_2], .pointer (some ⟨g_, 0, none⟩)] w fun e w' => e = .returned (.bool r) ∧ Below w.heap.size w w' := by
  have hu31 := Try.underlying31
  have hu48 := Try.underlying48
  have hu81 := Try.underlying81
  have HR1 := Aside0.mk hr1
  have HC1 := Aside0.mk hc1
  have HR2 := Aside0.mk hr2
  have HC2 := Aside0.mk hc2
  have HG := Aside0.mk hg_
  clear hr1 hc1 hr2 hc2 hg_
  have HB := Aside0.mk (Below.refl w.heap.size w)
  have H := bind_eq_some_iff.mp h
  clear h
  obtain ⟨t, A30, H⟩ := H
  have A3 := Aside0.mk A30
  clear A30
  by_cases c1 : t < 0
  · rw [if_pos c1] at H
    obtain rfl := Option.some.inj H
    clear H
    have c1b0 : decide (t < 0) = true := decide_eq_true c1
    clear c1
    go_enter Try.func68, Try.ntmps68
    go_wp2_with (first | ((with_reducible refine gate_dst (N := 2) rfl ?_); refine box_event ?hg (N := 2) ?hd (cs := #[.int .i64 a0_0, .int .i64 a0_1, .int .i64 a0_2]) (t := 31) ?hr ?_; (case hd => rfl); (case hg => rfl); (case hr => first | (go_simp; done) | (go_simp; rfl)); intro gb154 hg w3 hbox hb; have n0_ := Aside0.mk (below_step HB.out hb); have n1_ := Aside0.mk (blk_below HG.out hb); have n2_ := Aside0.mk hbox; clear HB HG; have HB := n0_; have HG := n1_; have HX := n2_; clear n0_ n1_ n2_; have hz0 : w3.cell? ⟨gb154, 0, none⟩ = some (.int .i64 a0_0) := (blk_cell HX.out 0).trans rfl; have hz1 : w3.cell? ⟨gb154, 1, none⟩ = some (.int .i64 a0_1) := (blk_cell HX.out 1).trans rfl; have hz2 : w3.cell? ⟨gb154, 2, none⟩ = some (.int .i64 a0_2) := (blk_cell HX.out 2).trans rfl; have hz3 : w3.cell? ⟨g_, 0, none⟩ = some (.slice M0 m0.length d0) := (blk_cell HG.out 0).trans rfl; have hz4 : w3.cell? ⟨g_, 1, none⟩ = some (.slice M1 m1.length d1) := (blk_cell HG.out 1).trans rfl; have hz5 : w3.cell? ⟨g_, 2, none⟩ = some (.int .i64 b2) := (blk_cell HG.out 2).trans rfl; clear hb hbox hg) | (go_at_call 69; (with_reducible refine (impl_Timers_at.calls k M0 d0 m0 M1 d1 m1 b2 a0_1 t _ ?s1 ?s2 ?s3 ?s4 A3.out).mono ?_); (case s1 => exact C_below HR1.out HB.out); (case s2 => exact HC1.out); (case s3 => exact C_below HR2.out HB.out); (case s4 => exact HC2.out); rintro e w4 ⟨rfl, hb⟩; have n0_ := Aside0.mk (below_step HB.out hb); have n1_ := Aside0.mk (blk_below HG.out hb); have n2_ := Aside0.mk (blk_below HX.out hb); clear HB HG HX; have HB := n0_; have HG := n1_; have HX := n2_; clear n0_ n1_ n2_ hb; have hy0 : w4.cell? ⟨gb154, 0, none⟩ = some (.int .i64 a0_0) := (blk_cell HX.out 0).trans rfl; have hy1 : w4.cell? ⟨gb154, 1, none⟩ = some (.int .i64 a0_1) := (blk_cell HX.out 1).trans rfl; have hy2 : w4.cell? ⟨gb154, 2, none⟩ = some (.int .i64 a0_2) := (blk_cell HX.out 2).trans rfl; have hy3 : w4.cell? ⟨g_, 0, none⟩ = some (.slice M0 m0.length d0) := (blk_cell HG.out 0).trans rfl; have hy4 : w4.cell? ⟨g_, 1, none⟩ = some (.slice M1 m1.length d1) := (blk_cell HG.out 1).trans rfl; have hy5 : w4.cell? ⟨g_, 2, none⟩ = some (.int .i64 b2) := (blk_cell HG.out 2).trans rfl))
    repeat (go_quiet (fail); try go_wp2)
    go_ret
    exact ⟨by first | rfl | (simp; done) | (simp [*]; done), by repeat (first | exact HB.out | apply bwN | apply bw1)⟩
  · rw [if_neg c1] at H
    rw [if_pos (show 0 ≤ t by omega)] at H
    by_cases c3 : t < (m1.length : Int)
    rotate_left
    · rw [if_neg c3] at H
      cases H
    rw [if_pos c3] at H
    have p0_ : 0 ≤ t := by omega
    obtain ⟨ad_, e_, hx_0, hx_1, hx_2, hx_3, hx_4⟩ := at_T81 HR2.out t p0_ c3
    cases e_
    have c1b0 : decide (t < 0) = false := decide_eq_false c1
    have c3b0 : decide (0 ≤ t) = true := decide_eq_true p0_
    have c4b0 : decide (t < (m1.length : Int)) = true := decide_eq_true c3
    have p_ := eq_true p0_
    have q_ := eq_true c3
    clear p0_ c3 c1
    by_cases c5 : (rd_T81 m1 t).f4 = true
    · rw [if_pos c5] at H
      by_cases c6 : (rd_T81 m1 t).f1 = a0_0
      · rw [if_pos c6] at H
        obtain rfl := Option.some.inj H
        clear H
        have c6b0 : ((rd_T81 m1 t).f1 == a0_0) = true := beq_iff_eq.mpr c6
        have c6b1 : ((rd_T81 m1 t).f1 != a0_0) = false := bne_eq_false_iff_eq.mpr c6
        have E6 := Aside0.mk c6
        clear c6
        go_enter Try.func68, Try.ntmps68
        go_wp2_with (first | ((with_reducible refine gate_dst (N := 2) rfl ?_); refine box_event ?hg (N := 2) ?hd (cs := #[.int .i64 a0_0, .int .i64 a0_1, .int .i64 a0_2]) (t := 31) ?hr ?_; (case hd => rfl); (case hg => rfl); (case hr => first | (go_simp; done) | (go_simp; rfl)); intro gb154 hg w3 hbox hb; have n0_ := Aside0.mk (below_step HB.out hb); have n1_ := Aside0.mk (blk_below HG.out hb); have n2_ := Aside0.mk hbox; clear HB HG; have HB := n0_; have HG := n1_; have HX := n2_; clear n0_ n1_ n2_; have hz0 : w3.cell? ⟨gb154, 0, none⟩ = some (.int .i64 a0_0) := (blk_cell HX.out 0).trans rfl; have hz1 : w3.cell? ⟨gb154, 1, none⟩ = some (.int .i64 a0_1) := (blk_cell HX.out 1).trans rfl; have hz2 : w3.cell? ⟨gb154, 2, none⟩ = some (.int .i64 a0_2) := (blk_cell HX.out 2).trans rfl; have hz3 : w3.cell? ⟨g_, 0, none⟩ = some (.slice M0 m0.length d0) := (blk_cell HG.out 0).trans rfl; have hz4 : w3.cell? ⟨g_, 1, none⟩ = some (.slice (some ad_) m1.length d1) := (blk_cell HG.out 1).trans rfl; have hz5 : w3.cell? ⟨g_, 2, none⟩ = some (.int .i64 b2) := (blk_cell HG.out 2).trans rfl; clear hb hbox hg) | (go_at_call 69; (with_reducible refine (impl_Timers_at.calls k M0 d0 m0 (some ad_) d1 m1 b2 a0_1 t _ ?s1 ?s2 ?s3 ?s4 A3.out).mono ?_); (case s1 => exact C_below HR1.out HB.out); (case s2 => exact HC1.out); (case s3 => exact C_below HR2.out HB.out); (case s4 => exact HC2.out); rintro e w4 ⟨rfl, hb⟩; have n0_ := Aside0.mk (below_step HB.out hb); have n1_ := Aside0.mk (blk_below HG.out hb); have n2_ := Aside0.mk (blk_below HX.out hb); clear HB HG HX; have HB := n0_; have HG := n1_; have HX := n2_; clear n0_ n1_ n2_ hb; have hy0 : w4.cell? ⟨gb154, 0, none⟩ = some (.int .i64 a0_0) := (blk_cell HX.out 0).trans rfl; have hy1 : w4.cell? ⟨gb154, 1, none⟩ = some (.int .i64 a0_1) := (blk_cell HX.out 1).trans rfl; have hy2 : w4.cell? ⟨gb154, 2, none⟩ = some (.int .i64 a0_2) := (blk_cell HX.out 2).trans rfl; have hy3 : w4.cell? ⟨g_, 0, none⟩ = some (.slice M0 m0.length d0) := (blk_cell HG.out 0).trans rfl; have hy4 : w4.cell? ⟨g_, 1, none⟩ = some (.slice (some ad_) m1.length d1) := (blk_cell HG.out 1).trans rfl; have hy5 : w4.cell? ⟨g_, 2, none⟩ = some (.int .i64 b2) := (blk_cell HG.out 2).trans rfl; have hv_0 := (HB.out.cell (block_lt_of_cell? w _ hx_0)).trans hx_0; have hv_1 := (HB.out.cell (block_lt_of_cell? w _ hx_1)).trans hx_1; have hv_2 := (HB.out.cell (block_lt_of_cell? w _ hx_2)).trans hx_2; have hv_3 := (HB.out.cell (block_lt_of_cell? w _ hx_3)).trans hx_3; have hv_4 := (HB.out.cell (block_lt_of_cell? w _ hx_4)).trans hx_4))
        repeat (go_quiet (fail); try go_wp2)
        go_ret
        exact ⟨by first | rfl | (simp; done) | (simp [*]; done), by repeat (first | exact HB.out | apply bwN | apply bw1)⟩
      · rw [if_neg c6] at H
        obtain rfl := Option.some.inj H
        clear H
        have c6b0 : ((rd_T81 m1 t).f1 == a0_0) = false := beq_eq_false_iff_ne.mpr c6
        have c6b1 : ((rd_T81 m1 t).f1 != a0_0) = true := bne_iff_ne.mpr c6
        clear c6
        go_enter Try.func68, Try.ntmps68
        go_wp2_with (first | ((with_reducible refine gate_dst (N := 2) rfl ?_); refine box_event ?hg (N := 2) ?hd (cs := #[.int .i64 a0_0, .int .i64 a0_1, .int .i64 a0_2]) (t := 31) ?hr ?_; (case hd => rfl); (case hg => rfl); (case hr => first | (go_simp; done) | (go_simp; rfl)); intro gb154 hg w3 hbox hb; have n0_ := Aside0.mk (below_step HB.out hb); have n1_ := Aside0.mk (blk_below HG.out hb); have n2_ := Aside0.mk hbox; clear HB HG; have HB := n0_; have HG := n1_; have HX := n2_; clear n0_ n1_ n2_; have hz0 : w3.cell? ⟨gb154, 0, none⟩ = some (.int .i64 a0_0) := (blk_cell HX.out 0).trans rfl; have hz1 : w3.cell? ⟨gb154, 1, none⟩ = some (.int .i64 a0_1) := (blk_cell HX.out 1).trans rfl; have hz2 : w3.cell? ⟨gb154, 2, none⟩ = some (.int .i64 a0_2) := (blk_cell HX.out 2).trans rfl; have hz3 : w3.cell? ⟨g_, 0, none⟩ = some (.slice M0 m0.length d0) := (blk_cell HG.out 0).trans rfl; have hz4 : w3.cell? ⟨g_, 1, none⟩ = some (.slice (some ad_) m1.length d1) := (blk_cell HG.out 1).trans rfl; have hz5 : w3.cell? ⟨g_, 2, none⟩ = some (.int .i64 b2) := (blk_cell HG.out 2).trans rfl; clear hb hbox hg) | (go_at_call 69; (with_reducible refine (impl_Timers_at.calls k M0 d0 m0 (some ad_) d1 m1 b2 a0_1 t _ ?s1 ?s2 ?s3 ?s4 A3.out).mono ?_); (case s1 => exact C_below HR1.out HB.out); (case s2 => exact HC1.out); (case s3 => exact C_below HR2.out HB.out); (case s4 => exact HC2.out); rintro e w4 ⟨rfl, hb⟩; have n0_ := Aside0.mk (below_step HB.out hb); have n1_ := Aside0.mk (blk_below HG.out hb); have n2_ := Aside0.mk (blk_below HX.out hb); clear HB HG HX; have HB := n0_; have HG := n1_; have HX := n2_; clear n0_ n1_ n2_ hb; have hy0 : w4.cell? ⟨gb154, 0, none⟩ = some (.int .i64 a0_0) := (blk_cell HX.out 0).trans rfl; have hy1 : w4.cell? ⟨gb154, 1, none⟩ = some (.int .i64 a0_1) := (blk_cell HX.out 1).trans rfl; have hy2 : w4.cell? ⟨gb154, 2, none⟩ = some (.int .i64 a0_2) := (blk_cell HX.out 2).trans rfl; have hy3 : w4.cell? ⟨g_, 0, none⟩ = some (.slice M0 m0.length d0) := (blk_cell HG.out 0).trans rfl; have hy4 : w4.cell? ⟨g_, 1, none⟩ = some (.slice (some ad_) m1.length d1) := (blk_cell HG.out 1).trans rfl; have hy5 : w4.cell? ⟨g_, 2, none⟩ = some (.int .i64 b2) := (blk_cell HG.out 2).trans rfl; have hv_0 := (HB.out.cell (block_lt_of_cell? w _ hx_0)).trans hx_0; have hv_1 := (HB.out.cell (block_lt_of_cell? w _ hx_1)).trans hx_1; have hv_2 := (HB.out.cell (block_lt_of_cell? w _ hx_2)).trans hx_2; have hv_3 := (HB.out.cell (block_lt_of_cell? w _ hx_3)).trans hx_3; have hv_4 := (HB.out.cell (block_lt_of_cell? w _ hx_4)).trans hx_4))
        repeat (go_quiet (fail); try go_wp2)
        go_ret
        exact ⟨by first | rfl | (simp; done) | (simp [*]; done), by repeat (first | exact HB.out | apply bwN | apply bw1)⟩
    · rw [if_neg c5] at H
      obtain rfl := Option.some.inj H
      clear H
      replace c5 := Bool.eq_false_iff.mpr c5
      go_enter Try.func68, Try.ntmps68
      go_wp2_with (first | ((with_reducible refine gate_dst (N := 2) rfl ?_); refine box_event ?hg (N := 2) ?hd (cs := #[.int .i64 a0_0, .int .i64 a0_1, .int .i64 a0_2]) (t := 31) ?hr ?_; (case hd => rfl); (case hg => rfl); (case hr => first | (go_simp; done) | (go_simp; rfl)); intro gb154 hg w3 hbox hb; have n0_ := Aside0.mk (below_step HB.out hb); have n1_ := Aside0.mk (blk_below HG.out hb); have n2_ := Aside0.mk hbox; clear HB HG; have HB := n0_; have HG := n1_; have HX := n2_; clear n0_ n1_ n2_; have hz0 : w3.cell? ⟨gb154, 0, none⟩ = some (.int .i64 a0_0) := (blk_cell HX.out 0).trans rfl; have hz1 : w3.cell? ⟨gb154, 1, none⟩ = some (.int .i64 a0_1) := (blk_cell HX.out 1).trans rfl; have hz2 : w3.cell? ⟨gb154, 2, none⟩ = some (.int .i64 a0_2) := (blk_cell HX.out 2).trans rfl; have hz3 : w3.cell? ⟨g_, 0, none⟩ = some (.slice M0 m0.length d0) := (blk_cell HG.out 0).trans rfl; have hz4 : w3.cell? ⟨g_, 1, none⟩ = some (.slice (some ad_) m1.length d1) := (blk_cell HG.out 1).trans rfl; have hz5 : w3.cell? ⟨g_, 2, none⟩ = some (.int .i64 b2) := (blk_cell HG.out 2).trans rfl; clear hb hbox hg) | (go_at_call 69; (with_reducible refine (impl_Timers_at.calls k M0 d0 m0 (some ad_) d1 m1 b2 a0_1 t _ ?s1 ?s2 ?s3 ?s4 A3.out).mono ?_); (case s1 => exact C_below HR1.out HB.out); (case s2 => exact HC1.out); (case s3 => exact C_below HR2.out HB.out); (case s4 => exact HC2.out); rintro e w4 ⟨rfl, hb⟩; have n0_ := Aside0.mk (below_step HB.out hb); have n1_ := Aside0.mk (blk_below HG.out hb); have n2_ := Aside0.mk (blk_below HX.out hb); clear HB HG HX; have HB := n0_; have HG := n1_; have HX := n2_; clear n0_ n1_ n2_ hb; have hy0 : w4.cell? ⟨gb154, 0, none⟩ = some (.int .i64 a0_0) := (blk_cell HX.out 0).trans rfl; have hy1 : w4.cell? ⟨gb154, 1, none⟩ = some (.int .i64 a0_1) := (blk_cell HX.out 1).trans rfl; have hy2 : w4.cell? ⟨gb154, 2, none⟩ = some (.int .i64 a0_2) := (blk_cell HX.out 2).trans rfl; have hy3 : w4.cell? ⟨g_, 0, none⟩ = some (.slice M0 m0.length d0) := (blk_cell HG.out 0).trans rfl; have hy4 : w4.cell? ⟨g_, 1, none⟩ = some (.slice (some ad_) m1.length d1) := (blk_cell HG.out 1).trans rfl; have hy5 : w4.cell? ⟨g_, 2, none⟩ = some (.int .i64 b2) := (blk_cell HG.out 2).trans rfl; have hv_0 := (HB.out.cell (block_lt_of_cell? w _ hx_0)).trans hx_0; have hv_1 := (HB.out.cell (block_lt_of_cell? w _ hx_1)).trans hx_1; have hv_2 := (HB.out.cell (block_lt_of_cell? w _ hx_2)).trans hx_2; have hv_3 := (HB.out.cell (block_lt_of_cell? w _ hx_3)).trans hx_3; have hv_4 := (HB.out.cell (block_lt_of_cell? w _ hx_4)).trans hx_4))
      repeat (go_quiet (fail); try go_wp2)
      go_ret
      exact ⟨by first | rfl | (simp; done) | (simp [*]; done), by repeat (first | exact HB.out | apply bwN | apply bw1)⟩
set_option maxHeartbeats 8000000 in
set_option maxRecDepth 100000 in
theorem impl_TimersOk_1.callsI (k : Nat) (A0 : Option Addr) (c0 : Nat) (l0 : List (S31)) (M0 : Option Addr) (d0 : Nat) (m0 : List (S31)) (M1 : Option Addr) (d1 : Nat) (m1 : List (S81)) (b2 : Int) (g_ : Nat) (r : Int) (w : World) (hr0 : Kd.C k31 w A0 l0.length l0) (hc0 : l0.length ≤ c0) (hr1 : Kd.C k31 w M0 m0.length m0) (hc1 : m0.length ≤ d0) (hr2 : Kd.C k81 w M1 m1.length m1) (hc2 : m1.length ≤ d1) (hg_ : w.heap[g_]? = some (.cells #[.slice M0 m0.length d0, .slice M1 m1.length d1, .int .i64 b2] 48 (0, 0))) (h : impl_TimersOk_1.i k l0 m0 m1 b2 = some r) :
    Calls Try.prog 83 #[.slice A0 l0.length c0, .func (.func 68) #[] #[.pointer (some ⟨g_, 0, none⟩)]] w fun e w' => e = .returned (.int .i64 r) ∧ Below w.heap.size w w' := by
  have HG := Aside0.mk hg_
  have HR0 := Aside0.mk hr0
  have HC0 := Aside0.mk hc0
  have HR1 := Aside0.mk hr1
  have HC1 := Aside0.mk hc1
  have HR2 := Aside0.mk hr2
  have HC2 := Aside0.mk hc2
  clear hr0 hc0 hg_ hr1 hc1 hr2 hc2
  have HB := Aside0.mk (Below.refl w.heap.size w)
  have H : (impl_TimersOk_1.l0 k l0 m0 m1 b2 (l0.length : Int) 0) = some r := h
  clear h
  have H' := Aside0.mk H
  clear H
  go_enter Try.func83, Try.ntmps83
  go_wp2
  go_loopg [8] k (fun kq v6 w' => ∃ (x_1 : Int), v6 = .int .i64 x_1 ∧ Aside0 (impl_TimersOk_1.l0 kq l0 m0 m1 b2 (l0.length : Int) x_1 = some r) ∧ Aside0 (kq ≤ k) ∧ Aside0 (Below w.heap.size w w'))
  case atStart => exact ⟨(0), (by first | rfl | (simp; done) | (simp [*]; done)), H', ⟨Nat.le_refl _⟩, ⟨HB.out⟩⟩
  case round =>
    clear H'
    obtain ⟨x_1, rfl, HA, HK1, HB⟩ := hrel
    cases gk with
    | zero => exact absurd HA.out (by simp [impl_TimersOk_1.l0])
    | succ k1 =>
      have H := HA.out
      clear HA
      simp only [impl_TimersOk_1.l0] at H
      by_cases c2 : x_1 < (l0.length : Int)
      · rw [if_pos c2] at H
        have c2b0 : decide (x_1 < (l0.length : Int)) = true := decide_eq_true c2
        clear c2
        by_cases c3 : 0 ≤ x_1
        · rw [if_pos c3] at H
          have c3b0 : decide (0 ≤ x_1) = true := decide_eq_true c3
          clear c3
          by_cases c4 : x_1 < (l0.length : Int)
          · rw [if_pos c4] at H
            have c4b0 : decide (x_1 < (l0.length : Int)) = true := decide_eq_true c4
            clear c4
            replace H := bind_eq_some_iff.mp H
            obtain ⟨t_, A70, H⟩ := H
            replace H : (if t_ = true then (some x_1) else (impl_TimersOk_1.l0 k1 l0 m0 m1 b2 (l0.length : Int) (wrap64 (x_1 + 1)))) = some r := H
            have A7 := Aside0.mk A70
            clear A70
            by_cases c6 : t_ = true
            · subst c6
              have H1 : (some x_1) = some r := by rw [if_pos rfl] at H; exact H
              clear H
              have H := H1
              clear H1
              obtain rfl := Option.some.inj H
              have p_ : 0 ≤ (x_1 : Int) := of_decide_eq_true (by first | (with_reducible assumption) | assumption)
              have q_ : x_1 < (l0.length : Int) := of_decide_eq_true (by first | (with_reducible assumption) | assumption)
              obtain ⟨ad_, e_, hx_0, hx_1, hx_2⟩ := at_T31 HR0.out x_1 p_ q_
              cases e_
              replace hx_0 := (HB.out.cell (block_lt_of_cell? w _ hx_0)).trans hx_0
              replace hx_1 := (HB.out.cell (block_lt_of_cell? w _ hx_1)).trans hx_1
              replace hx_2 := (HB.out.cell (block_lt_of_cell? w _ hx_2)).trans hx_2
              replace p_ := eq_true p_
              replace q_ := eq_true q_
              go_wp2_with (first | (go_at_call 68; (with_reducible refine (impl_TimersOk_1.callsC k1 ((rd_T31 l0 x_1).f0) ((rd_T31 l0 x_1).f1) ((rd_T31 l0 x_1).f2) M0 d0 m0 M1 d1 m1 b2 g_ true _ ?s1 ?s2 ?s4 ?s5 ?s3 A7.out).mono ?_); (case s1 => exact C_below HR1.out HB.out); (case s2 => exact HC1.out); (case s4 => exact C_below HR2.out HB.out); (case s5 => exact HC2.out); (case s3 => exact blk_below (g := g_) (o := .cells #[.slice M0 m0.length d0, .slice M1 m1.length d1, .int .i64 b2] 48 (0, 0)) HG.out HB.out); rintro e w7 ⟨rfl, hb⟩; have n0_ := Aside0.mk (below_step HB.out hb); clear HB; have HB := n0_; clear n0_; (try clear hb)))
              go_ret
              exact ⟨by first | rfl | (simp; done) | (simp [*]; done), HB.out⟩
            · replace c6 := Bool.eq_false_iff.mpr c6
              subst c6
              have H1 : (impl_TimersOk_1.l0 k1 l0 m0 m1 b2 (l0.length : Int) (wrap64 (x_1 + 1))) = some r := by rw [if_neg (show ¬ (false = true) by decide)] at H; exact H
              clear H
              have H := H1
              clear H1
              have H' := Aside0.mk H
              clear H
              have p_ : 0 ≤ (x_1 : Int) := of_decide_eq_true (by first | (with_reducible assumption) | assumption)
              have q_ : x_1 < (l0.length : Int) := of_decide_eq_true (by first | (with_reducible assumption) | assumption)
              obtain ⟨ad_, e_, hx_0, hx_1, hx_2⟩ := at_T31 HR0.out x_1 p_ q_
              cases e_
              replace hx_0 := (HB.out.cell (block_lt_of_cell? w _ hx_0)).trans hx_0
              replace hx_1 := (HB.out.cell (block_lt_of_cell? w _ hx_1)).trans hx_1
              replace hx_2 := (HB.out.cell (block_lt_of_cell? w _ hx_2)).trans hx_2
              replace p_ := eq_true p_
              replace q_ := eq_true q_
              go_wp2_with (first | (go_at_call 68; (with_reducible refine (impl_TimersOk_1.callsC k1 ((rd_T31 l0 x_1).f0) ((rd_T31 l0 x_1).f1) ((rd_T31 l0 x_1).f2) M0 d0 m0 M1 d1 m1 b2 g_ false _ ?s1 ?s2 ?s4 ?s5 ?s3 A7.out).mono ?_); (case s1 => exact C_below HR1.out HB.out); (case s2 => exact HC1.out); (case s4 => exact C_below HR2.out HB.out); (case s5 => exact HC2.out); (case s3 => exact blk_below (g := g_) (o := .cells #[.slice M0 m0.length d0, .slice M1 m1.length d1, .int .i64 b2] 48 (0, 0)) HG.out HB.out); rintro e w7 ⟨rfl, hb⟩; have n0_ := Aside0.mk (below_step HB.out hb); clear HB; have HB := n0_; clear n0_; (try clear hb)))
              go_roundg k1
              case measure => have := HK1.out; omega
              case rel => exact ⟨(wrap64 (x_1 + 1)), (by first | rfl | (simp; done) | (simp [*]; done)), H', ⟨by have := HK1.out; omega⟩, ⟨HB.out⟩⟩
          · rw [if_neg c4] at H
            exact absurd H (by simp)
        · rw [if_neg c3] at H
          exact absurd H (by simp)
      · rw [if_neg c2] at H
        have c2b0 : decide (x_1 < (l0.length : Int)) = false := decide_eq_false c2
        clear c2
        obtain rfl := Option.some.inj H
        go_wp2
        go_ret
        exact ⟨by first | rfl | (simp; done) | (simp [*]; done), HB.out⟩
set_option maxHeartbeats 8000000 in
set_option maxRecDepth 100000 in
theorem impl_TimersOk_1.calls (k : Nat) (M0 : Option Addr) (d0 : Nat) (m0 : List (S31)) (M1 : Option Addr) (d1 : Nat) (m1 : List (S81)) (b2 : Int) (g_ : Nat) (r : Bool) (w : World) (hr1 : Kd.C k31 w M0 m0.length m0) (hc1 : m0.length ≤ d0) (hr2 : Kd.C k81 w M1 m1.length m1) (hc2 : m1.length ≤ d1) (hg_ : w.heap[g_]? = some (.cells #[.slice M0 m0.length d0, .slice M1 m1.length d1, .int .i64 b2] 48 (0, 0))) (h : impl_TimersOk_1.f k m0 m1 b2 = some r) :
    Calls Try.prog 60 #[.slice M0 m0.length d0, .func (.func 68) #[] #[.pointer (some ⟨g_, 0, none⟩)]] w fun e w' => e = .returned (.bool r) ∧ Below w.heap.size w w' := by
  have H := bind_eq_some_iff.mp h
  clear h
  obtain ⟨t, A30, H⟩ := H
  have A3 := Aside0.mk A30
  clear A30
  obtain rfl := Option.some.inj H
  have HG := Aside0.mk hg_
  have HR1 := Aside0.mk hr1
  have HC1 := Aside0.mk hc1
  have HR2 := Aside0.mk hr2
  have HC2 := Aside0.mk hc2
  clear hg_ hr1 hc1 hr2 hc2
  go_enter Try.func60, Try.ntmps60
  go_wp2_with (first | (go_at_call 83; (with_reducible refine (impl_TimersOk_1.callsI k M0 d0 m0 M0 d0 m0 M1 d1 m1 b2 g_ t _ ?s0 ?s1 ?s2 ?s3 ?s4 ?s5 ?s6 A3.out).mono ?_); (case s0 => exact HR1.out); (case s1 => exact HC1.out); (case s2 => exact HR1.out); (case s3 => exact HC1.out); (case s4 => exact HR2.out); (case s5 => exact HC2.out); (case s6 => exact HG.out); rintro e w7 ⟨rfl, hb⟩; have HB := Aside0.mk hb; clear hb))
  go_ret
  exact ⟨by first | rfl | (simp; done) | (simp [*]; done), HB.out⟩
end Go.Proofs.Ytljfflhbabkbgaa.PFnExactNextDue
