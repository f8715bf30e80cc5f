/- Texts of the claim of the law FnLetGo, made smaller by a program of this session: what the claim does not use is left out. No condition. -/
import Derived.Test.YtcndchcepajmjaaZLgPFnLetGox0
import Derived.Test.YtcndchcepajmjaaZLgPFnLetGox1
import Derived.Test.YtcndchcepajmjaaZLgPFnLetGox10
import Derived.Test.YtcndchcepajmjaaZLgPFnLetGox12
namespace Go.Proofs.Ytcndchcepajmjaa.PFnLetGo
open Go.RowKit Go.Proofs.YtcndchcepajmjaaW.PrintWords Go.Proofs.YtcndchcepajmjaaW.PrintLast Go.Proofs.YtcndchcepajmjaaW.PrintMore
open List (map_toArray map_cons map_nil)
open Option (bind_eq_some_iff)
open Kd (R_drew R_reads' R_below)
attribute [local go_sem] max2_int min2_int max_two min_two max_three min_three max_four min_four   -- for this text's walks alone
set_option linter.unusedVariables false
set_option linter.unusedSimpArgs false
attribute [local go_sem high] eqA58
def spec_DrawLetGo.j0 : Nat → List (S30) → List (S58) → Int → List Int → Int → Int → Option ((List (S30)) × (List (S58)) × Int × Int × Int × Int)
 | 0, _, _, _, _, _, _ => none
 | k + 1, x6, x7, x8, x560000, x560001, x560002 => (spec_l6DrawEvent.f k x560000 x560001 x560002 x6 x8).bind fun bt569 => ((spec_l1Once.f x560000 bt569.2.2.2.2.1 bt569.2.2.2.2.2 8).bind fun bt576 => (if bt576.1 = true then ((spec_l1From.f x560000 bt576.2.1 bt576.2.2 (-1) (x6.length : Int)).bind fun bt579 => (some (x6, x7, bt579.1, bt569.2.1, bt569.2.2.1, bt569.2.2.2.1))) else (some (x6, x7, bt569.1, bt569.2.1, bt569.2.2.1, bt569.2.2.2.1))))
def spec_DrawLetGo.f (k : Nat) (l0 : List Int) : Option ((List (S30)) × (List (S58)) × Int × Int × Int × Int) := (spec_l1New.f k l0).bind fun bt556 => ((spec_l6DrawAny.f k bt556.1 bt556.2.1 bt556.2.2).bind fun bt560 => (if (bt560.2.1.length : Int) > 0 then (if 0 ≤ (wrap64 ((bt560.2.1.length : Int) - 1)) then (if (wrap64 ((bt560.2.1.length : Int) - 1)) < (bt560.2.1.length : Int) then (spec_DrawLetGo.j0 k bt560.1 bt560.2.1 ((rd_T58 bt560.2.1 (wrap64 ((bt560.2.1.length : Int) - 1))).f3) bt556.1 bt560.2.2.1 bt560.2.2.2) else (none)) else (none)) else (spec_DrawLetGo.j0 k bt560.1 bt560.2.1 0 bt556.1 bt560.2.2.1 bt560.2.2.2)))
set_option maxHeartbeats 8000000 in
set_option maxRecDepth 100000 in
theorem spec_DrawLetGo.calls (k : Nat) (A0 : Option Addr) (c0 : Nat) (l0 : List Int) (r1 : List (S30)) (r2 : List (S58)) (r3 : Int) (r4 : Int) (r5 : Int) (r6 : Int) (w : World) (hr0 : Kd.C (Kd.int .u8) w A0 l0.length l0) (hc0 : l0.length ≤ c0) (h : spec_DrawLetGo.f k l0 = some (r1, r2, r3, r4, r5, r6)) :
  Calls Try.prog 58 #[.slice A0 l0.length c0] w fun e w' => ∃ v0_ v1_ : Value, e = .returned (.tuple #[v0_, v1_, .agg #[.int .i64 r3, .int .i64 r4, .int .i64 r5, .int .i64 r6]]) ∧ Kd.R k30 30 w' w.heap.size (fun _ => True) v0_ r1 ∧ Kd.R k58 58 w' w.heap.size (fun _ => True) v1_ r2 ∧ Below w.heap.size w w' := by
 have hu58 := Try.underlying58
 have HR0 := Aside0.mk hr0
 have HC0 := Aside0.mk hc0
 clear hr0 hc0
 have HB := Aside0.mk (Below.refl w.heap.size w)
 have H : ((spec_l1New.f k l0).bind fun bt556 => ((spec_l6DrawAny.f k bt556.1 bt556.2.1 bt556.2.2).bind fun bt560 => (if (bt560.2.1.length : Int) > 0 then (if 0 ≤ (wrap64 ((bt560.2.1.length : Int) - 1)) then (if (wrap64 ((bt560.2.1.length : Int) - 1)) < (bt560.2.1.length : Int) then (spec_DrawLetGo.j0 k bt560.1 bt560.2.1 ((rd_T58 bt560.2.1 (wrap64 ((bt560.2.1.length : Int) - 1))).f3) bt556.1 bt560.2.2.1 bt560.2.2.2) else (none)) else (none)) else (spec_DrawLetGo.j0 k bt560.1 bt560.2.1 0 bt556.1 bt560.2.2.1 bt560.2.2.2)))) = some (r1, r2, r3, r4, r5, r6) := h
 clear h
 replace H := bind_eq_some_iff.mp H
 obtain ⟨⟨t556, t557, t558⟩, A20, H⟩ := H
 replace H : ((spec_l6DrawAny.f k t556 t557 t558).bind fun bt560 => (if (bt560.2.1.length : Int) > 0 then (if 0 ≤ (wrap64 ((bt560.2.1.length : Int) - 1)) then (if (wrap64 ((bt560.2.1.length : Int) - 1)) < (bt560.2.1.length : Int) then (spec_DrawLetGo.j0 k bt560.1 bt560.2.1 ((rd_T58 bt560.2.1 (wrap64 ((bt560.2.1.length : Int) - 1))).f3) t556 bt560.2.2.1 bt560.2.2.2) else (none)) else (none)) else (spec_DrawLetGo.j0 k bt560.1 bt560.2.1 0 t556 bt560.2.2.1 bt560.2.2.2))) = some (r1, r2, r3, r4, r5, r6) := H
 have A2 := Aside0.mk A20
 clear A20
 replace H := bind_eq_some_iff.mp H
 obtain ⟨⟨t560, t563, t566, t567⟩, A30, H⟩ := H
 replace H : (if (t563.length : Int) > 0 then (if 0 ≤ (wrap64 ((t563.length : Int) - 1)) then (if (wrap64 ((t563.length : Int) - 1)) < (t563.length : Int) then (spec_DrawLetGo.j0 k t560 t563 ((rd_T58 t563 (wrap64 ((t563.length : Int) - 1))).f3) t556 t566 t567) else (none)) else (none)) else (spec_DrawLetGo.j0 k t560 t563 0 t556 t566 t567)) = some (r1, r2, r3, r4, r5, r6) := H
 have A3 := Aside0.mk A30
 clear A30
 have HC4 := Aside0.mk H
 clear H
 go_enter Try.func58, Try.ntmps58
 go_upto_if 19 with (first | ((with_reducible refine gate_dst (N := 4) rfl ?_); refine box_event ?hg (N := 4) ?hd (cs := #[.int .i64 0, .int .i64 0, .int .i64 0, .int .i64 0]) (t := 58) ?hr ?_; (case hd => rfl); (case hg => rfl); (case hr => (go_simp; done)); intro gb555 hg w5 hbox hb; have n0_ := Aside0.mk (below_step (by repeat ((with_reducible exact HB.out))) hb); have n1_ := Aside0.mk (hbox); have n2_ := Aside0.mk ((by rw [hg]; exact (below_size (by repeat ((with_reducible exact HB.out)))) : w.heap.size ≤ gb555)); have n3_ := Aside0.mk ((by rw [hg]; exact (below_size (by repeat ((with_reducible exact HB.out)))) : w.heap.size ≤ gb555)); clear HB; have HB := n0_; have BK555 := n1_; have GW555 := n2_; have GE555 := n3_; clear n0_ n1_ n2_ n3_; clear hb hbox hg) | ((with_reducible refine gate_callee (f := 69) rfl ?_); refine goesL_ (some 11) rfl rfl Try.func69 (by kernel_rfl) rfl #[.slice A0 l0.length c0] rfl (by (try simp only [map_toArray, map_cons, map_nil]); rfl) ?_; (with_reducible refine (spec_l1New.calls k _ _ l0 t556 t557 t558 w _ ?side1 ?side2 ?side3 A2.out).mono ?_); (case side1 => repeat ((with_reducible exact HB.out))); (case side2 => exact HR0.out); (case side3 => exact HC0.out); rintro e w6 ⟨g559, rfl, hi, hb, hb2⟩; refine ⟨_, rfl, ?_⟩; have n0_ := Aside0.mk (blk_below (g := gb555) (o := .cells #[.int .i64 0, .int .i64 0, .int .i64 0, .int .i64 0] 58 (0, 0)) (by (with_reducible repeat (fail)); exact BK555.out) hb2); have n1_ := Aside0.mk (hb); have n2_ := Aside0.mk (hi); have n3_ := Aside0.mk (IsS93.ne_blk hi (blk_below (g := gb555) (o := .cells #[.int .i64 0, .int .i64 0, .int .i64 0, .int .i64 0] 58 (0, 0)) (by (with_reducible repeat (fail)); exact BK555.out) hb2) (by decide)); have n4_ := Aside0.mk (Ne.symm (IsS93.ne_blk hi (blk_below (g := gb555) (o := .cells #[.int .i64 0, .int .i64 0, .int .i64 0, .int .i64 0] 58 (0, 0)) (by (with_reducible repeat (fail)); exact BK555.out) hb2) (by decide))); clear BK555; clear HB; have BK555 := n0_; have HB := n1_; have HI559 := n2_; have NB559_555 := n3_; have NB555_559 := n4_; clear n0_ n1_ n2_ n3_ n4_; (try clear hb); (try clear hb2); (try clear hi)) | ((with_reducible refine gate_callee (f := 83) rfl ?_); refine goesL_ (some 14) rfl rfl Try.func83 (by kernel_rfl) rfl #[.pointer (some ⟨g559, 0, none⟩)] rfl (by (try simp only [map_toArray, map_cons, map_nil]); rfl) ?_; (with_reducible refine (spec_l6DrawAny.calls k g559 t556 t557 t558 t560 t563 t566 t567 w _ ?side1 ?side2 A3.out).mono ?_); (case side1 => repeat ((with_reducible exact HI559.out))); (case side2 => repeat ((with_reducible exact HB.out))); rintro e w7 ⟨v561, v564, rfl, ho0, ho1, hi, hb, hk⟩; refine ⟨_, rfl, ?_⟩; have n0_ := Aside0.mk (KeepBut.blk hk (g' := gb555) (o := .cells #[.int .i64 0, .int .i64 0, .int .i64 0, .int .i64 0] 58 (0, 0)) (by (with_reducible repeat (fail)); exact BK555.out) NB555_559.out (by simp)); have n1_ := Aside0.mk (Kd.R_lower ho0 (below_size (by repeat ((with_reducible exact HB.out))))); have n2_ := Aside0.mk (Kd.R_lower (Kd.R_newB ho1 (g := gb555) (o := .cells #[.int .i64 0, .int .i64 0, .int .i64 0, .int .i64 0] 58 (0, 0)) (by (with_reducible repeat (fail)); exact BK555.out)) (below_size (by repeat ((with_reducible exact HB.out))))); have n3_ := Aside0.mk (hb); have n4_ := Aside0.mk (hi); clear BK555; clear HB; clear HI559; have BK555 := n0_; have HO562 := n1_; have HO565 := n2_; have HB := n3_; have HI559 := n4_; clear n0_ n1_ n2_ n3_ n4_; (try clear hb); (try clear hk); (try clear hi); (try clear ho0); (try clear ho1); obtain ⟨Ao8, co8, eo8⟩ := Kd.R_slice HO565.out; subst eo8))
 go_cut [8] (fun v8 wc => ∃ (kq : Nat) (x8_3 : Int), v8 = .int .i64 x8_3 ∧ Aside0 (spec_DrawLetGo.j0 kq t560 t563 x8_3 t556 t566 t567 = some (r1, r2, r3, r4, r5, r6)) ∧ Aside0 (kq ≤ k) ∧ Aside0 (Kd.R k30 30 wc w.heap.size (fun _ => True) v561 t560) ∧ Aside0 (Kd.R k58 58 wc w.heap.size (fun k_ => k_ ≠ gb555) (.slice Ao8 t563.length co8) t563) ∧ Aside0 (wc.heap[gb555]? = some (.cells #[.int .i64 0, .int .i64 0, .int .i64 0, .int .i64 0] 58 (0, 0))) ∧ Aside0 (IsS93 w wc g559 t556 t566 t567) ∧ Aside0 (Below w.heap.size w wc))
 case first =>
  have H := HC4.out
  clear HC4
  by_cases c9 : (t563.length : Int) > 0
  ·rw [if_pos c9] at H
   have c9b0 : decide (0 < (t563.length : Int)) = true := decide_eq_true c9
   have c9b1 : decide (0 < t563.length) = true := decide_eq_true (by omega)
   clear c9
   (skip)
   obtain ⟨ji10, hji10⟩ : ∃ j_ : Int, (wrap64 ((t563.length : Int) - 1)) = j_ := ⟨_, rfl⟩
   replace H : (if 0 ≤ (ji10) then (if (ji10) < (t563.length : Int) then (spec_DrawLetGo.j0 k t560 t563 ((rd_T58 t563 (ji10)).f3) t556 t566 t567) else (none)) else (none)) = some (r1, r2, r3, r4, r5, r6) := by (rw [hji10] at H; exact H)
   have hji10w : (IntKind.i64.wrap ((t563.length : Int) - 1)) = ji10 := (i64_w _).trans hji10
   by_cases c11 : 0 ≤ (ji10)
   ·rw [if_pos c11] at H
    have c11b0 : decide (0 ≤ (ji10)) = true := decide_eq_true c11
    clear c11
    by_cases c12 : (ji10) < (t563.length : Int)
    ·rw [if_pos c12] at H
     have c12b0 : decide ((ji10) < (t563.length : Int)) = true := decide_eq_true c12
     clear c12
     have H' := Aside0.mk H
     clear H
     have p568 : 0 ≤ ((ji10) : Int) := of_decide_eq_true (by (with_reducible assumption))
     have q568 : (ji10) < (t563.length : Int) := of_decide_eq_true (by (with_reducible assumption))
     obtain ⟨ad568, e568, hx568_0, hx568_1, hx568_2, hx568_3⟩ := at_T58 (R_reads' HO565.out).2.2 (ji10) p568 q568
     cases e568
     replace p568 := eq_true p568
     replace q568 := eq_true q568
     have c9p := of_decide_eq_true c9b1
     go_wp2
     go_meet
     case rel => exact ⟨_, ((rd_T58 t563 (ji10)).f3), (by rfl), H', ⟨by omega⟩, ⟨by (with_reducible repeat (fail)); exact HO562.out⟩, ⟨by (with_reducible repeat (fail)); exact Kd.R_mono HO565.out (fun _ hk => hk.2)⟩, ⟨by (with_reducible repeat (fail)); exact BK555.out⟩, ⟨by repeat ((with_reducible exact HI559.out))⟩, ⟨by repeat ((with_reducible exact HB.out))⟩⟩
    ·rw [if_neg c12] at H
     exact absurd H (by simp)
   ·rw [if_neg c11] at H
    exact absurd H (by simp)
  ·rw [if_neg c9] at H
   have c9b0 : decide (0 < (t563.length : Int)) = false := decide_eq_false c9
   have c9b1 : decide (0 < t563.length) = false := decide_eq_false (by omega)
   clear c9
   (skip)
   have H' := Aside0.mk H
   clear H
   have c9p := of_decide_eq_false c9b1
   go_wp2
   go_meet
   case rel => exact ⟨_, (0), (by rfl), H', ⟨by omega⟩, ⟨by (with_reducible repeat (fail)); exact HO562.out⟩, ⟨by (with_reducible repeat (fail)); exact Kd.R_mono HO565.out (fun _ hk => hk.2)⟩, ⟨by (with_reducible repeat (fail)); exact BK555.out⟩, ⟨by repeat ((with_reducible exact HI559.out))⟩, ⟨by repeat ((with_reducible exact HB.out))⟩⟩
 case rest =>
  clear HC4
  try clear c1
  try clear p2
  try clear c5
  try clear p5
  try clear q5
  try clear hx5
  try clear c6
  try clear p6
  try clear c8
  try clear c9
  try clear c9b0
  try clear c9b1
  try clear c11
  try clear c11b0
  try clear c12
  try clear c12b0
  try clear hx568_0
  try clear hx568_1
  try clear hx568_2
  try clear hx568_3
  try clear p568
  try clear q568
  obtain ⟨kq, x8_3, rfl, HA, HJ3, HO_6, HO_7, BK555, HI559, HB⟩ := hcut
  cases kq with
  | zero => exact absurd HA.out (by simp [spec_DrawLetGo.j0])
  | succ kj3 =>
   have H := HA.out
   clear HA
   simp only [spec_DrawLetGo.j0] at H
   replace H := bind_eq_some_iff.mp H
   obtain ⟨⟨t569, t570, t571, t572, t573, t574⟩, A130, H⟩ := H
   replace H : ((spec_l1Once.f t556 t573 t574 8).bind fun bt576 => (if bt576.1 = true then ((spec_l1From.f t556 bt576.2.1 bt576.2.2 (-1) (t560.length : Int)).bind fun bt579 => (some (t560, t563, bt579.1, t570, t571, t572))) else (some (t560, t563, t569, t570, t571, t572)))) = some (r1, r2, r3, r4, r5, r6) := H
   have A13 := Aside0.mk A130
   clear A130
   replace H := bind_eq_some_iff.mp H
   obtain ⟨⟨t576, t577, t578⟩, A140, H⟩ := H
   replace H : (if t576 = true then ((spec_l1From.f t556 t577 t578 (-1) (t560.length : Int)).bind fun bt579 => (some (t560, t563, bt579.1, t570, t571, t572))) else (some (t560, t563, t569, t570, t571, t572))) = some (r1, r2, r3, r4, r5, r6) := H
   have A14 := Aside0.mk A140
   clear A140
   by_cases c15 : t576 = true
   ·subst c15
    have H1 : ((spec_l1From.f t556 t577 t578 (-1) (t560.length : Int)).bind fun bt579 => (some (t560, t563, bt579.1, t570, t571, t572))) = some (r1, r2, r3, r4, r5, r6) := by rw [if_pos rfl] at H; exact H
    clear H
    have H := H1
    clear H1
    replace H := bind_eq_some_iff.mp H
    obtain ⟨⟨t579, t580, t581⟩, A160, H⟩ := H
    replace H : (some (t560, t563, t579, t570, t571, t572)) = some (r1, r2, r3, r4, r5, r6) := H
    have A16 := Aside0.mk A160
    clear A160
    simp only [Option.some.injEq, Prod.mk.injEq] at H
    obtain ⟨rfl, rfl, rfl, rfl, rfl, rfl⟩ := H
    obtain ⟨Ao17, co17, eo17⟩ := Kd.R_slice HO_6.out
    subst eo17
    try go_wp2_with (first | ((with_reducible refine gate_callee (f := 84) rfl ?_); refine goesL_ (some 30) rfl rfl Try.func84 (by kernel_rfl) rfl #[.pointer (some ⟨g559, 0, none⟩), .slice Ao17 t560.length co17, .int .i64 x8_3] rfl (by (try simp only [map_toArray, map_cons, map_nil]); rfl) ?_; (with_reducible refine (spec_l6DrawEvent.calls kj3 g559 t556 t566 t567 _ _ t560 x8_3 t569 t570 t571 t572 t573 t574 w _ ?side1 ?side2 ?side3 ?side4 A13.out).mono ?_); (case side1 => repeat ((with_reducible exact HI559.out))); (case side2 => repeat ((with_reducible exact HB.out))); (case side3 => exact Kd.C_foot_own (IsS93.apart (show IsS93 w _ g559 t556 t566 t567 from by repeat ((with_reducible exact HI559.out))) (by (with_reducible repeat (fail)); exact HO_6.out) (by decide)) (fun _ h_ => h_.2)); (case side4 => exact (R_reads' HO_6.out).2.1); rintro e w18 ⟨rfl, hi, hb, hk⟩; refine ⟨_, rfl, ?_⟩; have n0_ := Aside0.mk (Kd.R_mono (Kd.R_keep (IsS93.apart (show IsS93 w _ g559 t556 t566 t567 from by repeat ((with_reducible exact HI559.out))) (by (with_reducible repeat (fail)); exact HO_6.out) (by decide)) hk (fun _ h => h.2)) (fun _ h => h.1)); have n1_ := Aside0.mk (Kd.R_mono (Kd.R_keep (IsS93.apart (show IsS93 w _ g559 t556 t566 t567 from by repeat ((with_reducible exact HI559.out))) (by (with_reducible repeat (fail)); exact HO_7.out) (by decide)) hk (fun _ h => h.2)) (fun _ h => h.1)); have n2_ := Aside0.mk (KeepBut.blk hk (g' := gb555) (o := .cells #[.int .i64 0, .int .i64 0, .int .i64 0, .int .i64 0] 58 (0, 0)) (by (with_reducible repeat (fail)); exact BK555.out) NB555_559.out (by simp)); have n3_ := Aside0.mk (hb); have n4_ := Aside0.mk (hi); clear HO_6; clear HO_7; clear BK555; clear HB; clear HI559; have HO_6 := n0_; have HO_7 := n1_; have BK555 := n2_; have HB := n3_; have HI559 := n4_; clear n0_ n1_ n2_ n3_ n4_; (try clear hb); (try clear hk); (try clear hi)) | ((with_reducible refine gate_dst (N := 9) rfl ?_); refine box_event ?hg (N := 9) ?hd (cs := #[.int .i64 0, .int .i64 0, .int .i64 0, .int .i64 0]) (t := 58) ?hr ?_; (case hd => rfl); (case hg => rfl); (case hr => (go_simp; done)); intro gb575 hg w19 hbox hb; have n0_ := Aside0.mk (R_below (by (with_reducible repeat (fail)); exact HO_6.out) hb); have n1_ := Aside0.mk (R_below (Kd.R_elderB (by (with_reducible repeat (fail)); exact HO_7.out) gb575 (Nat.le_of_eq hg.symm)) hb); have n2_ := Aside0.mk (blk_below (g := gb555) (o := .cells #[.int .i64 0, .int .i64 0, .int .i64 0, .int .i64 0] 58 (0, 0)) (by (with_reducible repeat (fail)); exact BK555.out) hb); have n3_ := Aside0.mk (IsS93.below (by repeat ((with_reducible exact HI559.out))) hb); have n4_ := Aside0.mk (below_step (by repeat ((with_reducible exact HB.out))) hb); have n5_ := Aside0.mk (hbox); have n6_ := Aside0.mk ((by rw [hg]; exact (below_size (by repeat ((with_reducible exact HB.out)))) : w.heap.size ≤ gb575)); have n7_ := Aside0.mk ((by rw [hg]; exact (below_size (by repeat ((with_reducible exact HB.out)))) : w.heap.size ≤ gb575)); have n8_ := Aside0.mk ((by rw [hg]; exact Nat.ne_of_lt (blk_lt (g := gb555) (o := .cells #[.int .i64 0, .int .i64 0, .int .i64 0, .int .i64 0] 58 (0, 0)) (by (with_reducible repeat (fail)); exact BK555.out)) : gb555 ≠ gb575)); have n9_ := Aside0.mk ((by rw [hg]; exact Nat.ne_of_gt (blk_lt (g := gb555) (o := .cells #[.int .i64 0, .int .i64 0, .int .i64 0, .int .i64 0] 58 (0, 0)) (by (with_reducible repeat (fail)); exact BK555.out)) : gb575 ≠ gb555)); have n10_ := Aside0.mk ((by rw [hg]; exact Nat.ne_of_lt (IsS93.lt (show IsS93 w _ g559 t556 t573 t574 from by repeat ((with_reducible exact HI559.out)))) : g559 ≠ gb575)); have n11_ := Aside0.mk ((by rw [hg]; exact Nat.ne_of_gt (IsS93.lt (show IsS93 w _ g559 t556 t573 t574 from by repeat ((with_reducible exact HI559.out)))) : gb575 ≠ g559)); clear HO_6; clear HO_7; clear BK555; clear HI559; clear HB; have HO_6 := n0_; have HO_7 := n1_; have BK555 := n2_; have HI559 := n3_; have HB := n4_; have BK575 := n5_; have GW575 := n6_; have GE575 := n7_; have NB555_575 := n8_; have NB575_555 := n9_; have NB559_575 := n10_; have NB575_559 := n11_; clear n0_ n1_ n2_ n3_ n4_ n5_ n6_ n7_ n8_ n9_ n10_ n11_; clear hb hbox hg; have hnb20 := NB575_555.out; have hnc20 := NB555_575.out; have hnb21 := NB575_559.out; have hnc21 := NB559_575.out; have hcz22_0 : w19.cell? ⟨gb575, 0, none⟩ = some (.int .i64 0) := (blk_cell BK575.out 0).trans rfl; have hcz22_1 : w19.cell? ⟨gb575, 1, none⟩ = some (.int .i64 0) := (blk_cell BK575.out 1).trans rfl; have hcz22_2 : w19.cell? ⟨gb575, 2, none⟩ = some (.int .i64 0) := (blk_cell BK575.out 2).trans rfl; have hcz22_3 : w19.cell? ⟨gb575, 3, none⟩ = some (.int .i64 0) := (blk_cell BK575.out 3).trans rfl; have hfz22_0 := blk_frozen BK575.out 0; have hfz22_1 := blk_frozen BK575.out 1; have hfz22_2 := blk_frozen BK575.out 2; have hfz22_3 := blk_frozen BK575.out 3) | ((with_reducible refine gate_callee (f := 85) rfl ?_); refine goesL_ (some 32) rfl rfl Try.func85 (by kernel_rfl) rfl #[.pointer (some ⟨g559, 0, none⟩), .int .i64 8] rfl (by (try simp only [map_toArray, map_cons, map_nil]); rfl) ?_; (with_reducible refine (spec_l1Once.calls g559 t556 t573 t574 8 true t577 t578 w _ ?side1 ?side2 A14.out).mono ?_); (case side1 => repeat ((with_reducible first | exact HI559.out | refine IsS93.far ?_ NB559_575.out _))); (case side2 => repeat ((with_reducible first | exact HB.out | refine below_set ?_ GE575.out))); rintro e w23 ⟨rfl, hi, hb, hk⟩; refine ⟨_, rfl, ?_⟩; have n0_ := Aside0.mk (Kd.R_mono (Kd.R_keep (IsS93.apart (show IsS93 w _ g559 t556 t573 t574 from by repeat ((with_reducible first | exact HI559.out | refine IsS93.far ?_ NB559_575.out _))) (by (with_reducible repeat (fail)); exact (Kd.R_mono (Kd.R_far (p := ⟨gb575, 3, none⟩) (Kd.R_far (p := ⟨gb575, 2, none⟩) (Kd.R_far (p := ⟨gb575, 1, none⟩) (Kd.R_far (p := ⟨gb575, 0, none⟩) (Kd.R_types HO_6.out BK575.out (by decide)) (fun _ hk => hk.2) (.int .i64 t569)) (fun _ hk => hk.2) (.int .i64 t570)) (fun _ hk => hk.2) (.int .i64 t571)) (fun _ hk => hk.2) (.int .i64 t572)) (fun _ h_ => h_.1))) (by decide)) hk (fun _ h => h.2)) (fun _ h => h.1)); have n1_ := Aside0.mk (Kd.R_mono (Kd.R_keep (IsS93.apart (show IsS93 w _ g559 t556 t573 t574 from by repeat ((with_reducible first | exact HI559.out | refine IsS93.far ?_ NB559_575.out _))) (by (with_reducible repeat (fail)); exact (Kd.R_mono (Kd.R_far (p := ⟨gb575, 3, none⟩) (Kd.R_far (p := ⟨gb575, 2, none⟩) (Kd.R_far (p := ⟨gb575, 1, none⟩) (Kd.R_far (p := ⟨gb575, 0, none⟩) (Kd.R_mono HO_7.out (fun k_ hk => (⟨hk, hk.2⟩ : _ ∧ k_ ≠ gb575))) (fun _ hk => hk.2) (.int .i64 t569)) (fun _ hk => hk.2) (.int .i64 t570)) (fun _ hk => hk.2) (.int .i64 t571)) (fun _ hk => hk.2) (.int .i64 t572)) (fun _ h_ => h_.1))) (by decide)) hk (fun _ h => h.2)) (fun _ h => h.1)); have n2_ := Aside0.mk (KeepBut.blk hk (g' := gb555) (o := .cells #[.int .i64 0, .int .i64 0, .int .i64 0, .int .i64 0] 58 (0, 0)) (by (with_reducible repeat (fail)); refine blk_far ?_ NB555_575.out _; (with_reducible repeat (fail)); refine blk_far ?_ NB555_575.out _; (with_reducible repeat (fail)); refine blk_far ?_ NB555_575.out _; (with_reducible repeat (fail)); refine blk_far ?_ NB555_575.out _; (with_reducible repeat (fail)); exact BK555.out) NB555_559.out (by simp)); have n3_ := Aside0.mk (KeepBut.blk hk (g' := gb575) (o := .cells #[.int .i64 t569, .int .i64 t570, .int .i64 t571, .int .i64 t572] 58 (0, 0)) (by (with_reducible repeat (fail)); refine blk_put (cs := #[.int .i64 t569, .int .i64 t570, .int .i64 t571, .int .i64 0]) ?_ 3 _ rfl; (with_reducible repeat (fail)); refine blk_put (cs := #[.int .i64 t569, .int .i64 t570, .int .i64 0, .int .i64 0]) ?_ 2 _ rfl; (with_reducible repeat (fail)); refine blk_put (cs := #[.int .i64 t569, .int .i64 0, .int .i64 0, .int .i64 0]) ?_ 1 _ rfl; (with_reducible repeat (fail)); refine blk_put (cs := #[.int .i64 0, .int .i64 0, .int .i64 0, .int .i64 0]) ?_ 0 _ rfl; (with_reducible repeat (fail)); exact BK575.out) NB575_559.out (by simp)); have n4_ := Aside0.mk (hb); have n5_ := Aside0.mk (hi); clear HO_6; clear HO_7; clear BK555; clear BK575; clear HB; clear HI559; have HO_6 := n0_; have HO_7 := n1_; have BK555 := n2_; have BK575 := n3_; have HB := n4_; have HI559 := n5_; clear n0_ n1_ n2_ n3_ n4_ n5_; (try clear hb); (try clear hk); (try clear hi)) | ((with_reducible refine gate_callee (f := 71) rfl ?_); refine goesL_ (some 36) rfl rfl Try.func71 (by kernel_rfl) rfl #[.pointer (some ⟨g559, 0, none⟩), .int .i64 (-1), .int .i64 (t560.length : Int)] rfl (by (try simp only [map_toArray, map_cons, map_nil]); rfl) ?_; (with_reducible refine (spec_l1From.calls g559 t556 t577 t578 (-1) (t560.length : Int) t579 t580 t581 w _ ?side1 ?side2 A16.out).mono ?_); (case side1 => repeat ((with_reducible exact HI559.out))); (case side2 => repeat ((with_reducible exact HB.out))); rintro e w24 ⟨rfl, hi, hb, hk⟩; refine ⟨_, rfl, ?_⟩; have n0_ := Aside0.mk (Kd.R_mono (Kd.R_keep (IsS93.apart (show IsS93 w _ g559 t556 t577 t578 from by repeat ((with_reducible exact HI559.out))) (by (with_reducible repeat (fail)); exact HO_6.out) (by decide)) hk (fun _ h => h.2)) (fun _ h => h.1)); have n1_ := Aside0.mk (Kd.R_mono (Kd.R_keep (IsS93.apart (show IsS93 w _ g559 t556 t577 t578 from by repeat ((with_reducible exact HI559.out))) (by (with_reducible repeat (fail)); exact HO_7.out) (by decide)) hk (fun _ h => h.2)) (fun _ h => h.1)); have n2_ := Aside0.mk (KeepBut.blk hk (g' := gb555) (o := .cells #[.int .i64 0, .int .i64 0, .int .i64 0, .int .i64 0] 58 (0, 0)) (by (with_reducible repeat (fail)); exact BK555.out) NB555_559.out (by simp)); have n3_ := Aside0.mk (KeepBut.blk hk (g' := gb575) (o := .cells #[.int .i64 t569, .int .i64 t570, .int .i64 t571, .int .i64 t572] 58 (0, 0)) (by (with_reducible repeat (fail)); exact BK575.out) NB575_559.out (by simp)); have n4_ := Aside0.mk (hb); have n5_ := Aside0.mk (hi); clear HO_6; clear HO_7; clear BK555; clear BK575; clear HB; clear HI559; have HO_6 := n0_; have HO_7 := n1_; have BK555 := n2_; have BK575 := n3_; have HB := n4_; have HI559 := n5_; clear n0_ n1_ n2_ n3_ n4_ n5_; (try clear hb); (try clear hk); (try clear hi); have hcz25_0 : w24.cell? ⟨gb575, 0, none⟩ = some (.int .i64 t569) := (blk_cell BK575.out 0).trans rfl; have hcz25_1 : w24.cell? ⟨gb575, 1, none⟩ = some (.int .i64 t570) := (blk_cell BK575.out 1).trans rfl; have hcz25_2 : w24.cell? ⟨gb575, 2, none⟩ = some (.int .i64 t571) := (blk_cell BK575.out 2).trans rfl; have hcz25_3 : w24.cell? ⟨gb575, 3, none⟩ = some (.int .i64 t572) := (blk_cell BK575.out 3).trans rfl; have hfz25_0 := blk_frozen BK575.out 0; have hfz25_1 := blk_frozen BK575.out 1; have hfz25_2 := blk_frozen BK575.out 2; have hfz25_3 := blk_frozen BK575.out 3))
    have n0_ : Aside0 (Kd.R k30 30 (w24.setCell ⟨gb575, 0, none⟩ (.int .i64 t579)) w.heap.size (fun _ => True) (.slice Ao17 t560.length co17) t560) := ⟨by (with_reducible repeat (fail)); exact Kd.R_mono (Kd.R_far (p := ⟨gb575, 0, none⟩) (Kd.R_types HO_6.out BK575.out (by decide)) (fun _ hk => hk.2) (.int .i64 t579)) (fun _ hk => trivial)⟩
    have n1_ : Aside0 (Kd.R k58 58 (w24.setCell ⟨gb575, 0, none⟩ (.int .i64 t579)) w.heap.size (fun k_ => k_ ≠ gb555 ∧ k_ ≠ gb575) (.slice Ao8 t563.length co8) t563) := ⟨by (with_reducible repeat (fail)); exact Kd.R_mono (Kd.R_far (p := ⟨gb575, 0, none⟩) (Kd.R_mono HO_7.out (fun k_ hk => (⟨hk, hk.2⟩ : _ ∧ k_ ≠ gb575))) (fun _ hk => hk.2) (.int .i64 t579)) (fun _ hk => ⟨hk.1.1, hk.1.2⟩)⟩
    have n2_ : Aside0 ((w24.setCell ⟨gb575, 0, none⟩ (.int .i64 t579)).heap[gb555]? = some (.cells #[.int .i64 0, .int .i64 0, .int .i64 0, .int .i64 0] 58 (0, 0))) := ⟨by (with_reducible repeat (fail)); refine blk_far ?_ NB555_575.out _; (with_reducible repeat (fail)); exact BK555.out⟩
    have n3_ : Aside0 ((w24.setCell ⟨gb575, 0, none⟩ (.int .i64 t579)).heap[gb575]? = some (.cells #[.int .i64 t579, .int .i64 t570, .int .i64 t571, .int .i64 t572] 58 (0, 0))) := ⟨by (with_reducible repeat (fail)); refine blk_put (cs := #[.int .i64 t569, .int .i64 t570, .int .i64 t571, .int .i64 t572]) ?_ 0 _ rfl; (with_reducible repeat (fail)); exact BK575.out⟩
    have n4_ : Aside0 (IsS93 w (w24.setCell ⟨gb575, 0, none⟩ (.int .i64 t579)) g559 t556 t580 t581) := ⟨by repeat ((with_reducible first | exact HI559.out | refine IsS93.far ?_ NB559_575.out _))⟩
    have n5_ : Aside0 (Below w.heap.size w (w24.setCell ⟨gb575, 0, none⟩ (.int .i64 t579))) := ⟨by repeat ((with_reducible first | exact HB.out | refine below_set ?_ GE575.out))⟩
    (try clear HO_6)
    (try clear HO_7)
    (try clear BK555)
    (try clear BK575)
    (try clear HI559)
    (try clear HB)
    generalize (w24.setCell ⟨gb575, 0, none⟩ (.int .i64 t579)) = w26 at n0_ n1_ n2_ n3_ n4_ n5_ ⊢
    have HO_6 := n0_
    have HO_7 := n1_
    have BK555 := n2_
    have BK575 := n3_
    have HI559 := n4_
    have HB := n5_
    clear n0_ n1_ n2_ n3_ n4_ n5_
    have n0_ := Aside0.mk (R_drew HO_6.out)
    have n1_ := Aside0.mk (R_drew HO_7.out)
    have n2_ := Aside0.mk (blk_drew BK555.out)
    have n3_ := Aside0.mk (blk_drew BK575.out)
    have n4_ := Aside0.mk (IsS93.drew HI559.out)
    have n5_ := Aside0.mk (bw1 HB.out)
    clear HO_6
    clear HO_7
    clear BK555
    clear BK575
    clear HI559
    clear HB
    have HO_6 := n0_
    have HO_7 := n1_
    have BK555 := n2_
    have BK575 := n3_
    have HI559 := n4_
    have HB := n5_
    clear n0_ n1_ n2_ n3_ n4_ n5_
    refine start_ (n := 6) (S := fun w' => w'.cell? ⟨gb575, 0, none⟩ = some (.int .i64 t579) ∧ w'.cell? ⟨gb575, 1, none⟩ = some (.int .i64 t570) ∧ w'.cell? ⟨gb575, 2, none⟩ = some (.int .i64 t571) ∧ w'.cell? ⟨gb575, 3, none⟩ = some (.int .i64 t572)) (ds := []) #[false, false, false, false, false, false] (by kernel_rfl) rfl rfl ⟨(blk_cell BK575.out 0).trans rfl, (blk_cell BK575.out 1).trans rfl, (blk_cell BK575.out 2).trans rfl, (blk_cell BK575.out 3).trans rfl⟩ (fun hHeld => ?_)
    generalize w26.drew = w27 at HO_6 HO_7 BK555 BK575 HI559 HB hHeld ⊢
    refine pure_ (i := 0) (N := some 38) (v := ?_) (a' := ?_) #[true, false, false, false, false, false] rfl rfl (by kernel_rfl) (fun _ _ _ h => h) (Or.inl ⟨by rfl, ?_⟩) ?_ ?_
    rotate_left
    ·intro w'
     go_simp
     with_reducible rfl
    rotate_left
    ·simp only [Act.put, stA, stZ, stS, i64_w, i32_w]
     rfl
    refine pure_ (i := 1) (N := some 39) (v := ?_) (a' := ?_) #[true, true, false, false, false, false] rfl rfl (by kernel_rfl) (fun _ _ _ h => h) (Or.inl ⟨by rfl, ?_⟩) ?_ ?_
    rotate_left
    ·intro w'
     go_simp
     with_reducible rfl
    rotate_left
    ·simp only [Act.put, stA, stZ, stS, i64_w, i32_w]
     rfl
    refine pure_ (i := 3) (N := some 2) (v := ?_) (a' := ?_) #[true, true, false, true, false, false] rfl rfl (by kernel_rfl) (fun _ _ _ h => h) (Or.inl ⟨by rfl, ?_⟩) ?_ ?_
    rotate_left
    ·intro w'
     go_simp
     with_reducible rfl
    rotate_left
    ·simp only [Act.put, stA, stZ, stS, i64_w, i32_w]
     rfl
    refine pure_ (i := 4) (N := some 3) (v := ?_) (a' := ?_) #[true, true, false, true, true, false] rfl rfl (by kernel_rfl) (fun _ _ _ h => h) (Or.inl ⟨by rfl, ?_⟩) ?_ ?_
    rotate_left
    ·intro w'
     go_simp
     with_reducible rfl
    rotate_left
    ·simp only [Act.put, stA, stZ, stS, i64_w, i32_w]
     rfl
    refine take_ (i := 2) (N := some 40) (v := ?_) (a' := ?_) (bq 5 6) rfl rfl (by kernel_rfl) (fun _ _ _ h => h) (Or.inl ⟨by rfl, ?_⟩) hHeld ?_ ?_
    rotate_left
    ·rintro w' ⟨s0, s1, s2, s3⟩
     go_simp
     with_reducible rfl
    rotate_left
    ·simp only [Act.put, stA, stZ, stS, i64_w, i32_w]
     rfl
    refine one_ (i := 5) (N := none) #[true, true, true, true, true, true] rfl rfl (by kernel_rfl) (by decide) (fun K hK => ?_)
    have hs28 : w27.cell? ⟨gb555, 0, none⟩ = some (.int .i64 0) := (blk_cell BK555.out 0).trans rfl
    have hfs28 := blk_frozen BK555.out 0
    have hns28_1 := NB575_555.out
    have hms28_1 := NB555_575.out
    have hs29 : w27.cell? ⟨gb555, 1, none⟩ = some (.int .i64 0) := (blk_cell BK555.out 1).trans rfl
    have hfs29 := blk_frozen BK555.out 1
    have hns29_1 := NB575_555.out
    have hms29_1 := NB555_575.out
    have hs30 : w27.cell? ⟨gb555, 2, none⟩ = some (.int .i64 0) := (blk_cell BK555.out 2).trans rfl
    have hfs30 := blk_frozen BK555.out 2
    have hns30_1 := NB575_555.out
    have hms30_1 := NB555_575.out
    have hs31 : w27.cell? ⟨gb555, 3, none⟩ = some (.int .i64 0) := (blk_cell BK555.out 3).trans rfl
    have hfs31 := blk_frozen BK555.out 3
    have hns31_1 := NB575_555.out
    have hms31_1 := NB555_575.out
    refine skip_ (w1 := ?_) (by rfl) rfl ?_ ?_
    rotate_left
    ·go_simp
     rfl
    refine hK.out _ _ ⟨((cell_far (p := ⟨gb555, _, none⟩) NB575_555.out _).trans (((cell_far (p := ⟨gb555, _, none⟩) NB575_555.out _).trans (((cell_far (p := ⟨gb555, _, none⟩) NB575_555.out _).trans (((cell_far (p := ⟨gb555, _, none⟩) NB575_555.out _).trans (hHeld.1)))))))), ((cell_far (p := ⟨gb555, _, none⟩) NB575_555.out _).trans (((cell_far (p := ⟨gb555, _, none⟩) NB575_555.out _).trans (((cell_far (p := ⟨gb555, _, none⟩) NB575_555.out _).trans (((cell_far (p := ⟨gb555, _, none⟩) NB575_555.out _).trans (hHeld.2.1)))))))), ((cell_far (p := ⟨gb555, _, none⟩) NB575_555.out _).trans (((cell_far (p := ⟨gb555, _, none⟩) NB575_555.out _).trans (((cell_far (p := ⟨gb555, _, none⟩) NB575_555.out _).trans (((cell_far (p := ⟨gb555, _, none⟩) NB575_555.out _).trans (hHeld.2.2.1)))))))), ((cell_far (p := ⟨gb555, _, none⟩) NB575_555.out _).trans (((cell_far (p := ⟨gb555, _, none⟩) NB575_555.out _).trans (((cell_far (p := ⟨gb555, _, none⟩) NB575_555.out _).trans (((cell_far (p := ⟨gb555, _, none⟩) NB575_555.out _).trans (hHeld.2.2.2))))))))⟩ (fun hHeld => ?_)
    clear hK K
    refine done_ (by kernel_rfl) ?_
    try go_wp2
    refine bodyPost_ret (results_list (rs := [.tmp 2, .tmp 3, .cell 4 58]) rfl (by simp) (.tmp (.tmp (.cell gb555 58 #[.int .i64 t579, .int .i64 t570, .int .i64 t571, .int .i64 t572] (0, 0) _ rfl (by (with_reducible repeat (fail)); refine blk_put (cs := #[.int .i64 t579, .int .i64 t570, .int .i64 t571, .int .i64 0]) ?_ 3 _ rfl; (with_reducible repeat (fail)); refine blk_put (cs := #[.int .i64 t579, .int .i64 t570, .int .i64 0, .int .i64 0]) ?_ 2 _ rfl; (with_reducible repeat (fail)); refine blk_put (cs := #[.int .i64 t579, .int .i64 0, .int .i64 0, .int .i64 0]) ?_ 1 _ rfl; (with_reducible repeat (fail)); refine blk_put (cs := #[.int .i64 0, .int .i64 0, .int .i64 0, .int .i64 0]) ?_ 0 _ rfl; (with_reducible repeat (fail)); exact BK555.out) Try.underlying58 rfl (by kernel_rfl) .nil)))) rfl ?_
    exact ⟨_, _, by rfl, by (with_reducible repeat (fail)); exact Kd.R_mono (Kd.R_far (p := ⟨gb555, 3, none⟩) (Kd.R_far (p := ⟨gb555, 2, none⟩) (Kd.R_far (p := ⟨gb555, 1, none⟩) (Kd.R_far (p := ⟨gb555, 0, none⟩) (Kd.R_types HO_6.out BK555.out (by decide)) (fun _ hk => hk.2) (.int .i64 t579)) (fun _ hk => hk.2) (.int .i64 t570)) (fun _ hk => hk.2) (.int .i64 t571)) (fun _ hk => hk.2) (.int .i64 t572)) (fun _ hk => trivial), by (with_reducible repeat (fail)); exact Kd.R_mono (Kd.R_far (p := ⟨gb555, 3, none⟩) (Kd.R_far (p := ⟨gb555, 2, none⟩) (Kd.R_far (p := ⟨gb555, 1, none⟩) (Kd.R_far (p := ⟨gb555, 0, none⟩) (Kd.R_mono HO_7.out (fun k_ hk => (⟨hk, hk.1⟩ : _ ∧ k_ ≠ gb555))) (fun _ hk => hk.2) (.int .i64 t579)) (fun _ hk => hk.2) (.int .i64 t570)) (fun _ hk => hk.2) (.int .i64 t571)) (fun _ hk => hk.2) (.int .i64 t572)) (fun _ hk => trivial), by repeat ((with_reducible first | exact HB.out | refine below_set ?_ GE555.out))⟩
   ·replace c15 := Bool.eq_false_iff.mpr c15
    subst c15
    have H1 : (some (t560, t563, t569, t570, t571, t572)) = some (r1, r2, r3, r4, r5, r6) := by rw [if_neg (show ¬ (false = true) by decide)] at H; exact H
    clear H
    have H := H1
    clear H1
    simp only [Option.some.injEq, Prod.mk.injEq] at H
    obtain ⟨rfl, rfl, rfl, rfl, rfl, rfl⟩ := H
    obtain ⟨Ao32, co32, eo32⟩ := Kd.R_slice HO_6.out
    subst eo32
    try go_wp2_with (first | ((with_reducible refine gate_callee (f := 84) rfl ?_); refine goesL_ (some 30) rfl rfl Try.func84 (by kernel_rfl) rfl #[.pointer (some ⟨g559, 0, none⟩), .slice Ao32 t560.length co32, .int .i64 x8_3] rfl (by (try simp only [map_toArray, map_cons, map_nil]); rfl) ?_; (with_reducible refine (spec_l6DrawEvent.calls kj3 g559 t556 t566 t567 _ _ t560 x8_3 t569 t570 t571 t572 t573 t574 w _ ?side1 ?side2 ?side3 ?side4 A13.out).mono ?_); (case side1 => repeat ((with_reducible exact HI559.out))); (case side2 => repeat ((with_reducible exact HB.out))); (case side3 => exact Kd.C_foot_own (IsS93.apart (show IsS93 w _ g559 t556 t566 t567 from by repeat ((with_reducible exact HI559.out))) (by (with_reducible repeat (fail)); exact HO_6.out) (by decide)) (fun _ h_ => h_.2)); (case side4 => exact (R_reads' HO_6.out).2.1); rintro e w33 ⟨rfl, hi, hb, hk⟩; refine ⟨_, rfl, ?_⟩; have n0_ := Aside0.mk (Kd.R_mono (Kd.R_keep (IsS93.apart (show IsS93 w _ g559 t556 t566 t567 from by repeat ((with_reducible exact HI559.out))) (by (with_reducible repeat (fail)); exact HO_6.out) (by decide)) hk (fun _ h => h.2)) (fun _ h => h.1)); have n1_ := Aside0.mk (Kd.R_mono (Kd.R_keep (IsS93.apart (show IsS93 w _ g559 t556 t566 t567 from by repeat ((with_reducible exact HI559.out))) (by (with_reducible repeat (fail)); exact HO_7.out) (by decide)) hk (fun _ h => h.2)) (fun _ h => h.1)); have n2_ := Aside0.mk (KeepBut.blk hk (g' := gb555) (o := .cells #[.int .i64 0, .int .i64 0, .int .i64 0, .int .i64 0] 58 (0, 0)) (by (with_reducible repeat (fail)); exact BK555.out) NB555_559.out (by simp)); have n3_ := Aside0.mk (hb); have n4_ := Aside0.mk (hi); clear HO_6; clear HO_7; clear BK555; clear HB; clear HI559; have HO_6 := n0_; have HO_7 := n1_; have BK555 := n2_; have HB := n3_; have HI559 := n4_; clear n0_ n1_ n2_ n3_ n4_; (try clear hb); (try clear hk); (try clear hi)) | ((with_reducible refine gate_dst (N := 9) rfl ?_); refine box_event ?hg (N := 9) ?hd (cs := #[.int .i64 0, .int .i64 0, .int .i64 0, .int .i64 0]) (t := 58) ?hr ?_; (case hd => rfl); (case hg => rfl); (case hr => (go_simp; done)); intro gb575 hg w34 hbox hb; have n0_ := Aside0.mk (R_below (by (with_reducible repeat (fail)); exact HO_6.out) hb); have n1_ := Aside0.mk (R_below (Kd.R_elderB (by (with_reducible repeat (fail)); exact HO_7.out) gb575 (Nat.le_of_eq hg.symm)) hb); have n2_ := Aside0.mk (blk_below (g := gb555) (o := .cells #[.int .i64 0, .int .i64 0, .int .i64 0, .int .i64 0] 58 (0, 0)) (by (with_reducible repeat (fail)); exact BK555.out) hb); have n3_ := Aside0.mk (IsS93.below (by repeat ((with_reducible exact HI559.out))) hb); have n4_ := Aside0.mk (below_step (by repeat ((with_reducible exact HB.out))) hb); have n5_ := Aside0.mk (hbox); have n6_ := Aside0.mk ((by rw [hg]; exact (below_size (by repeat ((with_reducible exact HB.out)))) : w.heap.size ≤ gb575)); have n7_ := Aside0.mk ((by rw [hg]; exact (below_size (by repeat ((with_reducible exact HB.out)))) : w.heap.size ≤ gb575)); have n8_ := Aside0.mk ((by rw [hg]; exact Nat.ne_of_lt (blk_lt (g := gb555) (o := .cells #[.int .i64 0, .int .i64 0, .int .i64 0, .int .i64 0] 58 (0, 0)) (by (with_reducible repeat (fail)); exact BK555.out)) : gb555 ≠ gb575)); have n9_ := Aside0.mk ((by rw [hg]; exact Nat.ne_of_gt (blk_lt (g := gb555) (o := .cells #[.int .i64 0, .int .i64 0, .int .i64 0, .int .i64 0] 58 (0, 0)) (by (with_reducible repeat (fail)); exact BK555.out)) : gb575 ≠ gb555)); have n10_ := Aside0.mk ((by rw [hg]; exact Nat.ne_of_lt (IsS93.lt (show IsS93 w _ g559 t556 t573 t574 from by repeat ((with_reducible exact HI559.out)))) : g559 ≠ gb575)); have n11_ := Aside0.mk ((by rw [hg]; exact Nat.ne_of_gt (IsS93.lt (show IsS93 w _ g559 t556 t573 t574 from by repeat ((with_reducible exact HI559.out)))) : gb575 ≠ g559)); clear HO_6; clear HO_7; clear BK555; clear HI559; clear HB; have HO_6 := n0_; have HO_7 := n1_; have BK555 := n2_; have HI559 := n3_; have HB := n4_; have BK575 := n5_; have GW575 := n6_; have GE575 := n7_; have NB555_575 := n8_; have NB575_555 := n9_; have NB559_575 := n10_; have NB575_559 := n11_; clear n0_ n1_ n2_ n3_ n4_ n5_ n6_ n7_ n8_ n9_ n10_ n11_; clear hb hbox hg; have hnb35 := NB575_555.out; have hnc35 := NB555_575.out; have hnb36 := NB575_559.out; have hnc36 := NB559_575.out; have hcz37_0 : w34.cell? ⟨gb575, 0, none⟩ = some (.int .i64 0) := (blk_cell BK575.out 0).trans rfl; have hcz37_1 : w34.cell? ⟨gb575, 1, none⟩ = some (.int .i64 0) := (blk_cell BK575.out 1).trans rfl; have hcz37_2 : w34.cell? ⟨gb575, 2, none⟩ = some (.int .i64 0) := (blk_cell BK575.out 2).trans rfl; have hcz37_3 : w34.cell? ⟨gb575, 3, none⟩ = some (.int .i64 0) := (blk_cell BK575.out 3).trans rfl; have hfz37_0 := blk_frozen BK575.out 0; have hfz37_1 := blk_frozen BK575.out 1; have hfz37_2 := blk_frozen BK575.out 2; have hfz37_3 := blk_frozen BK575.out 3) | ((with_reducible refine gate_callee (f := 85) rfl ?_); refine goesL_ (some 32) rfl rfl Try.func85 (by kernel_rfl) rfl #[.pointer (some ⟨g559, 0, none⟩), .int .i64 8] rfl (by (try simp only [map_toArray, map_cons, map_nil]); rfl) ?_; (with_reducible refine (spec_l1Once.calls g559 t556 t573 t574 8 false t577 t578 w _ ?side1 ?side2 A14.out).mono ?_); (case side1 => repeat ((with_reducible first | exact HI559.out | refine IsS93.far ?_ NB559_575.out _))); (case side2 => repeat ((with_reducible first | exact HB.out | refine below_set ?_ GE575.out))); rintro e w38 ⟨rfl, hi, hb, hk⟩; refine ⟨_, rfl, ?_⟩; have n0_ := Aside0.mk (Kd.R_mono (Kd.R_keep (IsS93.apart (show IsS93 w _ g559 t556 t573 t574 from by repeat ((with_reducible first | exact HI559.out | refine IsS93.far ?_ NB559_575.out _))) (by (with_reducible repeat (fail)); exact (Kd.R_mono (Kd.R_far (p := ⟨gb575, 3, none⟩) (Kd.R_far (p := ⟨gb575, 2, none⟩) (Kd.R_far (p := ⟨gb575, 1, none⟩) (Kd.R_far (p := ⟨gb575, 0, none⟩) (Kd.R_types HO_6.out BK575.out (by decide)) (fun _ hk => hk.2) (.int .i64 t569)) (fun _ hk => hk.2) (.int .i64 t570)) (fun _ hk => hk.2) (.int .i64 t571)) (fun _ hk => hk.2) (.int .i64 t572)) (fun _ h_ => h_.1))) (by decide)) hk (fun _ h => h.2)) (fun _ h => h.1)); have n1_ := Aside0.mk (Kd.R_mono (Kd.R_keep (IsS93.apart (show IsS93 w _ g559 t556 t573 t574 from by repeat ((with_reducible first | exact HI559.out | refine IsS93.far ?_ NB559_575.out _))) (by (with_reducible repeat (fail)); exact (Kd.R_mono (Kd.R_far (p := ⟨gb575, 3, none⟩) (Kd.R_far (p := ⟨gb575, 2, none⟩) (Kd.R_far (p := ⟨gb575, 1, none⟩) (Kd.R_far (p := ⟨gb575, 0, none⟩) (Kd.R_mono HO_7.out (fun k_ hk => (⟨hk, hk.2⟩ : _ ∧ k_ ≠ gb575))) (fun _ hk => hk.2) (.int .i64 t569)) (fun _ hk => hk.2) (.int .i64 t570)) (fun _ hk => hk.2) (.int .i64 t571)) (fun _ hk => hk.2) (.int .i64 t572)) (fun _ h_ => h_.1))) (by decide)) hk (fun _ h => h.2)) (fun _ h => h.1)); have n2_ := Aside0.mk (KeepBut.blk hk (g' := gb555) (o := .cells #[.int .i64 0, .int .i64 0, .int .i64 0, .int .i64 0] 58 (0, 0)) (by (with_reducible repeat (fail)); refine blk_far ?_ NB555_575.out _; (with_reducible repeat (fail)); refine blk_far ?_ NB555_575.out _; (with_reducible repeat (fail)); refine blk_far ?_ NB555_575.out _; (with_reducible repeat (fail)); refine blk_far ?_ NB555_575.out _; (with_reducible repeat (fail)); exact BK555.out) NB555_559.out (by simp)); have n3_ := Aside0.mk (KeepBut.blk hk (g' := gb575) (o := .cells #[.int .i64 t569, .int .i64 t570, .int .i64 t571, .int .i64 t572] 58 (0, 0)) (by (with_reducible repeat (fail)); refine blk_put (cs := #[.int .i64 t569, .int .i64 t570, .int .i64 t571, .int .i64 0]) ?_ 3 _ rfl; (with_reducible repeat (fail)); refine blk_put (cs := #[.int .i64 t569, .int .i64 t570, .int .i64 0, .int .i64 0]) ?_ 2 _ rfl; (with_reducible repeat (fail)); refine blk_put (cs := #[.int .i64 t569, .int .i64 0, .int .i64 0, .int .i64 0]) ?_ 1 _ rfl; (with_reducible repeat (fail)); refine blk_put (cs := #[.int .i64 0, .int .i64 0, .int .i64 0, .int .i64 0]) ?_ 0 _ rfl; (with_reducible repeat (fail)); exact BK575.out) NB575_559.out (by simp)); have n4_ := Aside0.mk (hb); have n5_ := Aside0.mk (hi); clear HO_6; clear HO_7; clear BK555; clear BK575; clear HB; clear HI559; have HO_6 := n0_; have HO_7 := n1_; have BK555 := n2_; have BK575 := n3_; have HB := n4_; have HI559 := n5_; clear n0_ n1_ n2_ n3_ n4_ n5_; (try clear hb); (try clear hk); (try clear hi)))
    have n0_ := Aside0.mk (R_drew HO_6.out)
    have n1_ := Aside0.mk (R_drew HO_7.out)
    have n2_ := Aside0.mk (blk_drew BK555.out)
    have n3_ := Aside0.mk (blk_drew BK575.out)
    have n4_ := Aside0.mk (IsS93.drew HI559.out)
    have n5_ := Aside0.mk (bw1 HB.out)
    clear HO_6
    clear HO_7
    clear BK555
    clear BK575
    clear HI559
    clear HB
    have HO_6 := n0_
    have HO_7 := n1_
    have BK555 := n2_
    have BK575 := n3_
    have HI559 := n4_
    have HB := n5_
    clear n0_ n1_ n2_ n3_ n4_ n5_
    refine start_ (n := 6) (S := fun w' => w'.cell? ⟨gb575, 0, none⟩ = some (.int .i64 t569) ∧ w'.cell? ⟨gb575, 1, none⟩ = some (.int .i64 t570) ∧ w'.cell? ⟨gb575, 2, none⟩ = some (.int .i64 t571) ∧ w'.cell? ⟨gb575, 3, none⟩ = some (.int .i64 t572)) (ds := []) #[false, false, false, false, false, false] (by kernel_rfl) rfl rfl ⟨(blk_cell BK575.out 0).trans rfl, (blk_cell BK575.out 1).trans rfl, (blk_cell BK575.out 2).trans rfl, (blk_cell BK575.out 3).trans rfl⟩ (fun hHeld => ?_)
    generalize w38.drew = w39 at HO_6 HO_7 BK555 BK575 HI559 HB hHeld ⊢
    refine pure_ (i := 0) (N := some 38) (v := ?_) (a' := ?_) #[true, false, false, false, false, false] rfl rfl (by kernel_rfl) (fun _ _ _ h => h) (Or.inl ⟨by rfl, ?_⟩) ?_ ?_
    rotate_left
    ·intro w'
     go_simp
     with_reducible rfl
    rotate_left
    ·simp only [Act.put, stA, stZ, stS, i64_w, i32_w]
     rfl
    refine pure_ (i := 1) (N := some 39) (v := ?_) (a' := ?_) #[true, true, false, false, false, false] rfl rfl (by kernel_rfl) (fun _ _ _ h => h) (Or.inl ⟨by rfl, ?_⟩) ?_ ?_
    rotate_left
    ·intro w'
     go_simp
     with_reducible rfl
    rotate_left
    ·simp only [Act.put, stA, stZ, stS, i64_w, i32_w]
     rfl
    refine pure_ (i := 3) (N := some 2) (v := ?_) (a' := ?_) #[true, true, false, true, false, false] rfl rfl (by kernel_rfl) (fun _ _ _ h => h) (Or.inl ⟨by rfl, ?_⟩) ?_ ?_
    rotate_left
    ·intro w'
     go_simp
     with_reducible rfl
    rotate_left
    ·simp only [Act.put, stA, stZ, stS, i64_w, i32_w]
     rfl
    refine pure_ (i := 4) (N := some 3) (v := ?_) (a' := ?_) #[true, true, false, true, true, false] rfl rfl (by kernel_rfl) (fun _ _ _ h => h) (Or.inl ⟨by rfl, ?_⟩) ?_ ?_
    rotate_left
    ·intro w'
     go_simp
     with_reducible rfl
    rotate_left
    ·simp only [Act.put, stA, stZ, stS, i64_w, i32_w]
     rfl
    refine take_ (i := 2) (N := some 40) (v := ?_) (a' := ?_) (bq 5 6) rfl rfl (by kernel_rfl) (fun _ _ _ h => h) (Or.inl ⟨by rfl, ?_⟩) hHeld ?_ ?_
    rotate_left
    ·rintro w' ⟨s0, s1, s2, s3⟩
     go_simp
     with_reducible rfl
    rotate_left
    ·simp only [Act.put, stA, stZ, stS, i64_w, i32_w]
     rfl
    refine one_ (i := 5) (N := none) #[true, true, true, true, true, true] rfl rfl (by kernel_rfl) (by decide) (fun K hK => ?_)
    have hs40 : w39.cell? ⟨gb555, 0, none⟩ = some (.int .i64 0) := (blk_cell BK555.out 0).trans rfl
    have hfs40 := blk_frozen BK555.out 0
    have hns40_1 := NB575_555.out
    have hms40_1 := NB555_575.out
    have hs41 : w39.cell? ⟨gb555, 1, none⟩ = some (.int .i64 0) := (blk_cell BK555.out 1).trans rfl
    have hfs41 := blk_frozen BK555.out 1
    have hns41_1 := NB575_555.out
    have hms41_1 := NB555_575.out
    have hs42 : w39.cell? ⟨gb555, 2, none⟩ = some (.int .i64 0) := (blk_cell BK555.out 2).trans rfl
    have hfs42 := blk_frozen BK555.out 2
    have hns42_1 := NB575_555.out
    have hms42_1 := NB555_575.out
    have hs43 : w39.cell? ⟨gb555, 3, none⟩ = some (.int .i64 0) := (blk_cell BK555.out 3).trans rfl
    have hfs43 := blk_frozen BK555.out 3
    have hns43_1 := NB575_555.out
    have hms43_1 := NB555_575.out
    refine skip_ (w1 := ?_) (by rfl) rfl ?_ ?_
    rotate_left
    ·go_simp
     rfl
    refine hK.out _ _ ⟨((cell_far (p := ⟨gb555, _, none⟩) NB575_555.out _).trans (((cell_far (p := ⟨gb555, _, none⟩) NB575_555.out _).trans (((cell_far (p := ⟨gb555, _, none⟩) NB575_555.out _).trans (((cell_far (p := ⟨gb555, _, none⟩) NB575_555.out _).trans (hHeld.1)))))))), ((cell_far (p := ⟨gb555, _, none⟩) NB575_555.out _).trans (((cell_far (p := ⟨gb555, _, none⟩) NB575_555.out _).trans (((cell_far (p := ⟨gb555, _, none⟩) NB575_555.out _).trans (((cell_far (p := ⟨gb555, _, none⟩) NB575_555.out _).trans (hHeld.2.1)))))))), ((cell_far (p := ⟨gb555, _, none⟩) NB575_555.out _).trans (((cell_far (p := ⟨gb555, _, none⟩) NB575_555.out _).trans (((cell_far (p := ⟨gb555, _, none⟩) NB575_555.out _).trans (((cell_far (p := ⟨gb555, _, none⟩) NB575_555.out _).trans (hHeld.2.2.1)))))))), ((cell_far (p := ⟨gb555, _, none⟩) NB575_555.out _).trans (((cell_far (p := ⟨gb555, _, none⟩) NB575_555.out _).trans (((cell_far (p := ⟨gb555, _, none⟩) NB575_555.out _).trans (((cell_far (p := ⟨gb555, _, none⟩) NB575_555.out _).trans (hHeld.2.2.2))))))))⟩ (fun hHeld => ?_)
    clear hK K
    refine done_ (by kernel_rfl) ?_
    try go_wp2
    refine bodyPost_ret (results_list (rs := [.tmp 2, .tmp 3, .cell 4 58]) rfl (by simp) (.tmp (.tmp (.cell gb555 58 #[.int .i64 t569, .int .i64 t570, .int .i64 t571, .int .i64 t572] (0, 0) _ rfl (by (with_reducible repeat (fail)); refine blk_put (cs := #[.int .i64 t569, .int .i64 t570, .int .i64 t571, .int .i64 0]) ?_ 3 _ rfl; (with_reducible repeat (fail)); refine blk_put (cs := #[.int .i64 t569, .int .i64 t570, .int .i64 0, .int .i64 0]) ?_ 2 _ rfl; (with_reducible repeat (fail)); refine blk_put (cs := #[.int .i64 t569, .int .i64 0, .int .i64 0, .int .i64 0]) ?_ 1 _ rfl; (with_reducible repeat (fail)); refine blk_put (cs := #[.int .i64 0, .int .i64 0, .int .i64 0, .int .i64 0]) ?_ 0 _ rfl; (with_reducible repeat (fail)); exact BK555.out) Try.underlying58 rfl (by kernel_rfl) .nil)))) rfl ?_
    exact ⟨_, _, by rfl, by (with_reducible repeat (fail)); exact Kd.R_mono (Kd.R_far (p := ⟨gb555, 3, none⟩) (Kd.R_far (p := ⟨gb555, 2, none⟩) (Kd.R_far (p := ⟨gb555, 1, none⟩) (Kd.R_far (p := ⟨gb555, 0, none⟩) (Kd.R_types HO_6.out BK555.out (by decide)) (fun _ hk => hk.2) (.int .i64 t569)) (fun _ hk => hk.2) (.int .i64 t570)) (fun _ hk => hk.2) (.int .i64 t571)) (fun _ hk => hk.2) (.int .i64 t572)) (fun _ hk => trivial), by (with_reducible repeat (fail)); exact Kd.R_mono (Kd.R_far (p := ⟨gb555, 3, none⟩) (Kd.R_far (p := ⟨gb555, 2, none⟩) (Kd.R_far (p := ⟨gb555, 1, none⟩) (Kd.R_far (p := ⟨gb555, 0, none⟩) (Kd.R_mono HO_7.out (fun k_ hk => (⟨hk, hk.1⟩ : _ ∧ k_ ≠ gb555))) (fun _ hk => hk.2) (.int .i64 t569)) (fun _ hk => hk.2) (.int .i64 t570)) (fun _ hk => hk.2) (.int .i64 t571)) (fun _ hk => hk.2) (.int .i64 t572)) (fun _ hk => trivial), by repeat ((with_reducible first | exact HB.out | refine below_set ?_ GE555.out))⟩
def laws_likeEvents.l0 : Nat → List (S58) → List (S58) → Int → Option (Bool)
 | 0, _, _, _ => none
 | k + 1, x0, x1, x5 => if x5 < (x0.length : Int) then (if 0 ≤ x5 then (if x5 < (x1.length : Int) then (if (!(((rd_T58 x0 x5).f0) == ((rd_T58 x1 x5).f0)) || (!(((rd_T58 x0 x5).f1) == ((rd_T58 x1 x5).f1)) || (!(((rd_T58 x0 x5).f2) == ((rd_T58 x1 x5).f2)) || (!(((rd_T58 x0 x5).f3) == ((rd_T58 x1 x5).f3)))))) = true then (some false) else (laws_likeEvents.l0 k x0 x1 (wrap64 (x5 + 1)))) else (none)) else (none)) else (some true)
def laws_likeEvents.f (k : Nat) (l0 : List (S58)) (l1 : List (S58)) : Option (Bool) := if (l0.length : Int) = (l1.length : Int) then (laws_likeEvents.l0 k l0 l1 0) else (some false)
set_option maxHeartbeats 8000000 in
set_option maxRecDepth 100000 in
theorem laws_likeEvents.calls (k : Nat) (A0 : Option Addr) (c0 : Nat) (l0 : List (S58)) (A1 : Option Addr) (c1 : Nat) (l1 : List (S58)) (r : Bool) (w : World) (hr0 : Kd.C k58 w A0 l0.length l0) (hc0 : l0.length ≤ c0) (hr1 : Kd.C k58 w A1 l1.length l1) (hc1 : l1.length ≤ c1) (h : laws_likeEvents.f k l0 l1 = some r) :
  Calls Try.prog 59 #[.slice A0 l0.length c0, .slice A1 l1.length c1] w fun e w' => e = .returned (.bool r) ∧ Drawn0 w w' := by
 have hu58 := Try.underlying58
 have HR0 := Aside0.mk hr0
 have HC0 := Aside0.mk hc0
 clear hr0 hc0
 have HR1 := Aside0.mk hr1
 have HC1 := Aside0.mk hc1
 clear hr1 hc1
 have H : (if (l0.length : Int) = (l1.length : Int) then (laws_likeEvents.l0 k l0 l1 0) else (some false)) = some r := h
 clear h
 by_cases c3 : (l0.length : Int) = (l1.length : Int)
 ·rw [if_pos c3] at H
  have c3b0 : ((l0.length : Int) == (l1.length : Int)) = true := beq_iff_eq.mpr c3
  have c3b1 : ((l0.length : Int) != (l1.length : Int)) = false := bne_eq_false_iff_eq.mpr c3
  have c3b2 : (l0.length == l1.length) = true := by (simp at c3 ⊢; omega)
  clear c3
  have H' := Aside0.mk H
  clear H
  go_enter Try.func59, Try.ntmps59
  go_wp2
  repeat (go_quiet (fail); try go_wp2)
  go_loopg [5] k (fun kq v5 w' => ∃ (x5_1 : Int), v5 = .int .i64 x5_1 ∧ Aside0 (laws_likeEvents.l0 kq l0 l1 x5_1 = some r) ∧ Aside0 (kq ≤ k) ∧ Drawn0 w w')
  case atStart => exact ⟨(0), (by rfl), H', ⟨Nat.le_refl _⟩, by repeat (exact Drawn0.refl _)⟩
  case round =>
   clear H'
   try clear c1
   try clear p2
   try clear c3
   try clear c3b0
   try clear c3b1
   try clear c3b2
   obtain ⟨x5_1, rfl, HA, HK1, ⟨m1, rfl⟩⟩ := hrel
   cases gk with
   | zero => exact absurd HA.out (by simp [laws_likeEvents.l0])
   | succ k1 =>
    have H := HA.out
    clear HA
    simp only [laws_likeEvents.l0] at H
    by_cases c4 : x5_1 < (l0.length : Int)
    ·rw [if_pos c4] at H
     have c4b0 : decide (x5_1 < (l0.length : Int)) = true := decide_eq_true c4
     clear c4
     by_cases c5 : 0 ≤ x5_1
     ·rw [if_pos c5] at H
      have c5b0 : decide (0 ≤ x5_1) = true := decide_eq_true c5
      clear c5
      by_cases c6 : x5_1 < (l1.length : Int)
      ·rw [if_pos c6] at H
       have c6b0 : decide (x5_1 < (l1.length : Int)) = true := decide_eq_true c6
       clear c6
       by_cases c7 : (!(((rd_T58 l0 x5_1).f0) == ((rd_T58 l1 x5_1).f0)) || (!(((rd_T58 l0 x5_1).f1) == ((rd_T58 l1 x5_1).f1)) || (!(((rd_T58 l0 x5_1).f2) == ((rd_T58 l1 x5_1).f2)) || (!(((rd_T58 l0 x5_1).f3) == ((rd_T58 l1 x5_1).f3)))))) = true
       ·rw [if_pos c7] at H
        have c7b0 : (!(((rd_T58 l0 x5_1).f0) == ((rd_T58 l1 x5_1).f0)) || (!(((rd_T58 l0 x5_1).f1) == ((rd_T58 l1 x5_1).f1)) || (!(((rd_T58 l0 x5_1).f2) == ((rd_T58 l1 x5_1).f2)) || (!(((rd_T58 l0 x5_1).f3) == ((rd_T58 l1 x5_1).f3)))))) = true := c7
        clear c7
        obtain rfl := Option.some.inj H
        have p582 : 0 ≤ (x5_1 : Int) := of_decide_eq_true (by (with_reducible assumption))
        have q582 : x5_1 < (l0.length : Int) := of_decide_eq_true (by (with_reducible assumption))
        obtain ⟨ad582, e582, hx582_0, hx582_1, hx582_2, hx582_3⟩ := at_T58 HR0.out x5_1 p582 q582
        cases e582
        replace p582 := eq_true p582
        replace q582 := eq_true q582
        have p583 : 0 ≤ (x5_1 : Int) := of_decide_eq_true (by (with_reducible assumption))
        have q583 : x5_1 < (l1.length : Int) := of_decide_eq_true (by (with_reducible assumption))
        obtain ⟨ad583, e583, hx583_0, hx583_1, hx583_2, hx583_3⟩ := at_T58 HR1.out x5_1 p583 q583
        cases e583
        replace p583 := eq_true p583
        replace q583 := eq_true q583
        go_wp2
        repeat (go_quiet (fail); try go_wp2)
        go_ret
        exact ⟨by rfl, by repeat (first | exact Drawn0.refl _ | apply Drawn0.step)⟩
       ·rw [if_neg c7] at H
        have c7b0 : (!(((rd_T58 l0 x5_1).f0) == ((rd_T58 l1 x5_1).f0)) || (!(((rd_T58 l0 x5_1).f1) == ((rd_T58 l1 x5_1).f1)) || (!(((rd_T58 l0 x5_1).f2) == ((rd_T58 l1 x5_1).f2)) || (!(((rd_T58 l0 x5_1).f3) == ((rd_T58 l1 x5_1).f3)))))) = false := by simpa using c7
        clear c7
        have H' := Aside0.mk H
        clear H
        have p582 : 0 ≤ (x5_1 : Int) := of_decide_eq_true (by (with_reducible assumption))
        have q582 : x5_1 < (l0.length : Int) := of_decide_eq_true (by (with_reducible assumption))
        obtain ⟨ad582, e582, hx582_0, hx582_1, hx582_2, hx582_3⟩ := at_T58 HR0.out x5_1 p582 q582
        cases e582
        replace p582 := eq_true p582
        replace q582 := eq_true q582
        have p583 : 0 ≤ (x5_1 : Int) := of_decide_eq_true (by (with_reducible assumption))
        have q583 : x5_1 < (l1.length : Int) := of_decide_eq_true (by (with_reducible assumption))
        obtain ⟨ad583, e583, hx583_0, hx583_1, hx583_2, hx583_3⟩ := at_T58 HR1.out x5_1 p583 q583
        cases e583
        replace p583 := eq_true p583
        replace q583 := eq_true q583
        go_wp2
        repeat (go_quiet (fail); try go_wp2)
        go_roundg k1
        case measure => have := HK1.out; omega
        case rel => exact ⟨(wrap64 (x5_1 + 1)), (by rfl), H', ⟨by have := HK1.out; omega⟩, by repeat (first | exact Drawn0.refl _ | apply Drawn0.step)⟩
      ·rw [if_neg c6] at H
       exact absurd H (by simp)
     ·rw [if_neg c5] at H
      exact absurd H (by simp)
    ·rw [if_neg c4] at H
     have c4b0 : decide (x5_1 < (l0.length : Int)) = false := decide_eq_false c4
     clear c4
     obtain rfl := Option.some.inj H
     go_wp2
     repeat (go_quiet (fail); try go_wp2)
     go_ret
     exact ⟨by rfl, by repeat (first | exact Drawn0.refl _ | apply Drawn0.step)⟩
 ·rw [if_neg c3] at H
  have c3b0 : ((l0.length : Int) == (l1.length : Int)) = false := beq_eq_false_iff_ne.mpr c3
  have c3b1 : ((l0.length : Int) != (l1.length : Int)) = true := bne_iff_ne.mpr c3
  have c3b2 : (l0.length == l1.length) = false := by (simp at c3 ⊢; omega)
  obtain rfl := Option.some.inj H
  go_enter Try.func59, Try.ntmps59
  go_wp2
  repeat (go_quiet (fail); try go_wp2)
  go_ret
  exact ⟨by rfl, by repeat (exact Drawn0.refl _)⟩
end Go.Proofs.Ytcndchcepajmjaa.PFnLetGo
