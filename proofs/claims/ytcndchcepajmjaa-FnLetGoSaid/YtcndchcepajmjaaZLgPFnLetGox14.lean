/- Texts of the claim of the law FnLetGo, made smaller by a program of this session: what the claim does not use is left out. No condition. -/
import Derived.Test.YtcndchcepajmjaaZLgPFnLetGox0
import Derived.Test.YtcndchcepajmjaaZLgPFnLetGox1
import Derived.Test.YtcndchcepajmjaaZLgPFnLetGox2
import Derived.Test.YtcndchcepajmjaaZLgPFnLetGox4
import Derived.Test.YtcndchcepajmjaaZLgPFnLetGox8
import Derived.Test.YtcndchcepajmjaaZLgPFnLetGox9
import Derived.Test.YtcndchcepajmjaaZLgPFnLetGox10
import Derived.Test.YtcndchcepajmjaaZLgPFnLetGox13
namespace Go.Proofs.Ytcndchcepajmjaa.PFnLetGo
open Go.RowKit Go.Proofs.YtcndchcepajmjaaW.PrintWords Go.Proofs.YtcndchcepajmjaaW.PrintLast Go.Proofs.YtcndchcepajmjaaW.PrintMore
open List (map_toArray map_cons map_nil)
open Option (bind_eq_some_iff)
open Kd (R_drew R_drewN R_reads' R_below)
attribute [local go_sem] max2_int min2_int max_two min_two max_three min_three max_four min_four   -- for this text's walks alone
set_option linter.unusedVariables false
set_option linter.unusedSimpArgs false
attribute [local go_sem high] eqA58
mutual
def laws_FnLetGo.l0 : Nat → List (S30) → List (S58) → List (S58) → Int → Int → Int → Int → Int → Option (Bool)
 | 0, _, _, _, _, _, _, _, _ => none
 | k + 1, x3, x4, x6, x10, x596000, x596001, x596002, x596003 => if x10 < (x3.length : Int) then ((impl_FirstOf.f k x3 x4 x10).bind fun bt611 => ((impl_FirstOf.f k x3 x6 x10).bind fun bt617 => ((spec_ChainOf.f k x3 x10).bind fun t623 => ((laws_has.f k t623 x596000).bind fun t626 => (if bt611.2.2.2.2 = true then (if (bt617.2.2.2.2 != true) = true then (laws_FnLetGo.j1 k x3 x4 x6 x10 bt617.2.2.2.2 true x596000 x596001 x596002 x596003 bt617.1 bt617.2.1 bt617.2.2.1 bt617.2.2.2.1) else (if (!(bt611.1 == bt617.1) || (!(bt611.2.1 == bt617.2.1) || (!(bt611.2.2.1 == bt617.2.2.1) || (!(bt611.2.2.2.1 == bt617.2.2.2.1))))) = true then (laws_FnLetGo.j1 k x3 x4 x6 x10 bt617.2.2.2.2 true x596000 x596001 x596002 x596003 bt617.1 bt617.2.1 bt617.2.2.1 bt617.2.2.2.1) else (laws_FnLetGo.j1 k x3 x4 x6 x10 bt617.2.2.2.2 false x596000 x596001 x596002 x596003 bt617.1 bt617.2.1 bt617.2.2.1 bt617.2.2.2.1))) else (if (bt617.2.2.2.2 != t626) = true then (laws_FnLetGo.j1 k x3 x4 x6 x10 bt617.2.2.2.2 true x596000 x596001 x596002 x596003 bt617.1 bt617.2.1 bt617.2.2.1 bt617.2.2.2.1) else (if t626 = true then (laws_FnLetGo.j1 k x3 x4 x6 x10 bt617.2.2.2.2 (!(bt617.1 == x596000) || (!(bt617.2.1 == x596001) || (!(bt617.2.2.1 == x596002) || (!(bt617.2.2.2.1 == x596003))))) x596000 x596001 x596002 x596003 bt617.1 bt617.2.1 bt617.2.2.1 bt617.2.2.2.1) else (laws_FnLetGo.j1 k x3 x4 x6 x10 bt617.2.2.2.2 false x596000 x596001 x596002 x596003 bt617.1 bt617.2.1 bt617.2.2.1 bt617.2.2.2.1)))))))) else ((impl_LetGo.f k x3 x6 x596000 x596001 x596002 x596003).bind fun bt606 => ((impl_EventsOk.f k x3 x6).bind fun t610 => (if t610 = true then (some (!bt606.2)) else (some false))))
def laws_FnLetGo.j1 : Nat → List (S30) → List (S58) → List (S58) → Int → Bool → Bool → Int → Int → Int → Int → Int → Int → Int → Int → Option (Bool)
 | 0, _, _, _, _, _, _, _, _, _, _, _, _, _, _ => none
 | k + 1, x3, x4, x6, x10, x14, x105, x596000, x596001, x596002, x596003, x623000, x623001, x623002, x623003 => if x105 = true then (some false) else ((impl_DoneBy.f k x3 x6).bind fun t627 => ((laws_has.f k t627 x10).bind fun t630 => (if (x14 != t630) = true then (some false) else ((impl_ErrOf.f k x3 x6 x10).bind fun t631 => (if t631 = x623001 then ((impl_CauseOf.f k x3 x6 x10).bind fun t632 => (if t632 = x623002 then (laws_FnLetGo.l0 k x3 x4 x6 (wrap64 (x10 + 1)) x596000 x596001 x596002 x596003) else (some false))) else (some false))))))
end
def laws_FnLetGo.f (k : Nat) (l0 : List Int) : Option (Bool) := (laws_big.f l0).bind fun t584 => (if t584 = true then (some true) else ((spec_DrawLetGo.f k l0).bind fun bt585 => ((impl_LetGo.f k bt585.1 bt585.2.1 bt585.2.2.1 bt585.2.2.2.1 bt585.2.2.2.2.1 bt585.2.2.2.2.2).bind fun bt596 => ((spec_LetGo.f k bt585.1 bt585.2.1 bt585.2.2.1 bt585.2.2.2.1 bt585.2.2.2.2.1 bt585.2.2.2.2.2).bind fun bt600 => (if (bt596.2 != bt600.2) = true then (some false) else (if bt596.2 = true then (laws_FnLetGo.l0 k bt585.1 bt585.2.1 bt596.1 0 bt585.2.2.1 bt585.2.2.2.1 bt585.2.2.2.2.1 bt585.2.2.2.2.2) else ((spec_EventsOk.f k bt585.1 bt585.2.1).bind fun t604 => (if t604 = true then ((laws_likeEvents.f k bt596.1 bt585.2.1).bind fun t605 => (some t605)) else (some true)))))))))
def laws_FnLetGo.T18 : Bool × List (List Nat × List Nat) := (true, [([], []), ([], []), ([], []), ([1, 2], [1, 2]), ([], []), ([3, 4, 3], [3, 4]), ([0, 5], [0, 5]), ([6, 5], [6]), ([7], [7]), ([7], [7]), ([7], [7]), ([8, 9, 10, 7, 7], [7, 8, 9, 10]), ([7], [7]), ([12, 7], [7, 12]), ([11, 13, 7], [7, 11, 13]), ([7, 14], [7, 14]), ([15, 11], [15]), ([16], [16]), ([16], [16]), ([16], [16]), ([17, 18, 19, 16, 16], [16, 17, 18, 19]), ([16], [16]), ([21, 16], [16, 21]), ([20, 22, 16], [16, 20, 22]), ([16, 23], [16, 23])])
def laws_FnLetGo.B18 : List Nat := [0, 0, 0, 6, 0, 30, 63, 127, 255, 255, 255, 2047, 255, 4351, 16383, 32767, 65535, 131071, 131071, 131071, 1048575, 131071, 2228223, 8388607, 16777215]
theorem laws_FnLetGo.tab18 : rtab .any (opsOf Try.f14 18) = laws_FnLetGo.T18 := by kernel_rfl
theorem laws_FnLetGo.bits18 : waitsOk laws_FnLetGo.T18.2 laws_FnLetGo.B18 = true := by kernel_rfl
set_option maxHeartbeats 8000000 in
set_option maxRecDepth 100000 in
theorem laws_FnLetGo.calls (k : Nat) (A0 : Option Addr) (c0 : Nat) (l0 : List Int) (r : Bool) (w : World) (hr0 : Kd.C (Kd.int .u8) w A0 l0.length l0) (hc0 : l0.length ≤ c0) (h : laws_FnLetGo.f k l0 = some r) :
  Calls Try.prog 14 #[.slice A0 l0.length c0] w fun e w' => e = .returned (.bool r) ∧ Below w.heap.size w w' := by
 have hu58 := Try.underlying58
 have HR0 := Aside0.mk hr0
 have HC0 := Aside0.mk hc0
 clear hr0 hc0
 have HB := Aside0.mk (Below.refl w.heap.size w)
 have H : ((laws_big.f l0).bind fun t584 => (if t584 = true then (some true) else ((spec_DrawLetGo.f k l0).bind fun bt585 => ((impl_LetGo.f k bt585.1 bt585.2.1 bt585.2.2.1 bt585.2.2.2.1 bt585.2.2.2.2.1 bt585.2.2.2.2.2).bind fun bt596 => ((spec_LetGo.f k bt585.1 bt585.2.1 bt585.2.2.1 bt585.2.2.2.1 bt585.2.2.2.2.1 bt585.2.2.2.2.2).bind fun bt600 => (if (bt596.2 != bt600.2) = true then (some false) else (if bt596.2 = true then (laws_FnLetGo.l0 k bt585.1 bt585.2.1 bt596.1 0 bt585.2.2.1 bt585.2.2.2.1 bt585.2.2.2.2.1 bt585.2.2.2.2.2) else ((spec_EventsOk.f k bt585.1 bt585.2.1).bind fun t604 => (if t604 = true then ((laws_likeEvents.f k bt596.1 bt585.2.1).bind fun t605 => (some t605)) else (some true)))))))))) = some r := h
 clear h
 replace H := bind_eq_some_iff.mp H
 obtain ⟨t584, A20, H⟩ := H
 replace H : (if t584 = true then (some true) else ((spec_DrawLetGo.f k l0).bind fun bt585 => ((impl_LetGo.f k bt585.1 bt585.2.1 bt585.2.2.1 bt585.2.2.2.1 bt585.2.2.2.2.1 bt585.2.2.2.2.2).bind fun bt596 => ((spec_LetGo.f k bt585.1 bt585.2.1 bt585.2.2.1 bt585.2.2.2.1 bt585.2.2.2.2.1 bt585.2.2.2.2.2).bind fun bt600 => (if (bt596.2 != bt600.2) = true then (some false) else (if bt596.2 = true then (laws_FnLetGo.l0 k bt585.1 bt585.2.1 bt596.1 0 bt585.2.2.1 bt585.2.2.2.1 bt585.2.2.2.2.1 bt585.2.2.2.2.2) else ((spec_EventsOk.f k bt585.1 bt585.2.1).bind fun t604 => (if t604 = true then ((laws_likeEvents.f k bt596.1 bt585.2.1).bind fun t605 => (some t605)) else (some true))))))))) = some r := H
 have A2 := Aside0.mk A20
 clear A20
 by_cases c3 : t584 = true
 ·subst c3
  have H1 : (some true) = some r := by rw [if_pos rfl] at H; exact H
  clear H
  have H := H1
  clear H1
  obtain rfl := Option.some.inj H
  go_enter Try.func14, Try.ntmps14
  go_wp2_with ((with_reducible refine gate_callee (f := 30) rfl ?_); refine goesL_ (some 19) rfl rfl Try.func30 (by kernel_rfl) rfl #[.slice A0 l0.length c0] rfl (by (try simp only [map_toArray, map_cons, map_nil]); rfl) ?_; (with_reducible refine (laws_big.calls _ _ l0 true _ ?side1 ?side2 A2.out).mono ?_); (case side1 => repeat (exact HR0.out)); (case side2 => exact HC0.out); rintro e w' ⟨rfl, ⟨nd, rfl⟩⟩; refine ⟨_, rfl, ?_⟩)
  go_ret
  exact ⟨by rfl, by repeat ((with_reducible first | exact HB.out | apply bwN))⟩
 ·replace c3 := Bool.eq_false_iff.mpr c3
  subst c3
  have H1 : ((spec_DrawLetGo.f k l0).bind fun bt585 => ((impl_LetGo.f k bt585.1 bt585.2.1 bt585.2.2.1 bt585.2.2.2.1 bt585.2.2.2.2.1 bt585.2.2.2.2.2).bind fun bt596 => ((spec_LetGo.f k bt585.1 bt585.2.1 bt585.2.2.1 bt585.2.2.2.1 bt585.2.2.2.2.1 bt585.2.2.2.2.2).bind fun bt600 => (if (bt596.2 != bt600.2) = true then (some false) else (if bt596.2 = true then (laws_FnLetGo.l0 k bt585.1 bt585.2.1 bt596.1 0 bt585.2.2.1 bt585.2.2.2.1 bt585.2.2.2.2.1 bt585.2.2.2.2.2) else ((spec_EventsOk.f k bt585.1 bt585.2.1).bind fun t604 => (if t604 = true then ((laws_likeEvents.f k bt596.1 bt585.2.1).bind fun t605 => (some t605)) else (some true)))))))) = some r := by rw [if_neg (show ¬ (false = true) by decide)] at H; exact H
  clear H
  have H := H1
  clear H1
  replace H := bind_eq_some_iff.mp H
  obtain ⟨⟨t585, t588, t591, t592, t593, t594⟩, A40, H⟩ := H
  replace H : ((impl_LetGo.f k t585 t588 t591 t592 t593 t594).bind fun bt596 => ((spec_LetGo.f k t585 t588 t591 t592 t593 t594).bind fun bt600 => (if (bt596.2 != bt600.2) = true then (some false) else (if bt596.2 = true then (laws_FnLetGo.l0 k t585 t588 bt596.1 0 t591 t592 t593 t594) else ((spec_EventsOk.f k t585 t588).bind fun t604 => (if t604 = true then ((laws_likeEvents.f k bt596.1 t588).bind fun t605 => (some t605)) else (some true))))))) = some r := H
  have A4 := Aside0.mk A40
  clear A40
  replace H := bind_eq_some_iff.mp H
  obtain ⟨⟨t596, t599⟩, A50, H⟩ := H
  replace H : ((spec_LetGo.f k t585 t588 t591 t592 t593 t594).bind fun bt600 => (if (t599 != bt600.2) = true then (some false) else (if t599 = true then (laws_FnLetGo.l0 k t585 t588 t596 0 t591 t592 t593 t594) else ((spec_EventsOk.f k t585 t588).bind fun t604 => (if t604 = true then ((laws_likeEvents.f k t596 t588).bind fun t605 => (some t605)) else (some true)))))) = some r := H
  have A5 := Aside0.mk A50
  clear A50
  replace H := bind_eq_some_iff.mp H
  obtain ⟨⟨t600, t603⟩, A60, H⟩ := H
  replace H : (if (t599 != t603) = true then (some false) else (if t599 = true then (laws_FnLetGo.l0 k t585 t588 t596 0 t591 t592 t593 t594) else ((spec_EventsOk.f k t585 t588).bind fun t604 => (if t604 = true then ((laws_likeEvents.f k t596 t588).bind fun t605 => (some t605)) else (some true))))) = some r := H
  have A6 := Aside0.mk A60
  clear A60
  by_cases c7 : (t599 != t603) = true
  ·rw [if_pos c7] at H
   have c7b0 : (t599 != t603) = true := c7
   (try (have c7b1 : decide (t599 = t603) = false := by simpa using c7))
   (try (have c7b2 : (t599 == t603) = false := by simpa using c7))
   (try (have c7b3 : ¬ (t599 = t603) := by simpa using c7))
   clear c7
   obtain rfl := Option.some.inj H
   go_enter Try.func14, Try.ntmps14
   go_wp2_with (first | ((with_reducible refine gate_callee (f := 30) rfl ?_); refine goesL_ (some 19) rfl rfl Try.func30 (by kernel_rfl) rfl #[.slice A0 l0.length c0] rfl (by (try simp only [map_toArray, map_cons, map_nil]); rfl) ?_; (with_reducible refine (laws_big.calls _ _ l0 false _ ?side1 ?side2 A2.out).mono ?_); (case side1 => repeat (exact HR0.out)); (case side2 => exact HC0.out); rintro e w' ⟨rfl, ⟨nd, rfl⟩⟩; refine ⟨_, rfl, ?_⟩) | ((with_reducible refine gate_callee (f := 58) rfl ?_); refine goesL_ (some 22) rfl rfl Try.func58 (by kernel_rfl) rfl #[.slice A0 l0.length c0] rfl (by (try simp only [map_toArray, map_cons, map_nil]); rfl) ?_; (with_reducible refine (spec_DrawLetGo.calls k _ _ l0 t585 t588 t591 t592 t593 t594 _ ?side1 ?side2 A4.out).mono ?_); (case side1 => repeat (exact HR0.out)); (case side2 => exact HC0.out); rintro e w8 ⟨v586, v589, rfl, ho0, ho1, hb⟩; refine ⟨_, rfl, ?_⟩; have n0_ := Aside0.mk (Kd.R_lower ho0 (below_size (by repeat ((with_reducible first | exact HB.out | apply bwN))))); have n1_ := Aside0.mk (Kd.R_lower ho1 (below_size (by repeat ((with_reducible first | exact HB.out | apply bwN))))); have n2_ := Aside0.mk (below_step (by repeat ((with_reducible first | exact HB.out | apply bwN))) hb); clear HB; have HO587 := n0_; have HO590 := n1_; have HB := n2_; clear n0_ n1_ n2_; (try clear hb); skip; (try clear ho0); (try clear ho1)) | ((with_reducible refine gate_dst (N := 5) rfl ?_); refine box_event ?hg (N := 5) ?hd (cs := #[.int .i64 0, .int .i64 0, .int .i64 0, .int .i64 0]) (t := 58) ?hr ?_; (case hd => rfl); (case hg => rfl); (case hr => (go_simp; done)); intro gb595 hg w9 hbox hb; have n0_ := Aside0.mk (R_below (by (with_reducible repeat (fail)); exact HO587.out) hb); have n1_ := Aside0.mk (R_below (Kd.R_elderB (by (with_reducible repeat (fail)); exact HO590.out) gb595 (Nat.le_of_eq hg.symm)) hb); have n2_ := Aside0.mk (below_step (by repeat ((with_reducible exact HB.out))) hb); have n3_ := Aside0.mk (hbox); have n4_ := Aside0.mk ((by rw [hg]; exact (below_size (by repeat ((with_reducible exact HB.out)))) : w.heap.size ≤ gb595)); have n5_ := Aside0.mk ((by rw [hg]; exact (below_size (by repeat ((with_reducible exact HB.out)))) : w.heap.size ≤ gb595)); clear HO587; clear HO590; clear HB; have HO587 := n0_; have HO590 := n1_; have HB := n2_; have BK595 := n3_; have GW595 := n4_; have GE595 := n5_; clear n0_ n1_ n2_ n3_ n4_ n5_; clear hb hbox hg; have hcz10_0 : w9.cell? ⟨gb595, 0, none⟩ = some (.int .i64 0) := (blk_cell BK595.out 0).trans rfl; have hcz10_1 : w9.cell? ⟨gb595, 1, none⟩ = some (.int .i64 0) := (blk_cell BK595.out 1).trans rfl; have hcz10_2 : w9.cell? ⟨gb595, 2, none⟩ = some (.int .i64 0) := (blk_cell BK595.out 2).trans rfl; have hcz10_3 : w9.cell? ⟨gb595, 3, none⟩ = some (.int .i64 0) := (blk_cell BK595.out 3).trans rfl; have hfz10_0 := blk_frozen BK595.out 0; have hfz10_1 := blk_frozen BK595.out 1; have hfz10_2 := blk_frozen BK595.out 2; have hfz10_3 := blk_frozen BK595.out 3; obtain ⟨Ao11, co11, eo11⟩ := Kd.R_slice HO587.out; subst eo11; obtain ⟨Ao12, co12, eo12⟩ := Kd.R_slice HO590.out; subst eo12) | ((with_reducible refine gate_callee (f := 53) rfl ?_); refine goesL_ (some 30) rfl rfl Try.func53 (by kernel_rfl) rfl #[.slice Ao11 t585.length co11, .slice Ao12 t588.length co12, .agg #[.int .i64 t591, .int .i64 t592, .int .i64 t593, .int .i64 t594]] rfl (by (try simp only [map_toArray, map_cons, map_nil]); rfl) ?_; (with_reducible refine (impl_LetGo.calls k _ _ t585 _ _ t588 t591 t592 t593 t594 t596 t599 _ ?side1 ?side2 ?side3 ?side4 A5.out).mono ?_); (case side1 => refine (R_reads' (e := 30) (base := w.heap.size) (ok := fun k_ => True) (n := t585.length) (c := co11) ?_).2.2; exact (by (with_reducible repeat (fail)); exact (Kd.R_mono (Kd.R_far (p := ⟨gb595, 3, none⟩) (Kd.R_far (p := ⟨gb595, 2, none⟩) (Kd.R_far (p := ⟨gb595, 1, none⟩) (Kd.R_far (p := ⟨gb595, 0, none⟩) (Kd.R_types HO587.out BK595.out (by decide)) (fun _ hk => hk.2) (.int .i64 t591)) (fun _ hk => hk.2) (.int .i64 t592)) (fun _ hk => hk.2) (.int .i64 t593)) (fun _ hk => hk.2) (.int .i64 t594)) (fun _ h_ => h_.1)))); (case side2 => exact (R_reads' HO587.out).2.1); (case side3 => refine (R_reads' (e := 58) (base := w.heap.size) (ok := fun k_ => (True ∧ k_ ≠ gb595)) (n := t588.length) (c := co12) ?_).2.2; exact (by (with_reducible repeat (fail)); exact (Kd.R_mono (Kd.R_far (p := ⟨gb595, 3, none⟩) (Kd.R_far (p := ⟨gb595, 2, none⟩) (Kd.R_far (p := ⟨gb595, 1, none⟩) (Kd.R_far (p := ⟨gb595, 0, none⟩) (Kd.R_mono HO590.out (fun k_ hk => (⟨hk, hk.2⟩ : _ ∧ k_ ≠ gb595))) (fun _ hk => hk.2) (.int .i64 t591)) (fun _ hk => hk.2) (.int .i64 t592)) (fun _ hk => hk.2) (.int .i64 t593)) (fun _ hk => hk.2) (.int .i64 t594)) (fun _ h_ => h_.1)))); (case side4 => exact (R_reads' HO590.out).2.1); rintro e w13 ⟨v597, rfl, ho0, hb⟩; refine ⟨_, rfl, ?_⟩; have n0_ := Aside0.mk (R_below (by (with_reducible repeat (fail)); exact (Kd.R_mono (Kd.R_far (p := ⟨gb595, 3, none⟩) (Kd.R_far (p := ⟨gb595, 2, none⟩) (Kd.R_far (p := ⟨gb595, 1, none⟩) (Kd.R_far (p := ⟨gb595, 0, none⟩) (Kd.R_types HO587.out BK595.out (by decide)) (fun _ hk => hk.2) (.int .i64 t591)) (fun _ hk => hk.2) (.int .i64 t592)) (fun _ hk => hk.2) (.int .i64 t593)) (fun _ hk => hk.2) (.int .i64 t594)) (fun _ h_ => h_.1))) hb); have n1_ := Aside0.mk (Kd.R_elder' (by (with_reducible repeat (fail)); exact (Kd.R_mono (Kd.R_far (p := ⟨gb595, 3, none⟩) (Kd.R_far (p := ⟨gb595, 2, none⟩) (Kd.R_far (p := ⟨gb595, 1, none⟩) (Kd.R_far (p := ⟨gb595, 0, none⟩) (Kd.R_mono HO590.out (fun k_ hk => (⟨hk, hk.2⟩ : _ ∧ k_ ≠ gb595))) (fun _ hk => hk.2) (.int .i64 t591)) (fun _ hk => hk.2) (.int .i64 t592)) (fun _ hk => hk.2) (.int .i64 t593)) (fun _ hk => hk.2) (.int .i64 t594)) (fun _ h_ => h_.1))) (Kd.R_base ho0) hb); have n2_ := Aside0.mk (Kd.R_lower (Kd.R_newB (Kd.R_new' ho0 (Kd.R_lt (by (with_reducible repeat (fail)); exact (Kd.R_mono (Kd.R_far (p := ⟨gb595, 3, none⟩) (Kd.R_far (p := ⟨gb595, 2, none⟩) (Kd.R_far (p := ⟨gb595, 1, none⟩) (Kd.R_far (p := ⟨gb595, 0, none⟩) (Kd.R_mono HO590.out (fun k_ hk => (⟨hk, hk.2⟩ : _ ∧ k_ ≠ gb595))) (fun _ hk => hk.2) (.int .i64 t591)) (fun _ hk => hk.2) (.int .i64 t592)) (fun _ hk => hk.2) (.int .i64 t593)) (fun _ hk => hk.2) (.int .i64 t594)) (fun _ h_ => h_.1))))) (g := gb595) (o := .cells #[.int .i64 t591, .int .i64 t592, .int .i64 t593, .int .i64 t594] 58 (0, 0)) (by (with_reducible repeat (fail)); refine blk_put (cs := #[.int .i64 t591, .int .i64 t592, .int .i64 t593, .int .i64 0]) ?_ 3 _ rfl; (with_reducible repeat (fail)); refine blk_put (cs := #[.int .i64 t591, .int .i64 t592, .int .i64 0, .int .i64 0]) ?_ 2 _ rfl; (with_reducible repeat (fail)); refine blk_put (cs := #[.int .i64 t591, .int .i64 0, .int .i64 0, .int .i64 0]) ?_ 1 _ rfl; (with_reducible repeat (fail)); refine blk_put (cs := #[.int .i64 0, .int .i64 0, .int .i64 0, .int .i64 0]) ?_ 0 _ rfl; (with_reducible repeat (fail)); exact BK595.out)) (below_size (by repeat ((with_reducible first | exact HB.out | refine below_set ?_ GE595.out))))); have n3_ := Aside0.mk (blk_below (g := gb595) (o := .cells #[.int .i64 t591, .int .i64 t592, .int .i64 t593, .int .i64 t594] 58 (0, 0)) (by (with_reducible repeat (fail)); refine blk_put (cs := #[.int .i64 t591, .int .i64 t592, .int .i64 t593, .int .i64 0]) ?_ 3 _ rfl; (with_reducible repeat (fail)); refine blk_put (cs := #[.int .i64 t591, .int .i64 t592, .int .i64 0, .int .i64 0]) ?_ 2 _ rfl; (with_reducible repeat (fail)); refine blk_put (cs := #[.int .i64 t591, .int .i64 0, .int .i64 0, .int .i64 0]) ?_ 1 _ rfl; (with_reducible repeat (fail)); refine blk_put (cs := #[.int .i64 0, .int .i64 0, .int .i64 0, .int .i64 0]) ?_ 0 _ rfl; (with_reducible repeat (fail)); exact BK595.out) hb); have n4_ := Aside0.mk (below_step (by repeat ((with_reducible first | exact HB.out | refine below_set ?_ GE595.out))) hb); clear HO587; clear HO590; clear BK595; clear HB; have HO587 := n0_; have HO590 := n1_; have HO598 := n2_; have BK595 := n3_; have HB := n4_; clear n0_ n1_ n2_ n3_ n4_; (try clear hb); skip; (try clear ho0); have hcz14_0 : w13.cell? ⟨gb595, 0, none⟩ = some (.int .i64 t591) := (blk_cell BK595.out 0).trans rfl; have hcz14_1 : w13.cell? ⟨gb595, 1, none⟩ = some (.int .i64 t592) := (blk_cell BK595.out 1).trans rfl; have hcz14_2 : w13.cell? ⟨gb595, 2, none⟩ = some (.int .i64 t593) := (blk_cell BK595.out 2).trans rfl; have hcz14_3 : w13.cell? ⟨gb595, 3, none⟩ = some (.int .i64 t594) := (blk_cell BK595.out 3).trans rfl; have hfz14_0 := blk_frozen BK595.out 0; have hfz14_1 := blk_frozen BK595.out 1; have hfz14_2 := blk_frozen BK595.out 2; have hfz14_3 := blk_frozen BK595.out 3) | ((with_reducible refine gate_callee (f := 51) rfl ?_); refine goesL_ (some 37) rfl rfl Try.func51 (by kernel_rfl) rfl #[.slice Ao11 t585.length co11, .slice Ao12 t588.length co12, .agg #[.int .i64 t591, .int .i64 t592, .int .i64 t593, .int .i64 t594]] rfl (by (try simp only [map_toArray, map_cons, map_nil]); rfl) ?_; (with_reducible refine (spec_LetGo.calls k _ _ t585 _ _ t588 t591 t592 t593 t594 t600 t603 _ ?side1 ?side2 ?side3 ?side4 A6.out).mono ?_); (case side1 => repeat (exact (R_reads' HO587.out).2.2)); (case side2 => exact (R_reads' HO587.out).2.1); (case side3 => repeat (exact (R_reads' HO590.out).2.2)); (case side4 => exact (R_reads' HO590.out).2.1); rintro e w15 ⟨v601, rfl, ho0, hb⟩; refine ⟨_, rfl, ?_⟩; have n0_ := Aside0.mk (R_below (by (with_reducible repeat (fail)); exact HO587.out) hb); have n1_ := Aside0.mk (Kd.R_elder' (by (with_reducible repeat (fail)); exact HO590.out) (Kd.R_base ho0) hb); have n2_ := Aside0.mk (Kd.R_elder' (by (with_reducible repeat (fail)); exact HO598.out) (Kd.R_base ho0) hb); have n3_ := Aside0.mk (Kd.R_lower (Kd.R_newB (Kd.R_new' (Kd.R_new' ho0 (Kd.R_lt (by (with_reducible repeat (fail)); exact HO590.out))) (Kd.R_lt (by (with_reducible repeat (fail)); exact HO598.out))) (g := gb595) (o := .cells #[.int .i64 t591, .int .i64 t592, .int .i64 t593, .int .i64 t594] 58 (0, 0)) (by (with_reducible repeat (fail)); exact BK595.out)) (below_size (by repeat ((with_reducible exact HB.out))))); have n4_ := Aside0.mk (blk_below (g := gb595) (o := .cells #[.int .i64 t591, .int .i64 t592, .int .i64 t593, .int .i64 t594] 58 (0, 0)) (by (with_reducible repeat (fail)); exact BK595.out) hb); have n5_ := Aside0.mk (below_step (by repeat ((with_reducible exact HB.out))) hb); clear HO587; clear HO590; clear HO598; clear BK595; clear HB; have HO587 := n0_; have HO590 := n1_; have HO598 := n2_; have HO602 := n3_; have BK595 := n4_; have HB := n5_; clear n0_ n1_ n2_ n3_ n4_ n5_; (try clear hb); skip; (try clear ho0)))
   go_ret
   exact ⟨by rfl, by repeat ((with_reducible exact HB.out))⟩
  ·rw [if_neg c7] at H
   have c7b0 : (t599 != t603) = false := by simpa using c7
   (try (have c7b1 : decide (t599 = t603) = true := by simpa using c7))
   (try (have c7b2 : (t599 == t603) = true := by simpa using c7))
   clear c7
   by_cases c16 : t599 = true
   ·subst c16
    have H1 : (laws_FnLetGo.l0 k t585 t588 t596 0 t591 t592 t593 t594) = some r := by rw [if_pos rfl] at H; exact H
    clear H
    have H := H1
    clear H1
    have H' := Aside0.mk H
    clear H
    go_enter Try.func14, Try.ntmps14
    go_wp2_with (first | ((with_reducible refine gate_callee (f := 30) rfl ?_); refine goesL_ (some 19) rfl rfl Try.func30 (by kernel_rfl) rfl #[.slice A0 l0.length c0] rfl (by (try simp only [map_toArray, map_cons, map_nil]); rfl) ?_; (with_reducible refine (laws_big.calls _ _ l0 false _ ?side1 ?side2 A2.out).mono ?_); (case side1 => repeat (exact HR0.out)); (case side2 => exact HC0.out); rintro e w' ⟨rfl, ⟨nd, rfl⟩⟩; refine ⟨_, rfl, ?_⟩) | ((with_reducible refine gate_callee (f := 58) rfl ?_); refine goesL_ (some 22) rfl rfl Try.func58 (by kernel_rfl) rfl #[.slice A0 l0.length c0] rfl (by (try simp only [map_toArray, map_cons, map_nil]); rfl) ?_; (with_reducible refine (spec_DrawLetGo.calls k _ _ l0 t585 t588 t591 t592 t593 t594 _ ?side1 ?side2 A4.out).mono ?_); (case side1 => repeat (exact HR0.out)); (case side2 => exact HC0.out); rintro e w17 ⟨v586, v589, rfl, ho0, ho1, hb⟩; refine ⟨_, rfl, ?_⟩; have n0_ := Aside0.mk (Kd.R_lower ho0 (below_size (by repeat ((with_reducible first | exact HB.out | apply bwN))))); have n1_ := Aside0.mk (Kd.R_lower ho1 (below_size (by repeat ((with_reducible first | exact HB.out | apply bwN))))); have n2_ := Aside0.mk (below_step (by repeat ((with_reducible first | exact HB.out | apply bwN))) hb); clear HB; have HO587 := n0_; have HO590 := n1_; have HB := n2_; clear n0_ n1_ n2_; (try clear hb); skip; (try clear ho0); (try clear ho1)) | ((with_reducible refine gate_dst (N := 5) rfl ?_); refine box_event ?hg (N := 5) ?hd (cs := #[.int .i64 0, .int .i64 0, .int .i64 0, .int .i64 0]) (t := 58) ?hr ?_; (case hd => rfl); (case hg => rfl); (case hr => (go_simp; done)); intro gb595 hg w18 hbox hb; have n0_ := Aside0.mk (R_below (by (with_reducible repeat (fail)); exact HO587.out) hb); have n1_ := Aside0.mk (R_below (Kd.R_elderB (by (with_reducible repeat (fail)); exact HO590.out) gb595 (Nat.le_of_eq hg.symm)) hb); have n2_ := Aside0.mk (below_step (by repeat ((with_reducible exact HB.out))) hb); have n3_ := Aside0.mk (hbox); have n4_ := Aside0.mk ((by rw [hg]; exact (below_size (by repeat ((with_reducible exact HB.out)))) : w.heap.size ≤ gb595)); have n5_ := Aside0.mk ((by rw [hg]; exact (below_size (by repeat ((with_reducible exact HB.out)))) : w.heap.size ≤ gb595)); clear HO587; clear HO590; clear HB; have HO587 := n0_; have HO590 := n1_; have HB := n2_; have BK595 := n3_; have GW595 := n4_; have GE595 := n5_; clear n0_ n1_ n2_ n3_ n4_ n5_; clear hb hbox hg; have hcz19_0 : w18.cell? ⟨gb595, 0, none⟩ = some (.int .i64 0) := (blk_cell BK595.out 0).trans rfl; have hcz19_1 : w18.cell? ⟨gb595, 1, none⟩ = some (.int .i64 0) := (blk_cell BK595.out 1).trans rfl; have hcz19_2 : w18.cell? ⟨gb595, 2, none⟩ = some (.int .i64 0) := (blk_cell BK595.out 2).trans rfl; have hcz19_3 : w18.cell? ⟨gb595, 3, none⟩ = some (.int .i64 0) := (blk_cell BK595.out 3).trans rfl; have hfz19_0 := blk_frozen BK595.out 0; have hfz19_1 := blk_frozen BK595.out 1; have hfz19_2 := blk_frozen BK595.out 2; have hfz19_3 := blk_frozen BK595.out 3; obtain ⟨Ao20, co20, eo20⟩ := Kd.R_slice HO587.out; subst eo20; obtain ⟨Ao21, co21, eo21⟩ := Kd.R_slice HO590.out; subst eo21) | ((with_reducible refine gate_callee (f := 53) rfl ?_); refine goesL_ (some 30) rfl rfl Try.func53 (by kernel_rfl) rfl #[.slice Ao20 t585.length co20, .slice Ao21 t588.length co21, .agg #[.int .i64 t591, .int .i64 t592, .int .i64 t593, .int .i64 t594]] rfl (by (try simp only [map_toArray, map_cons, map_nil]); rfl) ?_; (with_reducible refine (impl_LetGo.calls k _ _ t585 _ _ t588 t591 t592 t593 t594 t596 true _ ?side1 ?side2 ?side3 ?side4 A5.out).mono ?_); (case side1 => refine (R_reads' (e := 30) (base := w.heap.size) (ok := fun k_ => True) (n := t585.length) (c := co20) ?_).2.2; exact (by (with_reducible repeat (fail)); exact (Kd.R_mono (Kd.R_far (p := ⟨gb595, 3, none⟩) (Kd.R_far (p := ⟨gb595, 2, none⟩) (Kd.R_far (p := ⟨gb595, 1, none⟩) (Kd.R_far (p := ⟨gb595, 0, none⟩) (Kd.R_types HO587.out BK595.out (by decide)) (fun _ hk => hk.2) (.int .i64 t591)) (fun _ hk => hk.2) (.int .i64 t592)) (fun _ hk => hk.2) (.int .i64 t593)) (fun _ hk => hk.2) (.int .i64 t594)) (fun _ h_ => h_.1)))); (case side2 => exact (R_reads' HO587.out).2.1); (case side3 => refine (R_reads' (e := 58) (base := w.heap.size) (ok := fun k_ => (True ∧ k_ ≠ gb595)) (n := t588.length) (c := co21) ?_).2.2; exact (by (with_reducible repeat (fail)); exact (Kd.R_mono (Kd.R_far (p := ⟨gb595, 3, none⟩) (Kd.R_far (p := ⟨gb595, 2, none⟩) (Kd.R_far (p := ⟨gb595, 1, none⟩) (Kd.R_far (p := ⟨gb595, 0, none⟩) (Kd.R_mono HO590.out (fun k_ hk => (⟨hk, hk.2⟩ : _ ∧ k_ ≠ gb595))) (fun _ hk => hk.2) (.int .i64 t591)) (fun _ hk => hk.2) (.int .i64 t592)) (fun _ hk => hk.2) (.int .i64 t593)) (fun _ hk => hk.2) (.int .i64 t594)) (fun _ h_ => h_.1)))); (case side4 => exact (R_reads' HO590.out).2.1); rintro e w22 ⟨v597, rfl, ho0, hb⟩; refine ⟨_, rfl, ?_⟩; have n0_ := Aside0.mk (R_below (by (with_reducible repeat (fail)); exact (Kd.R_mono (Kd.R_far (p := ⟨gb595, 3, none⟩) (Kd.R_far (p := ⟨gb595, 2, none⟩) (Kd.R_far (p := ⟨gb595, 1, none⟩) (Kd.R_far (p := ⟨gb595, 0, none⟩) (Kd.R_types HO587.out BK595.out (by decide)) (fun _ hk => hk.2) (.int .i64 t591)) (fun _ hk => hk.2) (.int .i64 t592)) (fun _ hk => hk.2) (.int .i64 t593)) (fun _ hk => hk.2) (.int .i64 t594)) (fun _ h_ => h_.1))) hb); have n1_ := Aside0.mk (Kd.R_elder' (by (with_reducible repeat (fail)); exact (Kd.R_mono (Kd.R_far (p := ⟨gb595, 3, none⟩) (Kd.R_far (p := ⟨gb595, 2, none⟩) (Kd.R_far (p := ⟨gb595, 1, none⟩) (Kd.R_far (p := ⟨gb595, 0, none⟩) (Kd.R_mono HO590.out (fun k_ hk => (⟨hk, hk.2⟩ : _ ∧ k_ ≠ gb595))) (fun _ hk => hk.2) (.int .i64 t591)) (fun _ hk => hk.2) (.int .i64 t592)) (fun _ hk => hk.2) (.int .i64 t593)) (fun _ hk => hk.2) (.int .i64 t594)) (fun _ h_ => h_.1))) (Kd.R_base ho0) hb); have n2_ := Aside0.mk (Kd.R_lower (Kd.R_newB (Kd.R_new' ho0 (Kd.R_lt (by (with_reducible repeat (fail)); exact (Kd.R_mono (Kd.R_far (p := ⟨gb595, 3, none⟩) (Kd.R_far (p := ⟨gb595, 2, none⟩) (Kd.R_far (p := ⟨gb595, 1, none⟩) (Kd.R_far (p := ⟨gb595, 0, none⟩) (Kd.R_mono HO590.out (fun k_ hk => (⟨hk, hk.2⟩ : _ ∧ k_ ≠ gb595))) (fun _ hk => hk.2) (.int .i64 t591)) (fun _ hk => hk.2) (.int .i64 t592)) (fun _ hk => hk.2) (.int .i64 t593)) (fun _ hk => hk.2) (.int .i64 t594)) (fun _ h_ => h_.1))))) (g := gb595) (o := .cells #[.int .i64 t591, .int .i64 t592, .int .i64 t593, .int .i64 t594] 58 (0, 0)) (by (with_reducible repeat (fail)); refine blk_put (cs := #[.int .i64 t591, .int .i64 t592, .int .i64 t593, .int .i64 0]) ?_ 3 _ rfl; (with_reducible repeat (fail)); refine blk_put (cs := #[.int .i64 t591, .int .i64 t592, .int .i64 0, .int .i64 0]) ?_ 2 _ rfl; (with_reducible repeat (fail)); refine blk_put (cs := #[.int .i64 t591, .int .i64 0, .int .i64 0, .int .i64 0]) ?_ 1 _ rfl; (with_reducible repeat (fail)); refine blk_put (cs := #[.int .i64 0, .int .i64 0, .int .i64 0, .int .i64 0]) ?_ 0 _ rfl; (with_reducible repeat (fail)); exact BK595.out)) (below_size (by repeat ((with_reducible first | exact HB.out | refine below_set ?_ GE595.out))))); have n3_ := Aside0.mk (blk_below (g := gb595) (o := .cells #[.int .i64 t591, .int .i64 t592, .int .i64 t593, .int .i64 t594] 58 (0, 0)) (by (with_reducible repeat (fail)); refine blk_put (cs := #[.int .i64 t591, .int .i64 t592, .int .i64 t593, .int .i64 0]) ?_ 3 _ rfl; (with_reducible repeat (fail)); refine blk_put (cs := #[.int .i64 t591, .int .i64 t592, .int .i64 0, .int .i64 0]) ?_ 2 _ rfl; (with_reducible repeat (fail)); refine blk_put (cs := #[.int .i64 t591, .int .i64 0, .int .i64 0, .int .i64 0]) ?_ 1 _ rfl; (with_reducible repeat (fail)); refine blk_put (cs := #[.int .i64 0, .int .i64 0, .int .i64 0, .int .i64 0]) ?_ 0 _ rfl; (with_reducible repeat (fail)); exact BK595.out) hb); have n4_ := Aside0.mk (below_step (by repeat ((with_reducible first | exact HB.out | refine below_set ?_ GE595.out))) hb); clear HO587; clear HO590; clear BK595; clear HB; have HO587 := n0_; have HO590 := n1_; have HO598 := n2_; have BK595 := n3_; have HB := n4_; clear n0_ n1_ n2_ n3_ n4_; (try clear hb); skip; (try clear ho0); have hcz23_0 : w22.cell? ⟨gb595, 0, none⟩ = some (.int .i64 t591) := (blk_cell BK595.out 0).trans rfl; have hcz23_1 : w22.cell? ⟨gb595, 1, none⟩ = some (.int .i64 t592) := (blk_cell BK595.out 1).trans rfl; have hcz23_2 : w22.cell? ⟨gb595, 2, none⟩ = some (.int .i64 t593) := (blk_cell BK595.out 2).trans rfl; have hcz23_3 : w22.cell? ⟨gb595, 3, none⟩ = some (.int .i64 t594) := (blk_cell BK595.out 3).trans rfl; have hfz23_0 := blk_frozen BK595.out 0; have hfz23_1 := blk_frozen BK595.out 1; have hfz23_2 := blk_frozen BK595.out 2; have hfz23_3 := blk_frozen BK595.out 3) | ((with_reducible refine gate_callee (f := 51) rfl ?_); refine goesL_ (some 37) rfl rfl Try.func51 (by kernel_rfl) rfl #[.slice Ao20 t585.length co20, .slice Ao21 t588.length co21, .agg #[.int .i64 t591, .int .i64 t592, .int .i64 t593, .int .i64 t594]] rfl (by (try simp only [map_toArray, map_cons, map_nil]); rfl) ?_; (with_reducible refine (spec_LetGo.calls k _ _ t585 _ _ t588 t591 t592 t593 t594 t600 t603 _ ?side1 ?side2 ?side3 ?side4 A6.out).mono ?_); (case side1 => repeat (exact (R_reads' HO587.out).2.2)); (case side2 => exact (R_reads' HO587.out).2.1); (case side3 => repeat (exact (R_reads' HO590.out).2.2)); (case side4 => exact (R_reads' HO590.out).2.1); rintro e w24 ⟨v601, rfl, ho0, hb⟩; refine ⟨_, rfl, ?_⟩; have n0_ := Aside0.mk (R_below (by (with_reducible repeat (fail)); exact HO587.out) hb); have n1_ := Aside0.mk (Kd.R_elder' (by (with_reducible repeat (fail)); exact HO590.out) (Kd.R_base ho0) hb); have n2_ := Aside0.mk (Kd.R_elder' (by (with_reducible repeat (fail)); exact HO598.out) (Kd.R_base ho0) hb); have n3_ := Aside0.mk (Kd.R_lower (Kd.R_newB (Kd.R_new' (Kd.R_new' ho0 (Kd.R_lt (by (with_reducible repeat (fail)); exact HO590.out))) (Kd.R_lt (by (with_reducible repeat (fail)); exact HO598.out))) (g := gb595) (o := .cells #[.int .i64 t591, .int .i64 t592, .int .i64 t593, .int .i64 t594] 58 (0, 0)) (by (with_reducible repeat (fail)); exact BK595.out)) (below_size (by repeat ((with_reducible exact HB.out))))); have n4_ := Aside0.mk (blk_below (g := gb595) (o := .cells #[.int .i64 t591, .int .i64 t592, .int .i64 t593, .int .i64 t594] 58 (0, 0)) (by (with_reducible repeat (fail)); exact BK595.out) hb); have n5_ := Aside0.mk (below_step (by repeat ((with_reducible exact HB.out))) hb); clear HO587; clear HO590; clear HO598; clear BK595; clear HB; have HO587 := n0_; have HO590 := n1_; have HO598 := n2_; have HO602 := n3_; have BK595 := n4_; have HB := n5_; clear n0_ n1_ n2_ n3_ n4_ n5_; (try clear hb); skip; (try clear ho0)))
    go_loopg [10] k (fun kq v10 w' => ∃ (x10_1 : Int), v10 = .int .i64 x10_1 ∧ Aside0 (laws_FnLetGo.l0 kq t585 t588 t596 x10_1 t591 t592 t593 t594 = some r) ∧ Aside0 (kq ≤ k) ∧ Aside0 (Kd.R k30 30 w' w.heap.size (fun _ => True) (.slice Ao20 t585.length co20) t585) ∧ Aside0 (Kd.R k58 58 w' w.heap.size (fun k_ => some k_ ≠ (v597 : Value).ownBlock ∧ k_ ≠ gb595) (.slice Ao21 t588.length co21) t588) ∧ Aside0 (Kd.R k58 58 w' w.heap.size (fun k_ => some k_ ≠ ((.slice Ao21 t588.length co21) : Value).ownBlock ∧ k_ ≠ gb595) v597 t596) ∧ Aside0 (w'.heap[gb595]? = some (.cells #[.int .i64 t591, .int .i64 t592, .int .i64 t593, .int .i64 t594] 58 (0, 0))) ∧ Aside0 (Below w.heap.size w w'))
    case atStart => exact ⟨(0), (by rfl), H', ⟨Nat.le_refl _⟩, ⟨by (with_reducible repeat (fail)); exact HO587.out⟩, ⟨by (with_reducible repeat (fail)); exact Kd.R_mono HO590.out (fun _ hk => ⟨hk.1.2, hk.1.1.2⟩)⟩, ⟨by (with_reducible repeat (fail)); exact Kd.R_mono HO598.out (fun _ hk => ⟨hk.1.1.2, hk.1.2⟩)⟩, ⟨by (with_reducible repeat (fail)); exact BK595.out⟩, ⟨by repeat ((with_reducible exact HB.out))⟩⟩
    case round =>
     clear H'
     try clear c1
     try clear p2
     try clear c3
     try clear c5
     try clear c7
     try clear c7b0
     try clear c7b1
     try clear c7b2
     try clear c14
     try clear c16
     try clear hcz10_0
     try clear hcz10_1
     try clear hcz10_2
     try clear hcz10_3
     try clear hcz14_0
     try clear hcz14_1
     try clear hcz14_2
     try clear hcz14_3
     try clear hcz19_0
     try clear hcz19_1
     try clear hcz19_2
     try clear hcz19_3
     try clear hcz23_0
     try clear hcz23_1
     try clear hcz23_2
     try clear hcz23_3
     try clear hfz10_0
     try clear hfz10_1
     try clear hfz10_2
     try clear hfz10_3
     try clear hfz14_0
     try clear hfz14_1
     try clear hfz14_2
     try clear hfz14_3
     try clear hfz19_0
     try clear hfz19_1
     try clear hfz19_2
     try clear hfz19_3
     try clear hfz23_0
     try clear hfz23_1
     try clear hfz23_2
     try clear hfz23_3
     obtain ⟨x10_1, rfl, HA, HK1, HO_3, HO_4, HO_6, BK595, HB⟩ := hrel
     cases gk with
     | zero => exact absurd HA.out (by simp [laws_FnLetGo.l0])
     | succ k1 =>
      have H := HA.out
      clear HA
      simp only [laws_FnLetGo.l0] at H
      by_cases c25 : x10_1 < (t585.length : Int)
      ·rw [if_pos c25] at H
       have c25b0 : decide (x10_1 < (t585.length : Int)) = true := decide_eq_true c25
       clear c25
       replace H := bind_eq_some_iff.mp H
       obtain ⟨⟨t611, t612, t613, t614, t615⟩, A260, H⟩ := H
       replace H : ((impl_FirstOf.f k1 t585 t596 x10_1).bind fun bt617 => ((spec_ChainOf.f k1 t585 x10_1).bind fun t623 => ((laws_has.f k1 t623 t591).bind fun t626 => (if t615 = true then (if (bt617.2.2.2.2 != true) = true then (laws_FnLetGo.j1 k1 t585 t588 t596 x10_1 bt617.2.2.2.2 true t591 t592 t593 t594 bt617.1 bt617.2.1 bt617.2.2.1 bt617.2.2.2.1) else (if (!(t611 == bt617.1) || (!(t612 == bt617.2.1) || (!(t613 == bt617.2.2.1) || (!(t614 == bt617.2.2.2.1))))) = true then (laws_FnLetGo.j1 k1 t585 t588 t596 x10_1 bt617.2.2.2.2 true t591 t592 t593 t594 bt617.1 bt617.2.1 bt617.2.2.1 bt617.2.2.2.1) else (laws_FnLetGo.j1 k1 t585 t588 t596 x10_1 bt617.2.2.2.2 false t591 t592 t593 t594 bt617.1 bt617.2.1 bt617.2.2.1 bt617.2.2.2.1))) else (if (bt617.2.2.2.2 != t626) = true then (laws_FnLetGo.j1 k1 t585 t588 t596 x10_1 bt617.2.2.2.2 true t591 t592 t593 t594 bt617.1 bt617.2.1 bt617.2.2.1 bt617.2.2.2.1) else (if t626 = true then (laws_FnLetGo.j1 k1 t585 t588 t596 x10_1 bt617.2.2.2.2 (!(bt617.1 == t591) || (!(bt617.2.1 == t592) || (!(bt617.2.2.1 == t593) || (!(bt617.2.2.2.1 == t594))))) t591 t592 t593 t594 bt617.1 bt617.2.1 bt617.2.2.1 bt617.2.2.2.1) else (laws_FnLetGo.j1 k1 t585 t588 t596 x10_1 bt617.2.2.2.2 false t591 t592 t593 t594 bt617.1 bt617.2.1 bt617.2.2.1 bt617.2.2.2.1))))))) = some r := H
       have A26 := Aside0.mk A260
       clear A260
       replace H := bind_eq_some_iff.mp H
       obtain ⟨⟨t617, t618, t619, t620, t621⟩, A270, H⟩ := H
       replace H : ((spec_ChainOf.f k1 t585 x10_1).bind fun t623 => ((laws_has.f k1 t623 t591).bind fun t626 => (if t615 = true then (if (t621 != true) = true then (laws_FnLetGo.j1 k1 t585 t588 t596 x10_1 t621 true t591 t592 t593 t594 t617 t618 t619 t620) else (if (!(t611 == t617) || (!(t612 == t618) || (!(t613 == t619) || (!(t614 == t620))))) = true then (laws_FnLetGo.j1 k1 t585 t588 t596 x10_1 t621 true t591 t592 t593 t594 t617 t618 t619 t620) else (laws_FnLetGo.j1 k1 t585 t588 t596 x10_1 t621 false t591 t592 t593 t594 t617 t618 t619 t620))) else (if (t621 != t626) = true then (laws_FnLetGo.j1 k1 t585 t588 t596 x10_1 t621 true t591 t592 t593 t594 t617 t618 t619 t620) else (if t626 = true then (laws_FnLetGo.j1 k1 t585 t588 t596 x10_1 t621 (!(t617 == t591) || (!(t618 == t592) || (!(t619 == t593) || (!(t620 == t594))))) t591 t592 t593 t594 t617 t618 t619 t620) else (laws_FnLetGo.j1 k1 t585 t588 t596 x10_1 t621 false t591 t592 t593 t594 t617 t618 t619 t620)))))) = some r := H
       have A27 := Aside0.mk A270
       clear A270
       replace H := bind_eq_some_iff.mp H
       obtain ⟨t623, A280, H⟩ := H
       replace H : ((laws_has.f k1 t623 t591).bind fun t626 => (if t615 = true then (if (t621 != true) = true then (laws_FnLetGo.j1 k1 t585 t588 t596 x10_1 t621 true t591 t592 t593 t594 t617 t618 t619 t620) else (if (!(t611 == t617) || (!(t612 == t618) || (!(t613 == t619) || (!(t614 == t620))))) = true then (laws_FnLetGo.j1 k1 t585 t588 t596 x10_1 t621 true t591 t592 t593 t594 t617 t618 t619 t620) else (laws_FnLetGo.j1 k1 t585 t588 t596 x10_1 t621 false t591 t592 t593 t594 t617 t618 t619 t620))) else (if (t621 != t626) = true then (laws_FnLetGo.j1 k1 t585 t588 t596 x10_1 t621 true t591 t592 t593 t594 t617 t618 t619 t620) else (if t626 = true then (laws_FnLetGo.j1 k1 t585 t588 t596 x10_1 t621 (!(t617 == t591) || (!(t618 == t592) || (!(t619 == t593) || (!(t620 == t594))))) t591 t592 t593 t594 t617 t618 t619 t620) else (laws_FnLetGo.j1 k1 t585 t588 t596 x10_1 t621 false t591 t592 t593 t594 t617 t618 t619 t620))))) = some r := H
       have A28 := Aside0.mk A280
       clear A280
       replace H := bind_eq_some_iff.mp H
       obtain ⟨t626, A290, H⟩ := H
       replace H : (if t615 = true then (if (t621 != true) = true then (laws_FnLetGo.j1 k1 t585 t588 t596 x10_1 t621 true t591 t592 t593 t594 t617 t618 t619 t620) else (if (!(t611 == t617) || (!(t612 == t618) || (!(t613 == t619) || (!(t614 == t620))))) = true then (laws_FnLetGo.j1 k1 t585 t588 t596 x10_1 t621 true t591 t592 t593 t594 t617 t618 t619 t620) else (laws_FnLetGo.j1 k1 t585 t588 t596 x10_1 t621 false t591 t592 t593 t594 t617 t618 t619 t620))) else (if (t621 != t626) = true then (laws_FnLetGo.j1 k1 t585 t588 t596 x10_1 t621 true t591 t592 t593 t594 t617 t618 t619 t620) else (if t626 = true then (laws_FnLetGo.j1 k1 t585 t588 t596 x10_1 t621 (!(t617 == t591) || (!(t618 == t592) || (!(t619 == t593) || (!(t620 == t594))))) t591 t592 t593 t594 t617 t618 t619 t620) else (laws_FnLetGo.j1 k1 t585 t588 t596 x10_1 t621 false t591 t592 t593 t594 t617 t618 t619 t620)))) = some r := H
       have A29 := Aside0.mk A290
       clear A290
       have HC30 := Aside0.mk H
       clear H
       try go_wp2_with (first | ((with_reducible refine gate_callee (f := 45) rfl ?_); refine goesL_ (some 64) rfl rfl Try.func45 (by kernel_rfl) rfl #[.slice Ao20 t585.length co20, .slice Ao21 t588.length co21, .int .i64 x10_1] rfl (by (try simp only [map_toArray, map_cons, map_nil]); rfl) ?_; (with_reducible refine (impl_FirstOf.calls k1 _ _ t585 _ _ t588 x10_1 t611 t612 t613 t614 t615 _ ?side1 ?side2 ?side3 ?side4 A26.out).mono ?_); (case side1 => repeat (exact (R_reads' HO_3.out).2.2)); (case side2 => exact (R_reads' HO_3.out).2.1); (case side3 => repeat (exact (R_reads' HO_4.out).2.2)); (case side4 => exact (R_reads' HO_4.out).2.1); rintro e w31 ⟨rfl, hb⟩; refine ⟨_, rfl, ?_⟩; have n0_ := Aside0.mk (R_below (by (with_reducible repeat (fail)); exact HO_3.out) hb); have n1_ := Aside0.mk (R_below (by (with_reducible repeat (fail)); exact HO_4.out) hb); have n2_ := Aside0.mk (R_below (by (with_reducible repeat (fail)); exact HO_6.out) hb); have n3_ := Aside0.mk (blk_below (g := gb595) (o := .cells #[.int .i64 t591, .int .i64 t592, .int .i64 t593, .int .i64 t594] 58 (0, 0)) (by (with_reducible repeat (fail)); exact BK595.out) hb); have n4_ := Aside0.mk (below_step (by repeat ((with_reducible exact HB.out))) hb); clear HO_3; clear HO_4; clear HO_6; clear BK595; clear HB; have HO_3 := n0_; have HO_4 := n1_; have HO_6 := n2_; have BK595 := n3_; have HB := n4_; clear n0_ n1_ n2_ n3_ n4_; (try clear hb); skip) | ((with_reducible refine gate_dst (N := 11) rfl ?_); refine box_event ?hg (N := 11) ?hd (cs := #[.int .i64 0, .int .i64 0, .int .i64 0, .int .i64 0]) (t := 58) ?hr ?_; (case hd => rfl); (case hg => rfl); (case hr => (go_simp; done)); intro gb616 hg w32 hbox hb; have n0_ := Aside0.mk (R_below (by (with_reducible repeat (fail)); exact HO_3.out) hb); have n1_ := Aside0.mk (R_below (Kd.R_elderB (by (with_reducible repeat (fail)); exact HO_4.out) gb616 (Nat.le_of_eq hg.symm)) hb); have n2_ := Aside0.mk (R_below (Kd.R_elderB (by (with_reducible repeat (fail)); exact HO_6.out) gb616 (Nat.le_of_eq hg.symm)) hb); have n3_ := Aside0.mk (blk_below (g := gb595) (o := .cells #[.int .i64 t591, .int .i64 t592, .int .i64 t593, .int .i64 t594] 58 (0, 0)) (by (with_reducible repeat (fail)); exact BK595.out) hb); have n4_ := Aside0.mk (below_step (by repeat ((with_reducible exact HB.out))) hb); have n5_ := Aside0.mk (hbox); have n6_ := Aside0.mk ((by rw [hg]; exact (below_size (by repeat ((with_reducible exact HB.out)))) : w.heap.size ≤ gb616)); have n7_ := Aside0.mk ((by rw [hg]; exact (below_size (by repeat ((with_reducible exact HB.out)))) : w.heap.size ≤ gb616)); have n8_ := Aside0.mk ((by rw [hg]; exact Nat.ne_of_lt (blk_lt (g := gb595) (o := .cells #[.int .i64 t591, .int .i64 t592, .int .i64 t593, .int .i64 t594] 58 (0, 0)) (by (with_reducible repeat (fail)); exact BK595.out)) : gb595 ≠ gb616)); have n9_ := Aside0.mk ((by rw [hg]; exact Nat.ne_of_gt (blk_lt (g := gb595) (o := .cells #[.int .i64 t591, .int .i64 t592, .int .i64 t593, .int .i64 t594] 58 (0, 0)) (by (with_reducible repeat (fail)); exact BK595.out)) : gb616 ≠ gb595)); clear HO_3; clear HO_4; clear HO_6; clear BK595; clear HB; have HO_3 := n0_; have HO_4 := n1_; have HO_6 := n2_; have BK595 := n3_; have HB := n4_; have BK616 := n5_; have GW616 := n6_; have GE616 := n7_; have NB595_616 := n8_; have NB616_595 := n9_; clear n0_ n1_ n2_ n3_ n4_ n5_ n6_ n7_ n8_ n9_; clear hb hbox hg; have hnb33 := NB616_595.out; have hnc33 := NB595_616.out; have hcz34_0 : w32.cell? ⟨gb616, 0, none⟩ = some (.int .i64 0) := (blk_cell BK616.out 0).trans rfl; have hcz34_1 : w32.cell? ⟨gb616, 1, none⟩ = some (.int .i64 0) := (blk_cell BK616.out 1).trans rfl; have hcz34_2 : w32.cell? ⟨gb616, 2, none⟩ = some (.int .i64 0) := (blk_cell BK616.out 2).trans rfl; have hcz34_3 : w32.cell? ⟨gb616, 3, none⟩ = some (.int .i64 0) := (blk_cell BK616.out 3).trans rfl; have hfz34_0 := blk_frozen BK616.out 0; have hfz34_1 := blk_frozen BK616.out 1; have hfz34_2 := blk_frozen BK616.out 2; have hfz34_3 := blk_frozen BK616.out 3; obtain ⟨Ao35, co35, eo35⟩ := Kd.R_slice HO_6.out; subst eo35) | ((with_reducible refine gate_callee (f := 45) rfl ?_); refine goesL_ (some 71) rfl rfl Try.func45 (by kernel_rfl) rfl #[.slice Ao20 t585.length co20, .slice Ao35 t596.length co35, .int .i64 x10_1] rfl (by (try simp only [map_toArray, map_cons, map_nil]); rfl) ?_; (with_reducible refine (impl_FirstOf.calls k1 _ _ t585 _ _ t596 x10_1 t617 t618 t619 t620 t621 _ ?side1 ?side2 ?side3 ?side4 A27.out).mono ?_); (case side1 => refine (R_reads' (e := 30) (base := w.heap.size) (ok := fun k_ => True) (n := t585.length) (c := co20) ?_).2.2; exact (by (with_reducible repeat (fail)); exact (Kd.R_mono (Kd.R_far (p := ⟨gb616, 3, none⟩) (Kd.R_far (p := ⟨gb616, 2, none⟩) (Kd.R_far (p := ⟨gb616, 1, none⟩) (Kd.R_far (p := ⟨gb616, 0, none⟩) (Kd.R_types HO_3.out BK616.out (by decide)) (fun _ hk => hk.2) (.int .i64 t611)) (fun _ hk => hk.2) (.int .i64 t612)) (fun _ hk => hk.2) (.int .i64 t613)) (fun _ hk => hk.2) (.int .i64 t614)) (fun _ h_ => h_.1)))); (case side2 => exact (R_reads' HO_3.out).2.1); (case side3 => refine (R_reads' (e := 58) (base := w.heap.size) (ok := fun k_ => ((some k_ ≠ (.slice Ao21 t588.length co21 : Value).ownBlock ∧ k_ ≠ gb595) ∧ k_ ≠ gb616)) (n := t596.length) (c := co35) ?_).2.2; exact (by (with_reducible repeat (fail)); exact (Kd.R_mono (Kd.R_far (p := ⟨gb616, 3, none⟩) (Kd.R_far (p := ⟨gb616, 2, none⟩) (Kd.R_far (p := ⟨gb616, 1, none⟩) (Kd.R_far (p := ⟨gb616, 0, none⟩) (Kd.R_mono HO_6.out (fun k_ hk => (⟨hk, hk.2⟩ : _ ∧ k_ ≠ gb616))) (fun _ hk => hk.2) (.int .i64 t611)) (fun _ hk => hk.2) (.int .i64 t612)) (fun _ hk => hk.2) (.int .i64 t613)) (fun _ hk => hk.2) (.int .i64 t614)) (fun _ h_ => h_.1)))); (case side4 => exact (R_reads' HO_6.out).2.1); rintro e w36 ⟨rfl, hb⟩; refine ⟨_, rfl, ?_⟩; have n0_ := Aside0.mk (R_below (by (with_reducible repeat (fail)); exact (Kd.R_mono (Kd.R_far (p := ⟨gb616, 3, none⟩) (Kd.R_far (p := ⟨gb616, 2, none⟩) (Kd.R_far (p := ⟨gb616, 1, none⟩) (Kd.R_far (p := ⟨gb616, 0, none⟩) (Kd.R_types HO_3.out BK616.out (by decide)) (fun _ hk => hk.2) (.int .i64 t611)) (fun _ hk => hk.2) (.int .i64 t612)) (fun _ hk => hk.2) (.int .i64 t613)) (fun _ hk => hk.2) (.int .i64 t614)) (fun _ h_ => h_.1))) hb); have n1_ := Aside0.mk (R_below (by (with_reducible repeat (fail)); exact (Kd.R_mono (Kd.R_far (p := ⟨gb616, 3, none⟩) (Kd.R_far (p := ⟨gb616, 2, none⟩) (Kd.R_far (p := ⟨gb616, 1, none⟩) (Kd.R_far (p := ⟨gb616, 0, none⟩) (Kd.R_mono HO_4.out (fun k_ hk => (⟨hk, hk.2⟩ : _ ∧ k_ ≠ gb616))) (fun _ hk => hk.2) (.int .i64 t611)) (fun _ hk => hk.2) (.int .i64 t612)) (fun _ hk => hk.2) (.int .i64 t613)) (fun _ hk => hk.2) (.int .i64 t614)) (fun _ h_ => h_.1))) hb); have n2_ := Aside0.mk (R_below (by (with_reducible repeat (fail)); exact (Kd.R_mono (Kd.R_far (p := ⟨gb616, 3, none⟩) (Kd.R_far (p := ⟨gb616, 2, none⟩) (Kd.R_far (p := ⟨gb616, 1, none⟩) (Kd.R_far (p := ⟨gb616, 0, none⟩) (Kd.R_mono HO_6.out (fun k_ hk => (⟨hk, hk.2⟩ : _ ∧ k_ ≠ gb616))) (fun _ hk => hk.2) (.int .i64 t611)) (fun _ hk => hk.2) (.int .i64 t612)) (fun _ hk => hk.2) (.int .i64 t613)) (fun _ hk => hk.2) (.int .i64 t614)) (fun _ h_ => h_.1))) hb); have n3_ := Aside0.mk (blk_below (g := gb595) (o := .cells #[.int .i64 t591, .int .i64 t592, .int .i64 t593, .int .i64 t594] 58 (0, 0)) (by (with_reducible repeat (fail)); refine blk_far ?_ NB595_616.out _; (with_reducible repeat (fail)); refine blk_far ?_ NB595_616.out _; (with_reducible repeat (fail)); refine blk_far ?_ NB595_616.out _; (with_reducible repeat (fail)); refine blk_far ?_ NB595_616.out _; (with_reducible repeat (fail)); exact BK595.out) hb); have n4_ := Aside0.mk (blk_below (g := gb616) (o := .cells #[.int .i64 t611, .int .i64 t612, .int .i64 t613, .int .i64 t614] 58 (0, 0)) (by (with_reducible repeat (fail)); refine blk_put (cs := #[.int .i64 t611, .int .i64 t612, .int .i64 t613, .int .i64 0]) ?_ 3 _ rfl; (with_reducible repeat (fail)); refine blk_put (cs := #[.int .i64 t611, .int .i64 t612, .int .i64 0, .int .i64 0]) ?_ 2 _ rfl; (with_reducible repeat (fail)); refine blk_put (cs := #[.int .i64 t611, .int .i64 0, .int .i64 0, .int .i64 0]) ?_ 1 _ rfl; (with_reducible repeat (fail)); refine blk_put (cs := #[.int .i64 0, .int .i64 0, .int .i64 0, .int .i64 0]) ?_ 0 _ rfl; (with_reducible repeat (fail)); exact BK616.out) hb); have n5_ := Aside0.mk (below_step (by repeat ((with_reducible first | exact HB.out | refine below_set ?_ GE616.out))) hb); clear HO_3; clear HO_4; clear HO_6; clear BK595; clear BK616; clear HB; have HO_3 := n0_; have HO_4 := n1_; have HO_6 := n2_; have BK595 := n3_; have BK616 := n4_; have HB := n5_; clear n0_ n1_ n2_ n3_ n4_ n5_; (try clear hb); skip) | ((with_reducible refine gate_dst (N := 13) rfl ?_); refine box_event ?hg (N := 13) ?hd (cs := #[.int .i64 0, .int .i64 0, .int .i64 0, .int .i64 0]) (t := 58) ?hr ?_; (case hd => rfl); (case hg => rfl); (case hr => (go_simp; done)); intro gb622 hg w37 hbox hb; have n0_ := Aside0.mk (R_below (by (with_reducible repeat (fail)); exact HO_3.out) hb); have n1_ := Aside0.mk (R_below (Kd.R_elderB (by (with_reducible repeat (fail)); exact HO_4.out) gb622 (Nat.le_of_eq hg.symm)) hb); have n2_ := Aside0.mk (R_below (Kd.R_elderB (by (with_reducible repeat (fail)); exact HO_6.out) gb622 (Nat.le_of_eq hg.symm)) hb); have n3_ := Aside0.mk (blk_below (g := gb595) (o := .cells #[.int .i64 t591, .int .i64 t592, .int .i64 t593, .int .i64 t594] 58 (0, 0)) (by (with_reducible repeat (fail)); exact BK595.out) hb); have n4_ := Aside0.mk (blk_below (g := gb616) (o := .cells #[.int .i64 t611, .int .i64 t612, .int .i64 t613, .int .i64 t614] 58 (0, 0)) (by (with_reducible repeat (fail)); exact BK616.out) hb); have n5_ := Aside0.mk (below_step (by repeat ((with_reducible exact HB.out))) hb); have n6_ := Aside0.mk (hbox); have n7_ := Aside0.mk ((by rw [hg]; exact (below_size (by repeat ((with_reducible exact HB.out)))) : w.heap.size ≤ gb622)); have n8_ := Aside0.mk ((by rw [hg]; exact (below_size (by repeat ((with_reducible exact HB.out)))) : w.heap.size ≤ gb622)); have n9_ := Aside0.mk ((by rw [hg]; exact Nat.ne_of_lt (blk_lt (g := gb595) (o := .cells #[.int .i64 t591, .int .i64 t592, .int .i64 t593, .int .i64 t594] 58 (0, 0)) (by (with_reducible repeat (fail)); exact BK595.out)) : gb595 ≠ gb622)); have n10_ := Aside0.mk ((by rw [hg]; exact Nat.ne_of_gt (blk_lt (g := gb595) (o := .cells #[.int .i64 t591, .int .i64 t592, .int .i64 t593, .int .i64 t594] 58 (0, 0)) (by (with_reducible repeat (fail)); exact BK595.out)) : gb622 ≠ gb595)); have n11_ := Aside0.mk ((by rw [hg]; exact Nat.ne_of_lt (blk_lt (g := gb616) (o := .cells #[.int .i64 t611, .int .i64 t612, .int .i64 t613, .int .i64 t614] 58 (0, 0)) (by (with_reducible repeat (fail)); exact BK616.out)) : gb616 ≠ gb622)); have n12_ := Aside0.mk ((by rw [hg]; exact Nat.ne_of_gt (blk_lt (g := gb616) (o := .cells #[.int .i64 t611, .int .i64 t612, .int .i64 t613, .int .i64 t614] 58 (0, 0)) (by (with_reducible repeat (fail)); exact BK616.out)) : gb622 ≠ gb616)); clear HO_3; clear HO_4; clear HO_6; clear BK595; clear BK616; clear HB; have HO_3 := n0_; have HO_4 := n1_; have HO_6 := n2_; have BK595 := n3_; have BK616 := n4_; have HB := n5_; have BK622 := n6_; have GW622 := n7_; have GE622 := n8_; have NB595_622 := n9_; have NB622_595 := n10_; have NB616_622 := n11_; have NB622_616 := n12_; clear n0_ n1_ n2_ n3_ n4_ n5_ n6_ n7_ n8_ n9_ n10_ n11_ n12_; clear hb hbox hg; have hnb38 := NB622_595.out; have hnc38 := NB595_622.out; have hnb39 := NB622_616.out; have hnc39 := NB616_622.out; have hcz40_0 : w37.cell? ⟨gb622, 0, none⟩ = some (.int .i64 0) := (blk_cell BK622.out 0).trans rfl; have hcz40_1 : w37.cell? ⟨gb622, 1, none⟩ = some (.int .i64 0) := (blk_cell BK622.out 1).trans rfl; have hcz40_2 : w37.cell? ⟨gb622, 2, none⟩ = some (.int .i64 0) := (blk_cell BK622.out 2).trans rfl; have hcz40_3 : w37.cell? ⟨gb622, 3, none⟩ = some (.int .i64 0) := (blk_cell BK622.out 3).trans rfl; have hfz40_0 := blk_frozen BK622.out 0; have hfz40_1 := blk_frozen BK622.out 1; have hfz40_2 := blk_frozen BK622.out 2; have hfz40_3 := blk_frozen BK622.out 3))
       have n0_ : Aside0 (Kd.R k30 30 ((((w37.setCell ⟨gb622, 0, none⟩ (.int .i64 t617)).setCell ⟨gb622, 1, none⟩ (.int .i64 t618)).setCell ⟨gb622, 2, none⟩ (.int .i64 t619)).setCell ⟨gb622, 3, none⟩ (.int .i64 t620)) w.heap.size (fun _ => True) (.slice Ao20 t585.length co20) t585) := ⟨by (with_reducible repeat (fail)); exact Kd.R_mono (Kd.R_far (p := ⟨gb622, 3, none⟩) (Kd.R_far (p := ⟨gb622, 2, none⟩) (Kd.R_far (p := ⟨gb622, 1, none⟩) (Kd.R_far (p := ⟨gb622, 0, none⟩) (Kd.R_types HO_3.out BK622.out (by decide)) (fun _ hk => hk.2) (.int .i64 t617)) (fun _ hk => hk.2) (.int .i64 t618)) (fun _ hk => hk.2) (.int .i64 t619)) (fun _ hk => hk.2) (.int .i64 t620)) (fun _ hk => trivial)⟩
       have n1_ : Aside0 (Kd.R k58 58 ((((w37.setCell ⟨gb622, 0, none⟩ (.int .i64 t617)).setCell ⟨gb622, 1, none⟩ (.int .i64 t618)).setCell ⟨gb622, 2, none⟩ (.int .i64 t619)).setCell ⟨gb622, 3, none⟩ (.int .i64 t620)) w.heap.size (fun k_ => some k_ ≠ (.slice Ao35 t596.length co35 : Value).ownBlock ∧ k_ ≠ gb595 ∧ k_ ≠ gb616 ∧ k_ ≠ gb622) (.slice Ao21 t588.length co21) t588) := ⟨by (with_reducible repeat (fail)); exact Kd.R_mono (Kd.R_far (p := ⟨gb622, 3, none⟩) (Kd.R_far (p := ⟨gb622, 2, none⟩) (Kd.R_far (p := ⟨gb622, 1, none⟩) (Kd.R_far (p := ⟨gb622, 0, none⟩) (Kd.R_mono HO_4.out (fun k_ hk => (⟨hk, hk.2⟩ : _ ∧ k_ ≠ gb622))) (fun _ hk => hk.2) (.int .i64 t617)) (fun _ hk => hk.2) (.int .i64 t618)) (fun _ hk => hk.2) (.int .i64 t619)) (fun _ hk => hk.2) (.int .i64 t620)) (fun _ hk => ⟨hk.1.1.1.1, ⟨hk.1.1.1.2, ⟨hk.1.1.2, hk.1.2⟩⟩⟩)⟩
       have n2_ : Aside0 (Kd.R k58 58 ((((w37.setCell ⟨gb622, 0, none⟩ (.int .i64 t617)).setCell ⟨gb622, 1, none⟩ (.int .i64 t618)).setCell ⟨gb622, 2, none⟩ (.int .i64 t619)).setCell ⟨gb622, 3, none⟩ (.int .i64 t620)) w.heap.size (fun k_ => some k_ ≠ (.slice Ao21 t588.length co21 : Value).ownBlock ∧ k_ ≠ gb595 ∧ k_ ≠ gb616 ∧ k_ ≠ gb622) (.slice Ao35 t596.length co35) t596) := ⟨by (with_reducible repeat (fail)); exact Kd.R_mono (Kd.R_far (p := ⟨gb622, 3, none⟩) (Kd.R_far (p := ⟨gb622, 2, none⟩) (Kd.R_far (p := ⟨gb622, 1, none⟩) (Kd.R_far (p := ⟨gb622, 0, none⟩) (Kd.R_mono HO_6.out (fun k_ hk => (⟨hk, hk.2⟩ : _ ∧ k_ ≠ gb622))) (fun _ hk => hk.2) (.int .i64 t617)) (fun _ hk => hk.2) (.int .i64 t618)) (fun _ hk => hk.2) (.int .i64 t619)) (fun _ hk => hk.2) (.int .i64 t620)) (fun _ hk => ⟨hk.1.1.1.1, ⟨hk.1.1.1.2, ⟨hk.1.1.2, hk.1.2⟩⟩⟩)⟩
       have n3_ : Aside0 (((((w37.setCell ⟨gb622, 0, none⟩ (.int .i64 t617)).setCell ⟨gb622, 1, none⟩ (.int .i64 t618)).setCell ⟨gb622, 2, none⟩ (.int .i64 t619)).setCell ⟨gb622, 3, none⟩ (.int .i64 t620)).heap[gb595]? = some (.cells #[.int .i64 t591, .int .i64 t592, .int .i64 t593, .int .i64 t594] 58 (0, 0))) := ⟨by (with_reducible repeat (fail)); refine blk_far ?_ NB595_622.out _; (with_reducible repeat (fail)); refine blk_far ?_ NB595_622.out _; (with_reducible repeat (fail)); refine blk_far ?_ NB595_622.out _; (with_reducible repeat (fail)); refine blk_far ?_ NB595_622.out _; (with_reducible repeat (fail)); exact BK595.out⟩
       have n4_ : Aside0 (((((w37.setCell ⟨gb622, 0, none⟩ (.int .i64 t617)).setCell ⟨gb622, 1, none⟩ (.int .i64 t618)).setCell ⟨gb622, 2, none⟩ (.int .i64 t619)).setCell ⟨gb622, 3, none⟩ (.int .i64 t620)).heap[gb616]? = some (.cells #[.int .i64 t611, .int .i64 t612, .int .i64 t613, .int .i64 t614] 58 (0, 0))) := ⟨by (with_reducible repeat (fail)); refine blk_far ?_ NB616_622.out _; (with_reducible repeat (fail)); refine blk_far ?_ NB616_622.out _; (with_reducible repeat (fail)); refine blk_far ?_ NB616_622.out _; (with_reducible repeat (fail)); refine blk_far ?_ NB616_622.out _; (with_reducible repeat (fail)); exact BK616.out⟩
       have n5_ : Aside0 (((((w37.setCell ⟨gb622, 0, none⟩ (.int .i64 t617)).setCell ⟨gb622, 1, none⟩ (.int .i64 t618)).setCell ⟨gb622, 2, none⟩ (.int .i64 t619)).setCell ⟨gb622, 3, none⟩ (.int .i64 t620)).heap[gb622]? = some (.cells #[.int .i64 t617, .int .i64 t618, .int .i64 t619, .int .i64 t620] 58 (0, 0))) := ⟨by (with_reducible repeat (fail)); refine blk_put (cs := #[.int .i64 t617, .int .i64 t618, .int .i64 t619, .int .i64 0]) ?_ 3 _ rfl; (with_reducible repeat (fail)); refine blk_put (cs := #[.int .i64 t617, .int .i64 t618, .int .i64 0, .int .i64 0]) ?_ 2 _ rfl; (with_reducible repeat (fail)); refine blk_put (cs := #[.int .i64 t617, .int .i64 0, .int .i64 0, .int .i64 0]) ?_ 1 _ rfl; (with_reducible repeat (fail)); refine blk_put (cs := #[.int .i64 0, .int .i64 0, .int .i64 0, .int .i64 0]) ?_ 0 _ rfl; (with_reducible repeat (fail)); exact BK622.out⟩
       have n6_ : Aside0 (Below w.heap.size w ((((w37.setCell ⟨gb622, 0, none⟩ (.int .i64 t617)).setCell ⟨gb622, 1, none⟩ (.int .i64 t618)).setCell ⟨gb622, 2, none⟩ (.int .i64 t619)).setCell ⟨gb622, 3, none⟩ (.int .i64 t620))) := ⟨by repeat ((with_reducible first | exact HB.out | refine below_set ?_ GE622.out))⟩
       (try clear HO_3)
       (try clear HO_4)
       (try clear HO_6)
       (try clear BK595)
       (try clear BK616)
       (try clear BK622)
       (try clear HB)
       generalize ((((w37.setCell ⟨gb622, 0, none⟩ (.int .i64 t617)).setCell ⟨gb622, 1, none⟩ (.int .i64 t618)).setCell ⟨gb622, 2, none⟩ (.int .i64 t619)).setCell ⟨gb622, 3, none⟩ (.int .i64 t620)) = w41 at n0_ n1_ n2_ n3_ n4_ n5_ n6_ ⊢
       have HO_3 := n0_
       have HO_4 := n1_
       have HO_6 := n2_
       have BK595 := n3_
       have BK616 := n4_
       have BK622 := n5_
       have HB := n6_
       clear n0_ n1_ n2_ n3_ n4_ n5_ n6_
       have n0_ := Aside0.mk (R_drew HO_3.out)
       have n1_ := Aside0.mk (R_drew HO_4.out)
       have n2_ := Aside0.mk (R_drew HO_6.out)
       have n3_ := Aside0.mk (blk_drew BK595.out)
       have n4_ := Aside0.mk (blk_drew BK616.out)
       have n5_ := Aside0.mk (blk_drew BK622.out)
       have n6_ := Aside0.mk (bw1 HB.out)
       clear HO_3
       clear HO_4
       clear HO_6
       clear BK595
       clear BK616
       clear BK622
       clear HB
       have HO_3 := n0_
       have HO_4 := n1_
       have HO_6 := n2_
       have BK595 := n3_
       have BK616 := n4_
       have BK622 := n5_
       have HB := n6_
       clear n0_ n1_ n2_ n3_ n4_ n5_ n6_
       refine start_ (n := 7) (S := fun w' => w'.cell? ⟨gb595, 0, none⟩ = some (.int .i64 t591) ∧ w'.cell? ⟨gb595, 1, none⟩ = some (.int .i64 t592) ∧ w'.cell? ⟨gb595, 2, none⟩ = some (.int .i64 t593) ∧ w'.cell? ⟨gb595, 3, none⟩ = some (.int .i64 t594)) (ds := []) #[false, false, false, false, false, false, false] (by kernel_rfl) rfl rfl ⟨(blk_cell BK595.out 0).trans rfl, (blk_cell BK595.out 1).trans rfl, (blk_cell BK595.out 2).trans rfl, (blk_cell BK595.out 3).trans rfl⟩ (fun hHeld => ?_)
       generalize w41.drew = w42 at HO_3 HO_4 HO_6 BK595 BK616 BK622 HB hHeld ⊢
       refine pure_ (i := 0) (N := some 74) (v := ?_) (a' := ?_) #[true, false, false, false, false, false, false] rfl rfl (by kernel_rfl) (fun _ _ _ h => h) (Or.inl ⟨by rfl, ?_⟩) ?_ ?_
       rotate_left
       ·intro w'
        go_simp
        with_reducible rfl
       rotate_left
       ·simp only [Act.put, stA, stZ, stS, i64_w, i32_w]
        rfl
       refine pure_ (i := 1) (N := some 75) (v := ?_) (a' := ?_) #[true, true, false, false, false, false, false] rfl rfl (by kernel_rfl) (fun _ _ _ h => h) (Or.inl ⟨by rfl, ?_⟩) ?_ ?_
       rotate_left
       ·intro w'
        go_simp
        with_reducible rfl
       rotate_left
       ·simp only [Act.put, stA, stZ, stS, i64_w, i32_w]
        rfl
       refine pure_ (i := 3) (N := some 77) (v := ?_) (a' := ?_) #[true, true, false, true, false, false, false] rfl rfl (by kernel_rfl) (fun _ _ _ h => h) (Or.inl ⟨by rfl, ?_⟩) ?_ ?_
       rotate_left
       ·intro w'
        go_simp
        with_reducible rfl
       rotate_left
       ·simp only [Act.put, stA, stZ, stS, i64_w, i32_w]
        rfl
       refine take_ (i := 4) (N := some 78) (v := ?_) (a' := ?_) #[true, true, false, true, true, false, false] rfl rfl (by kernel_rfl) (fun _ _ _ h => h) (Or.inl ⟨by rfl, ?_⟩) hHeld ?_ ?_
       rotate_left
       ·rintro w' ⟨s0, s1, s2, s3⟩
        go_simp
        with_reducible rfl
       rotate_left
       ·simp only [Act.put, stA, stZ, stS, i64_w, i32_w]
        rfl
       refine one_ (i := 2) (N := some 76) #[true, true, true, true, true, false, false] rfl rfl (by kernel_rfl) (by decide) (fun K hK => ?_)
       refine goes_ Try.func23 (by kernel_rfl) rfl #[.slice Ao20 t585.length co20, .int .i64 x10_1] (by rfl) rfl rfl (by (try simp only [map_toArray, map_cons, map_nil]); rfl) ?_
       with_reducible refine (spec_ChainOf.calls k1 _ _ t585 x10_1 t623 _ ?side1 ?side2 A28.out).mono ?_
       (case side1 => repeat (exact (R_reads' HO_3.out).2.2))
       (case side2 => exact (R_reads' HO_3.out).2.1)
       rintro e w43 ⟨v624, rfl, ho0, hb⟩
       refine ⟨_, rfl, ?_⟩
       have n0_ := Aside0.mk (R_below (by (with_reducible repeat (fail)); exact HO_3.out) hb)
       have n1_ := Aside0.mk (R_below (by (with_reducible repeat (fail)); exact HO_4.out) hb)
       have n2_ := Aside0.mk (R_below (by (with_reducible repeat (fail)); exact HO_6.out) hb)
       have n3_ := Aside0.mk (Kd.R_lower ho0 (below_size (by repeat ((with_reducible exact HB.out)))))
       have n4_ := Aside0.mk (blk_below (g := gb595) (o := .cells #[.int .i64 t591, .int .i64 t592, .int .i64 t593, .int .i64 t594] 58 (0, 0)) (by (with_reducible repeat (fail)); exact BK595.out) hb)
       have n5_ := Aside0.mk (blk_below (g := gb616) (o := .cells #[.int .i64 t611, .int .i64 t612, .int .i64 t613, .int .i64 t614] 58 (0, 0)) (by (with_reducible repeat (fail)); exact BK616.out) hb)
       have n6_ := Aside0.mk (blk_below (g := gb622) (o := .cells #[.int .i64 t617, .int .i64 t618, .int .i64 t619, .int .i64 t620] 58 (0, 0)) (by (with_reducible repeat (fail)); exact BK622.out) hb)
       have n7_ := Aside0.mk (below_step (by repeat ((with_reducible exact HB.out))) hb)
       clear HO_3
       clear HO_4
       clear HO_6
       clear BK595
       clear BK616
       clear BK622
       clear HB
       have HO_3 := n0_
       have HO_4 := n1_
       have HO_6 := n2_
       have HO625 := n3_
       have BK595 := n4_
       have BK616 := n5_
       have BK622 := n6_
       have HB := n7_
       clear n0_ n1_ n2_ n3_ n4_ n5_ n6_ n7_
       (try clear hb)
       (try clear ho0)
       obtain ⟨Ao44, co44, eo44⟩ := Kd.R_slice HO625.out
       (subst eo44)
       refine hK.out _ _ ⟨(blk_cell BK595.out 0).trans rfl, (blk_cell BK595.out 1).trans rfl, (blk_cell BK595.out 2).trans rfl, (blk_cell BK595.out 3).trans rfl⟩ (fun hHeld => ?_)
       clear hK K
       refine norm_ (a' := ?_) ?_ ?_
       rotate_left
       ·show Act.put _ (some 76) _ = _
        simp only [Act.put, stA, stZ, stS, i64_w, i32_w]
        rfl
       refine one_ (i := 5) (N := some 79) #[true, true, true, true, true, true, false] rfl rfl (by kernel_rfl) (by decide) (fun K hK => ?_)
       refine goes_ Try.func38 (by kernel_rfl) rfl #[.slice Ao44 t623.length co44, .int .i64 t591] (by rfl) rfl rfl (by (try simp only [map_toArray, map_cons, map_nil]); rfl) ?_
       with_reducible refine (laws_has.calls k1 _ _ t623 t591 t626 _ ?side1 ?side2 A29.out).mono ?_
       (case side1 => repeat (exact (R_reads' HO625.out).2.2))
       (case side2 => exact (R_reads' HO625.out).2.1)
       rintro e w' ⟨rfl, ⟨nd, rfl⟩⟩
       refine ⟨_, rfl, ?_⟩
       refine hK.out _ _ ⟨(blk_cell BK595.out 0).trans rfl, (blk_cell BK595.out 1).trans rfl, (blk_cell BK595.out 2).trans rfl, (blk_cell BK595.out 3).trans rfl⟩ (fun hHeld => ?_)
       clear hK K
       refine norm_ (a' := ?_) ?_ ?_
       rotate_left
       ·show Act.put _ (some 79) _ = _
        simp only [Act.put, stA, stZ, stS, i64_w, i32_w]
        rfl
       refine pure_ (i := 6) (N := some 15) (v := ?_) (a' := ?_) #[true, true, true, true, true, true, true] rfl rfl (by kernel_rfl) (fun _ _ _ h => h) (Or.inl ⟨by rfl, ?_⟩) ?_ ?_
       rotate_left
       ·intro w'
        go_simp
        with_reducible rfl
       rotate_left
       ·simp only [Act.put, stA, stZ, stS, i64_w, i32_w]
        rfl
       refine done_ (by kernel_rfl) ?_
       go_upto_region 16 with (fail)
       go_cut [105] (fun v105 wc => ∃ (kq : Nat) (x105_29 : Bool), v105 = .bool x105_29 ∧ Aside0 (laws_FnLetGo.j1 kq t585 t588 t596 x10_1 t621 x105_29 t591 t592 t593 t594 t617 t618 t619 t620 = some r) ∧ Aside0 (kq ≤ k1) ∧ Aside0 (Kd.R k30 30 wc w.heap.size (fun _ => True) (.slice Ao20 t585.length co20) t585) ∧ Aside0 (Kd.R k58 58 wc w.heap.size (fun k_ => some k_ ≠ ((.slice Ao35 t596.length co35) : Value).ownBlock ∧ k_ ≠ gb595 ∧ k_ ≠ gb616 ∧ k_ ≠ gb622) (.slice Ao21 t588.length co21) t588) ∧ Aside0 (Kd.R k58 58 wc w.heap.size (fun k_ => some k_ ≠ ((.slice Ao21 t588.length co21) : Value).ownBlock ∧ k_ ≠ gb595 ∧ k_ ≠ gb616 ∧ k_ ≠ gb622) (.slice Ao35 t596.length co35) t596) ∧ Aside0 (wc.heap[gb595]? = some (.cells #[.int .i64 t591, .int .i64 t592, .int .i64 t593, .int .i64 t594] 58 (0, 0))) ∧ Aside0 (wc.heap[gb616]? = some (.cells #[.int .i64 t611, .int .i64 t612, .int .i64 t613, .int .i64 t614] 58 (0, 0))) ∧ Aside0 (wc.heap[gb622]? = some (.cells #[.int .i64 t617, .int .i64 t618, .int .i64 t619, .int .i64 t620] 58 (0, 0))) ∧ Aside0 (Below w.heap.size w wc))
       case first =>
        have H := HC30.out
        clear HC30
        by_cases c45 : t615 = true
        ·subst c45
         have H1 : (if (t621 != true) = true then (laws_FnLetGo.j1 k1 t585 t588 t596 x10_1 t621 true t591 t592 t593 t594 t617 t618 t619 t620) else (if (!(t611 == t617) || (!(t612 == t618) || (!(t613 == t619) || (!(t614 == t620))))) = true then (laws_FnLetGo.j1 k1 t585 t588 t596 x10_1 t621 true t591 t592 t593 t594 t617 t618 t619 t620) else (laws_FnLetGo.j1 k1 t585 t588 t596 x10_1 t621 false t591 t592 t593 t594 t617 t618 t619 t620))) = some r := by rw [if_pos rfl] at H; exact H
         clear H
         have H := H1
         clear H1
         by_cases c46 : (t621 != true) = true
         ·rw [if_pos c46] at H
          have c46b0 : (t621 != true) = true := c46
          (try (have c46b1 : decide (t621 = true) = false := by simpa using c46))
          (try (have c46b2 : (t621 == true) = false := by simpa using c46))
          (try (have c46b3 : ¬ (t621 = true) := by simpa using c46))
          clear c46
          (skip)
          have H' := Aside0.mk H
          clear H
          go_wp2
          go_meet
          case rel => exact ⟨_, (true), (by rfl), H', ⟨by have := HK1.out; omega⟩, ⟨by (with_reducible repeat (apply R_drewN)); exact HO_3.out⟩, ⟨by (with_reducible repeat (apply R_drewN)); exact HO_4.out⟩, ⟨by (with_reducible repeat (apply R_drewN)); exact HO_6.out⟩, ⟨by (with_reducible repeat (refine blk_drewN ?_ _)); exact BK595.out⟩, ⟨by (with_reducible repeat (refine blk_drewN ?_ _)); exact BK616.out⟩, ⟨by (with_reducible repeat (refine blk_drewN ?_ _)); exact BK622.out⟩, ⟨by repeat ((with_reducible first | exact HB.out | apply bwN))⟩⟩
         ·rw [if_neg c46] at H
          have c46b0 : (t621 != true) = false := by simpa using c46
          (try (have c46b1 : decide (t621 = true) = true := by simpa using c46))
          (try (have c46b2 : (t621 == true) = true := by simpa using c46))
          clear c46
          (skip)
          by_cases c47 : (!(t611 == t617) || (!(t612 == t618) || (!(t613 == t619) || (!(t614 == t620))))) = true
          ·rw [if_pos c47] at H
           have c47b0 : (!(t611 == t617) || (!(t612 == t618) || (!(t613 == t619) || (!(t614 == t620))))) = true := c47
           clear c47
           have H' := Aside0.mk H
           clear H
           have hnb48 := NB616_595.out
           have hnc48 := NB595_616.out
           have hnb49 := NB616_622.out
           have hnc49 := NB622_616.out
           have hcz50_0 : w43.cell? ⟨gb616, 0, none⟩ = some (.int .i64 t611) := (blk_cell BK616.out 0).trans rfl
           have hcz50_1 : w43.cell? ⟨gb616, 1, none⟩ = some (.int .i64 t612) := (blk_cell BK616.out 1).trans rfl
           have hcz50_2 : w43.cell? ⟨gb616, 2, none⟩ = some (.int .i64 t613) := (blk_cell BK616.out 2).trans rfl
           have hcz50_3 : w43.cell? ⟨gb616, 3, none⟩ = some (.int .i64 t614) := (blk_cell BK616.out 3).trans rfl
           have hfz50_0 := blk_frozen BK616.out 0
           have hfz50_1 := blk_frozen BK616.out 1
           have hfz50_2 := blk_frozen BK616.out 2
           have hfz50_3 := blk_frozen BK616.out 3
           have hnb51 := NB622_595.out
           have hnc51 := NB595_622.out
           have hcz52_0 : w43.cell? ⟨gb622, 0, none⟩ = some (.int .i64 t617) := (blk_cell BK622.out 0).trans rfl
           have hcz52_1 : w43.cell? ⟨gb622, 1, none⟩ = some (.int .i64 t618) := (blk_cell BK622.out 1).trans rfl
           have hcz52_2 : w43.cell? ⟨gb622, 2, none⟩ = some (.int .i64 t619) := (blk_cell BK622.out 2).trans rfl
           have hcz52_3 : w43.cell? ⟨gb622, 3, none⟩ = some (.int .i64 t620) := (blk_cell BK622.out 3).trans rfl
           have hfz52_0 := blk_frozen BK622.out 0
           have hfz52_1 := blk_frozen BK622.out 1
           have hfz52_2 := blk_frozen BK622.out 2
           have hfz52_3 := blk_frozen BK622.out 3
           go_wp2
           go_meet
           case rel => exact ⟨_, (true), (by rfl), H', ⟨by have := HK1.out; omega⟩, ⟨by (with_reducible repeat (apply R_drewN)); exact HO_3.out⟩, ⟨by (with_reducible repeat (apply R_drewN)); exact HO_4.out⟩, ⟨by (with_reducible repeat (apply R_drewN)); exact HO_6.out⟩, ⟨by (with_reducible repeat (refine blk_drewN ?_ _)); exact BK595.out⟩, ⟨by (with_reducible repeat (refine blk_drewN ?_ _)); exact BK616.out⟩, ⟨by (with_reducible repeat (refine blk_drewN ?_ _)); exact BK622.out⟩, ⟨by repeat ((with_reducible first | exact HB.out | apply bwN))⟩⟩
          ·rw [if_neg c47] at H
           have c47b0 : (!(t611 == t617) || (!(t612 == t618) || (!(t613 == t619) || (!(t614 == t620))))) = false := by simpa using c47
           clear c47
           have H' := Aside0.mk H
           clear H
           have hnb53 := NB616_595.out
           have hnc53 := NB595_616.out
           have hnb54 := NB616_622.out
           have hnc54 := NB622_616.out
           have hcz55_0 : w43.cell? ⟨gb616, 0, none⟩ = some (.int .i64 t611) := (blk_cell BK616.out 0).trans rfl
           have hcz55_1 : w43.cell? ⟨gb616, 1, none⟩ = some (.int .i64 t612) := (blk_cell BK616.out 1).trans rfl
           have hcz55_2 : w43.cell? ⟨gb616, 2, none⟩ = some (.int .i64 t613) := (blk_cell BK616.out 2).trans rfl
           have hcz55_3 : w43.cell? ⟨gb616, 3, none⟩ = some (.int .i64 t614) := (blk_cell BK616.out 3).trans rfl
           have hfz55_0 := blk_frozen BK616.out 0
           have hfz55_1 := blk_frozen BK616.out 1
           have hfz55_2 := blk_frozen BK616.out 2
           have hfz55_3 := blk_frozen BK616.out 3
           have hnb56 := NB622_595.out
           have hnc56 := NB595_622.out
           have hcz57_0 : w43.cell? ⟨gb622, 0, none⟩ = some (.int .i64 t617) := (blk_cell BK622.out 0).trans rfl
           have hcz57_1 : w43.cell? ⟨gb622, 1, none⟩ = some (.int .i64 t618) := (blk_cell BK622.out 1).trans rfl
           have hcz57_2 : w43.cell? ⟨gb622, 2, none⟩ = some (.int .i64 t619) := (blk_cell BK622.out 2).trans rfl
           have hcz57_3 : w43.cell? ⟨gb622, 3, none⟩ = some (.int .i64 t620) := (blk_cell BK622.out 3).trans rfl
           have hfz57_0 := blk_frozen BK622.out 0
           have hfz57_1 := blk_frozen BK622.out 1
           have hfz57_2 := blk_frozen BK622.out 2
           have hfz57_3 := blk_frozen BK622.out 3
           go_wp2
           go_meet
           case rel => exact ⟨_, (false), (by rfl), H', ⟨by have := HK1.out; omega⟩, ⟨by (with_reducible repeat (apply R_drewN)); exact HO_3.out⟩, ⟨by (with_reducible repeat (apply R_drewN)); exact HO_4.out⟩, ⟨by (with_reducible repeat (apply R_drewN)); exact HO_6.out⟩, ⟨by (with_reducible repeat (refine blk_drewN ?_ _)); exact BK595.out⟩, ⟨by (with_reducible repeat (refine blk_drewN ?_ _)); exact BK616.out⟩, ⟨by (with_reducible repeat (refine blk_drewN ?_ _)); exact BK622.out⟩, ⟨by repeat ((with_reducible first | exact HB.out | apply bwN))⟩⟩
        ·replace c45 := Bool.eq_false_iff.mpr c45
         subst c45
         have H1 : (if (t621 != t626) = true then (laws_FnLetGo.j1 k1 t585 t588 t596 x10_1 t621 true t591 t592 t593 t594 t617 t618 t619 t620) else (if t626 = true then (laws_FnLetGo.j1 k1 t585 t588 t596 x10_1 t621 (!(t617 == t591) || (!(t618 == t592) || (!(t619 == t593) || (!(t620 == t594))))) t591 t592 t593 t594 t617 t618 t619 t620) else (laws_FnLetGo.j1 k1 t585 t588 t596 x10_1 t621 false t591 t592 t593 t594 t617 t618 t619 t620))) = some r := by rw [if_neg (show ¬ (false = true) by decide)] at H; exact H
         clear H
         have H := H1
         clear H1
         by_cases c58 : (t621 != t626) = true
         ·rw [if_pos c58] at H
          have c58b0 : (t621 != t626) = true := c58
          (try (have c58b1 : decide (t621 = t626) = false := by simpa using c58))
          (try (have c58b2 : (t621 == t626) = false := by simpa using c58))
          (try (have c58b3 : ¬ (t621 = t626) := by simpa using c58))
          clear c58
          have H' := Aside0.mk H
          clear H
          go_wp2
          go_meet
          case rel => exact ⟨_, (true), (by rfl), H', ⟨by have := HK1.out; omega⟩, ⟨by (with_reducible repeat (apply R_drewN)); exact HO_3.out⟩, ⟨by (with_reducible repeat (apply R_drewN)); exact HO_4.out⟩, ⟨by (with_reducible repeat (apply R_drewN)); exact HO_6.out⟩, ⟨by (with_reducible repeat (refine blk_drewN ?_ _)); exact BK595.out⟩, ⟨by (with_reducible repeat (refine blk_drewN ?_ _)); exact BK616.out⟩, ⟨by (with_reducible repeat (refine blk_drewN ?_ _)); exact BK622.out⟩, ⟨by repeat ((with_reducible first | exact HB.out | apply bwN))⟩⟩
         ·rw [if_neg c58] at H
          have c58b0 : (t621 != t626) = false := by simpa using c58
          (try (have c58b1 : decide (t621 = t626) = true := by simpa using c58))
          (try (have c58b2 : (t621 == t626) = true := by simpa using c58))
          clear c58
          by_cases c59 : t626 = true
          ·subst c59
           have H1 : (laws_FnLetGo.j1 k1 t585 t588 t596 x10_1 t621 (!(t617 == t591) || (!(t618 == t592) || (!(t619 == t593) || (!(t620 == t594))))) t591 t592 t593 t594 t617 t618 t619 t620) = some r := by rw [if_pos rfl] at H; exact H
           clear H
           have H := H1
           clear H1
           have H' := Aside0.mk H
           clear H
           have hnb60 := NB622_595.out
           have hnc60 := NB595_622.out
           have hnb61 := NB622_616.out
           have hnc61 := NB616_622.out
           have hcz62_0 : w43.cell? ⟨gb622, 0, none⟩ = some (.int .i64 t617) := (blk_cell BK622.out 0).trans rfl
           have hcz62_1 : w43.cell? ⟨gb622, 1, none⟩ = some (.int .i64 t618) := (blk_cell BK622.out 1).trans rfl
           have hcz62_2 : w43.cell? ⟨gb622, 2, none⟩ = some (.int .i64 t619) := (blk_cell BK622.out 2).trans rfl
           have hcz62_3 : w43.cell? ⟨gb622, 3, none⟩ = some (.int .i64 t620) := (blk_cell BK622.out 3).trans rfl
           have hfz62_0 := blk_frozen BK622.out 0
           have hfz62_1 := blk_frozen BK622.out 1
           have hfz62_2 := blk_frozen BK622.out 2
           have hfz62_3 := blk_frozen BK622.out 3
           have hnb63 := NB595_616.out
           have hnc63 := NB616_595.out
           have hcz64_0 : w43.cell? ⟨gb595, 0, none⟩ = some (.int .i64 t591) := (blk_cell BK595.out 0).trans rfl
           have hcz64_1 : w43.cell? ⟨gb595, 1, none⟩ = some (.int .i64 t592) := (blk_cell BK595.out 1).trans rfl
           have hcz64_2 : w43.cell? ⟨gb595, 2, none⟩ = some (.int .i64 t593) := (blk_cell BK595.out 2).trans rfl
           have hcz64_3 : w43.cell? ⟨gb595, 3, none⟩ = some (.int .i64 t594) := (blk_cell BK595.out 3).trans rfl
           have hfz64_0 := blk_frozen BK595.out 0
           have hfz64_1 := blk_frozen BK595.out 1
           have hfz64_2 := blk_frozen BK595.out 2
           have hfz64_3 := blk_frozen BK595.out 3
           go_wp2
           go_meet
           case rel => exact ⟨_, ((!(t617 == t591) || (!(t618 == t592) || (!(t619 == t593) || (!(t620 == t594)))))), (by rfl), H', ⟨by have := HK1.out; omega⟩, ⟨by (with_reducible repeat (apply R_drewN)); exact HO_3.out⟩, ⟨by (with_reducible repeat (apply R_drewN)); exact HO_4.out⟩, ⟨by (with_reducible repeat (apply R_drewN)); exact HO_6.out⟩, ⟨by (with_reducible repeat (refine blk_drewN ?_ _)); exact BK595.out⟩, ⟨by (with_reducible repeat (refine blk_drewN ?_ _)); exact BK616.out⟩, ⟨by (with_reducible repeat (refine blk_drewN ?_ _)); exact BK622.out⟩, ⟨by repeat ((with_reducible first | exact HB.out | apply bwN))⟩⟩
          ·replace c59 := Bool.eq_false_iff.mpr c59
           subst c59
           have H1 : (laws_FnLetGo.j1 k1 t585 t588 t596 x10_1 t621 false t591 t592 t593 t594 t617 t618 t619 t620) = some r := by rw [if_neg (show ¬ (false = true) by decide)] at H; exact H
           clear H
           have H := H1
           clear H1
           have H' := Aside0.mk H
           clear H
           go_wp2
           go_meet
           case rel => exact ⟨_, (false), (by rfl), H', ⟨by have := HK1.out; omega⟩, ⟨by (with_reducible repeat (apply R_drewN)); exact HO_3.out⟩, ⟨by (with_reducible repeat (apply R_drewN)); exact HO_4.out⟩, ⟨by (with_reducible repeat (apply R_drewN)); exact HO_6.out⟩, ⟨by (with_reducible repeat (refine blk_drewN ?_ _)); exact BK595.out⟩, ⟨by (with_reducible repeat (refine blk_drewN ?_ _)); exact BK616.out⟩, ⟨by (with_reducible repeat (refine blk_drewN ?_ _)); exact BK622.out⟩, ⟨by repeat ((with_reducible first | exact HB.out | apply bwN))⟩⟩
       case rest =>
        clear HC30
        try clear c1
        try clear c2
        try clear p2
        try clear c3
        try clear c4
        try clear c5
        try clear c6
        try clear c7
        try clear c7b0
        try clear c7b1
        try clear c7b2
        try clear c14
        try clear c16
        try clear c23
        try clear c25
        try clear c25b0
        try clear c30
        try clear c33
        try clear c38
        try clear c39
        try clear c45
        try clear c46
        try clear c46b0
        try clear c46b1
        try clear c46b2
        try clear c47
        try clear c47b0
        try clear c48
        try clear c49
        try clear c51
        try clear c53
        try clear c54
        try clear c56
        try clear c58
        try clear c58b0
        try clear c58b1
        try clear c58b2
        try clear c59
        try clear c60
        try clear c61
        try clear c63
        try clear hcz10_0
        try clear hcz10_1
        try clear hcz10_2
        try clear hcz10_3
        try clear hcz14_0
        try clear hcz14_1
        try clear hcz14_2
        try clear hcz14_3
        try clear hcz19_0
        try clear hcz19_1
        try clear hcz19_2
        try clear hcz19_3
        try clear hcz23_0
        try clear hcz23_1
        try clear hcz23_2
        try clear hcz23_3
        try clear hcz34_0
        try clear hcz34_1
        try clear hcz34_2
        try clear hcz34_3
        try clear hcz40_0
        try clear hcz40_1
        try clear hcz40_2
        try clear hcz40_3
        try clear hcz50_0
        try clear hcz50_1
        try clear hcz50_2
        try clear hcz50_3
        try clear hcz52_0
        try clear hcz52_1
        try clear hcz52_2
        try clear hcz52_3
        try clear hcz55_0
        try clear hcz55_1
        try clear hcz55_2
        try clear hcz55_3
        try clear hcz57_0
        try clear hcz57_1
        try clear hcz57_2
        try clear hcz57_3
        try clear hcz62_0
        try clear hcz62_1
        try clear hcz62_2
        try clear hcz62_3
        try clear hcz64_0
        try clear hcz64_1
        try clear hcz64_2
        try clear hcz64_3
        try clear hfz10_0
        try clear hfz10_1
        try clear hfz10_2
        try clear hfz10_3
        try clear hfz14_0
        try clear hfz14_1
        try clear hfz14_2
        try clear hfz14_3
        try clear hfz19_0
        try clear hfz19_1
        try clear hfz19_2
        try clear hfz19_3
        try clear hfz23_0
        try clear hfz23_1
        try clear hfz23_2
        try clear hfz23_3
        try clear hfz34_0
        try clear hfz34_1
        try clear hfz34_2
        try clear hfz34_3
        try clear hfz40_0
        try clear hfz40_1
        try clear hfz40_2
        try clear hfz40_3
        try clear hfz50_0
        try clear hfz50_1
        try clear hfz50_2
        try clear hfz50_3
        try clear hfz52_0
        try clear hfz52_1
        try clear hfz52_2
        try clear hfz52_3
        try clear hfz55_0
        try clear hfz55_1
        try clear hfz55_2
        try clear hfz55_3
        try clear hfz57_0
        try clear hfz57_1
        try clear hfz57_2
        try clear hfz57_3
        try clear hfz62_0
        try clear hfz62_1
        try clear hfz62_2
        try clear hfz62_3
        try clear hfz64_0
        try clear hfz64_1
        try clear hfz64_2
        try clear hfz64_3
        try clear p2
        obtain ⟨kq, x105_29, rfl, HA, HJ29, HO_3, HO_4, HO_6, BK595, BK616, BK622, HB⟩ := hcut
        cases kq with
        | zero => exact absurd HA.out (by simp [laws_FnLetGo.j1])
        | succ kj29 =>
         have H := HA.out
         clear HA
         simp only [laws_FnLetGo.j1] at H
         by_cases c65 : x105_29 = true
         ·subst c65
          have H1 : (some false) = some r := by rw [if_pos rfl] at H; exact H
          clear H
          have H := H1
          clear H1
          obtain rfl := Option.some.inj H
          go_wp2
          go_ret
          exact ⟨by rfl, by repeat ((with_reducible exact HB.out))⟩
         ·replace c65 := Bool.eq_false_iff.mpr c65
          subst c65
          have H1 : ((impl_DoneBy.f kj29 t585 t596).bind fun t627 => ((laws_has.f kj29 t627 x10_1).bind fun t630 => (if (t621 != t630) = true then (some false) else ((impl_ErrOf.f kj29 t585 t596 x10_1).bind fun t631 => (if t631 = t618 then ((impl_CauseOf.f kj29 t585 t596 x10_1).bind fun t632 => (if t632 = t619 then (laws_FnLetGo.l0 kj29 t585 t588 t596 (wrap64 (x10_1 + 1)) t591 t592 t593 t594) else (some false))) else (some false)))))) = some r := by rw [if_neg (show ¬ (false = true) by decide)] at H; exact H
          clear H
          have H := H1
          clear H1
          replace H := bind_eq_some_iff.mp H
          obtain ⟨t627, A660, H⟩ := H
          replace H : ((laws_has.f kj29 t627 x10_1).bind fun t630 => (if (t621 != t630) = true then (some false) else ((impl_ErrOf.f kj29 t585 t596 x10_1).bind fun t631 => (if t631 = t618 then ((impl_CauseOf.f kj29 t585 t596 x10_1).bind fun t632 => (if t632 = t619 then (laws_FnLetGo.l0 kj29 t585 t588 t596 (wrap64 (x10_1 + 1)) t591 t592 t593 t594) else (some false))) else (some false))))) = some r := H
          have A66 := Aside0.mk A660
          clear A660
          replace H := bind_eq_some_iff.mp H
          obtain ⟨t630, A670, H⟩ := H
          replace H : (if (t621 != t630) = true then (some false) else ((impl_ErrOf.f kj29 t585 t596 x10_1).bind fun t631 => (if t631 = t618 then ((impl_CauseOf.f kj29 t585 t596 x10_1).bind fun t632 => (if t632 = t619 then (laws_FnLetGo.l0 kj29 t585 t588 t596 (wrap64 (x10_1 + 1)) t591 t592 t593 t594) else (some false))) else (some false)))) = some r := H
          have A67 := Aside0.mk A670
          clear A670
          by_cases c68 : (t621 != t630) = true
          ·rw [if_pos c68] at H
           have c68b0 : (t621 != t630) = true := c68
           (try (have c68b1 : decide (t621 = t630) = false := by simpa using c68))
           (try (have c68b2 : (t621 == t630) = false := by simpa using c68))
           (try (have c68b3 : ¬ (t621 = t630) := by simpa using c68))
           clear c68
           obtain rfl := Option.some.inj H
           try go_wp2
           have n0_ := Aside0.mk (R_drew HO_3.out)
           have n1_ := Aside0.mk (R_drew HO_4.out)
           have n2_ := Aside0.mk (R_drew HO_6.out)
           have n3_ := Aside0.mk (blk_drew BK595.out)
           have n4_ := Aside0.mk (blk_drew BK616.out)
           have n5_ := Aside0.mk (blk_drew BK622.out)
           have n6_ := Aside0.mk (bw1 HB.out)
           clear HO_3
           clear HO_4
           clear HO_6
           clear BK595
           clear BK616
           clear BK622
           clear HB
           have HO_3 := n0_
           have HO_4 := n1_
           have HO_6 := n2_
           have BK595 := n3_
           have BK616 := n4_
           have BK622 := n5_
           have HB := n6_
           clear n0_ n1_ n2_ n3_ n4_ n5_ n6_
           refine start_ (n := 25) (S := fun w' => True) (ds := []) #[false, false, false, false, false, false, false, false, false, false, false, false, false, false, false, false, false, false, false, false, false, false, false, false, false] (by kernel_rfl) rfl rfl trivial (fun hHeld => ?_); refine with_tabW laws_FnLetGo.tab18 laws_FnLetGo.bits18 (fun HT_ HW_ => ?_)
           generalize wc.drew = w69 at HO_3 HO_4 HO_6 BK595 BK616 BK622 HB hHeld ⊢
           refine puY (i := 0) 106 (bq 1 25) HT_ ?_
           refine puY (i := 1) 107 (bq 2 25) HT_ ?_
           refine puY (i := 2) 108 (bq 3 25) HT_ ?_
           refine puY (i := 4) 110 #[true, true, true, false, true, false, false, false, false, false, false, false, false, false, false, false, false, false, false, false, false, false, false, false, false] HT_ ?_
           refine onY (i := 3) 109 (bq 5 25) HT_ (fun K hK => ?_)
           refine goes_ Try.func57 (by kernel_rfl) rfl #[.slice Ao20 t585.length co20, .slice Ao35 t596.length co35] (by rfl) rfl rfl (by (try simp only [map_toArray, map_cons, map_nil]); rfl) ?_
           with_reducible refine (impl_DoneBy.calls kj29 _ _ t585 _ _ t596 t627 _ ?side1 ?side2 ?side3 ?side4 A66.out).mono ?_
           (case side1 => repeat (exact (R_reads' HO_3.out).2.2))
           (case side2 => exact (R_reads' HO_3.out).2.1)
           (case side3 => repeat (exact (R_reads' HO_6.out).2.2))
           (case side4 => exact (R_reads' HO_6.out).2.1)
           rintro e w70 ⟨v628, rfl, ho0, hb⟩
           refine ⟨_, rfl, ?_⟩
           have n0_ := Aside0.mk (R_below (by (with_reducible repeat (fail)); exact HO_3.out) hb)
           have n1_ := Aside0.mk (R_below (by (with_reducible repeat (fail)); exact HO_4.out) hb)
           have n2_ := Aside0.mk (R_below (by (with_reducible repeat (fail)); exact HO_6.out) hb)
           have n3_ := Aside0.mk (Kd.R_lower ho0 (below_size (by repeat ((with_reducible exact HB.out)))))
           have n4_ := Aside0.mk (blk_below (g := gb595) (o := .cells #[.int .i64 t591, .int .i64 t592, .int .i64 t593, .int .i64 t594] 58 (0, 0)) (by (with_reducible repeat (fail)); exact BK595.out) hb)
           have n5_ := Aside0.mk (blk_below (g := gb616) (o := .cells #[.int .i64 t611, .int .i64 t612, .int .i64 t613, .int .i64 t614] 58 (0, 0)) (by (with_reducible repeat (fail)); exact BK616.out) hb)
           have n6_ := Aside0.mk (blk_below (g := gb622) (o := .cells #[.int .i64 t617, .int .i64 t618, .int .i64 t619, .int .i64 t620] 58 (0, 0)) (by (with_reducible repeat (fail)); exact BK622.out) hb)
           have n7_ := Aside0.mk (below_step (by repeat ((with_reducible exact HB.out))) hb)
           clear HO_3
           clear HO_4
           clear HO_6
           clear BK595
           clear BK616
           clear BK622
           clear HB
           have HO_3 := n0_
           have HO_4 := n1_
           have HO_6 := n2_
           have HO629 := n3_
           have BK595 := n4_
           have BK616 := n5_
           have BK622 := n6_
           have HB := n7_
           clear n0_ n1_ n2_ n3_ n4_ n5_ n6_ n7_
           (try clear hb)
           (try clear ho0)
           obtain ⟨Ao71, co71, eo71⟩ := Kd.R_slice HO629.out
           (subst eo71)
           refine hK.out _ _ trivial (fun hHeld => ?_)
           clear hK K
           refine norm_ (a' := ?_) ?_ ?_
           rotate_left
           ·show Act.put _ (some 109) _ = _
            simp only [Act.put, stA, stZ, stS, i64_w, i32_w]
            rfl
           refine onY (i := 5) 111 (bq 6 25) HT_ (fun K hK => ?_)
           refine goes_ Try.func38 (by kernel_rfl) rfl #[.slice Ao71 t627.length co71, .int .i64 x10_1] (by rfl) rfl rfl (by (try simp only [map_toArray, map_cons, map_nil]); rfl) ?_
           with_reducible refine (laws_has.calls kj29 _ _ t627 x10_1 t630 _ ?side1 ?side2 A67.out).mono ?_
           (case side1 => repeat (exact (R_reads' HO629.out).2.2))
           (case side2 => exact (R_reads' HO629.out).2.1)
           rintro e w' ⟨rfl, ⟨nd, rfl⟩⟩
           refine ⟨_, rfl, ?_⟩
           refine hK.out _ _ trivial (fun hHeld => ?_)
           clear hK K
           refine norm_ (a' := ?_) ?_ ?_
           rotate_left
           ·show Act.put _ (some 111) _ = _
            simp only [Act.put, stA, stZ, stS, i64_w, i32_w]
            rfl
           refine puY (i := 6) 112 (bq 7 25) HT_ ?_
           refine puY (i := 7) 113 (bq 8 25) HT_ ?_
           refine puN (i := 8) 114 (bq 9 25) HT_ ?_
           refine puN (i := 9) 115 (bq 10 25) HT_ ?_
           refine puN (i := 10) 116 (bq 11 25) HT_ ?_
           refine puN (i := 11) 117 (bq 12 25) HT_ ?_
           refine puN (i := 12) 118 (bq 13 25) HT_ ?_
           refine puN (i := 13) 119 (bq 14 25) HT_ ?_
           refine puN (i := 14) 120 (bq 15 25) HT_ ?_
           refine puY (i := 15) 121 (bq 16 25) HT_ ?_
           refine puY (i := 16) 122 (bq 17 25) HT_ ?_
           refine puN (i := 17) 123 (bq 18 25) HT_ ?_
           refine puN (i := 18) 124 (bq 19 25) HT_ ?_
           refine puN (i := 19) 125 (bq 20 25) HT_ ?_
           refine puN (i := 20) 126 (bq 21 25) HT_ ?_
           refine puN (i := 21) 127 (bq 22 25) HT_ ?_
           refine puN (i := 22) 128 (bq 23 25) HT_ ?_
           refine puN (i := 23) 129 (bq 24 25) HT_ ?_
           refine puY (i := 24) 130 (bq 25 25) HT_ ?_
           refine done_ (done_of HT_.out (by kernel_rfl)) ?_
           try go_wp2
           go_ret
           exact ⟨by rfl, by repeat ((with_reducible first | exact HB.out | apply bwN))⟩
          ·rw [if_neg c68] at H
           have c68b0 : (t621 != t630) = false := by simpa using c68
           (try (have c68b1 : decide (t621 = t630) = true := by simpa using c68))
           (try (have c68b2 : (t621 == t630) = true := by simpa using c68))
           clear c68
           replace H := bind_eq_some_iff.mp H
           obtain ⟨t631, A720, H⟩ := H
           replace H : (if t631 = t618 then ((impl_CauseOf.f kj29 t585 t596 x10_1).bind fun t632 => (if t632 = t619 then (laws_FnLetGo.l0 kj29 t585 t588 t596 (wrap64 (x10_1 + 1)) t591 t592 t593 t594) else (some false))) else (some false)) = some r := H
           have A72 := Aside0.mk A720
           clear A720
           by_cases c73 : t631 = t618
           ·rw [if_pos c73] at H
            have c73b0 : (t631 == t618) = true := beq_iff_eq.mpr c73
            have c73b1 : (t631 != t618) = false := bne_eq_false_iff_eq.mpr c73
            clear c73
            replace H := bind_eq_some_iff.mp H
            obtain ⟨t632, A740, H⟩ := H
            replace H : (if t632 = t619 then (laws_FnLetGo.l0 kj29 t585 t588 t596 (wrap64 (x10_1 + 1)) t591 t592 t593 t594) else (some false)) = some r := H
            have A74 := Aside0.mk A740
            clear A740
            by_cases c75 : t632 = t619
            ·rw [if_pos c75] at H
             have c75b0 : (t632 == t619) = true := beq_iff_eq.mpr c75
             have c75b1 : (t632 != t619) = false := bne_eq_false_iff_eq.mpr c75
             clear c75
             have H' := Aside0.mk H
             clear H
             try go_wp2
             have n0_ := Aside0.mk (R_drew HO_3.out)
             have n1_ := Aside0.mk (R_drew HO_4.out)
             have n2_ := Aside0.mk (R_drew HO_6.out)
             have n3_ := Aside0.mk (blk_drew BK595.out)
             have n4_ := Aside0.mk (blk_drew BK616.out)
             have n5_ := Aside0.mk (blk_drew BK622.out)
             have n6_ := Aside0.mk (bw1 HB.out)
             clear HO_3
             clear HO_4
             clear HO_6
             clear BK595
             clear BK616
             clear BK622
             clear HB
             have HO_3 := n0_
             have HO_4 := n1_
             have HO_6 := n2_
             have BK595 := n3_
             have BK616 := n4_
             have BK622 := n5_
             have HB := n6_
             clear n0_ n1_ n2_ n3_ n4_ n5_ n6_
             refine start_ (n := 25) (S := fun w' => w'.cell? ⟨gb622, 0, none⟩ = some (.int .i64 t617) ∧ w'.cell? ⟨gb622, 1, none⟩ = some (.int .i64 t618) ∧ w'.cell? ⟨gb622, 2, none⟩ = some (.int .i64 t619) ∧ w'.cell? ⟨gb622, 3, none⟩ = some (.int .i64 t620)) (ds := []) #[false, false, false, false, false, false, false, false, false, false, false, false, false, false, false, false, false, false, false, false, false, false, false, false, false] (by kernel_rfl) rfl rfl ⟨(blk_cell BK622.out 0).trans rfl, (blk_cell BK622.out 1).trans rfl, (blk_cell BK622.out 2).trans rfl, (blk_cell BK622.out 3).trans rfl⟩ (fun hHeld => ?_); refine with_tabW laws_FnLetGo.tab18 laws_FnLetGo.bits18 (fun HT_ HW_ => ?_)
             generalize wc.drew = w76 at HO_3 HO_4 HO_6 BK595 BK616 BK622 HB hHeld ⊢
             refine puY (i := 0) 106 (bq 1 25) HT_ ?_
             refine puY (i := 1) 107 (bq 2 25) HT_ ?_
             refine puY (i := 2) 108 (bq 3 25) HT_ ?_
             refine puY (i := 4) 110 #[true, true, true, false, true, false, false, false, false, false, false, false, false, false, false, false, false, false, false, false, false, false, false, false, false] HT_ ?_
             refine onY (i := 3) 109 (bq 5 25) HT_ (fun K hK => ?_)
             refine goes_ Try.func57 (by kernel_rfl) rfl #[.slice Ao20 t585.length co20, .slice Ao35 t596.length co35] (by rfl) rfl rfl (by (try simp only [map_toArray, map_cons, map_nil]); rfl) ?_
             with_reducible refine (impl_DoneBy.calls kj29 _ _ t585 _ _ t596 t627 _ ?side1 ?side2 ?side3 ?side4 A66.out).mono ?_
             (case side1 => repeat (exact (R_reads' HO_3.out).2.2))
             (case side2 => exact (R_reads' HO_3.out).2.1)
             (case side3 => repeat (exact (R_reads' HO_6.out).2.2))
             (case side4 => exact (R_reads' HO_6.out).2.1)
             rintro e w77 ⟨v628, rfl, ho0, hb⟩
             refine ⟨_, rfl, ?_⟩
             have n0_ := Aside0.mk (R_below (by (with_reducible repeat (fail)); exact HO_3.out) hb)
             have n1_ := Aside0.mk (R_below (by (with_reducible repeat (fail)); exact HO_4.out) hb)
             have n2_ := Aside0.mk (R_below (by (with_reducible repeat (fail)); exact HO_6.out) hb)
             have n3_ := Aside0.mk (Kd.R_lower ho0 (below_size (by repeat ((with_reducible exact HB.out)))))
             have n4_ := Aside0.mk (blk_below (g := gb595) (o := .cells #[.int .i64 t591, .int .i64 t592, .int .i64 t593, .int .i64 t594] 58 (0, 0)) (by (with_reducible repeat (fail)); exact BK595.out) hb)
             have n5_ := Aside0.mk (blk_below (g := gb616) (o := .cells #[.int .i64 t611, .int .i64 t612, .int .i64 t613, .int .i64 t614] 58 (0, 0)) (by (with_reducible repeat (fail)); exact BK616.out) hb)
             have n6_ := Aside0.mk (blk_below (g := gb622) (o := .cells #[.int .i64 t617, .int .i64 t618, .int .i64 t619, .int .i64 t620] 58 (0, 0)) (by (with_reducible repeat (fail)); exact BK622.out) hb)
             have n7_ := Aside0.mk (below_step (by repeat ((with_reducible exact HB.out))) hb)
             clear HO_3
             clear HO_4
             clear HO_6
             clear BK595
             clear BK616
             clear BK622
             clear HB
             have HO_3 := n0_
             have HO_4 := n1_
             have HO_6 := n2_
             have HO629 := n3_
             have BK595 := n4_
             have BK616 := n5_
             have BK622 := n6_
             have HB := n7_
             clear n0_ n1_ n2_ n3_ n4_ n5_ n6_ n7_
             (try clear hb)
             (try clear ho0)
             obtain ⟨Ao78, co78, eo78⟩ := Kd.R_slice HO629.out
             (subst eo78)
             refine hK.out _ _ ⟨(blk_cell BK622.out 0).trans rfl, (blk_cell BK622.out 1).trans rfl, (blk_cell BK622.out 2).trans rfl, (blk_cell BK622.out 3).trans rfl⟩ (fun hHeld => ?_)
             clear hK K
             refine norm_ (a' := ?_) ?_ ?_
             rotate_left
             ·show Act.put _ (some 109) _ = _
              simp only [Act.put, stA, stZ, stS, i64_w, i32_w]
              rfl
             refine onY (i := 5) 111 (bq 6 25) HT_ (fun K hK => ?_)
             refine goes_ Try.func38 (by kernel_rfl) rfl #[.slice Ao78 t627.length co78, .int .i64 x10_1] (by rfl) rfl rfl (by (try simp only [map_toArray, map_cons, map_nil]); rfl) ?_
             with_reducible refine (laws_has.calls kj29 _ _ t627 x10_1 t630 _ ?side1 ?side2 A67.out).mono ?_
             (case side1 => repeat (exact (R_reads' HO629.out).2.2))
             (case side2 => exact (R_reads' HO629.out).2.1)
             rintro e w' ⟨rfl, ⟨nd, rfl⟩⟩
             refine ⟨_, rfl, ?_⟩
             refine hK.out _ _ ⟨(blk_cell BK622.out 0).trans rfl, (blk_cell BK622.out 1).trans rfl, (blk_cell BK622.out 2).trans rfl, (blk_cell BK622.out 3).trans rfl⟩ (fun hHeld => ?_)
             clear hK K
             refine norm_ (a' := ?_) ?_ ?_
             rotate_left
             ·show Act.put _ (some 111) _ = _
              simp only [Act.put, stA, stZ, stS, i64_w, i32_w]
              rfl
             refine puY (i := 6) 112 (bq 7 25) HT_ ?_
             refine puY (i := 7) 113 (bq 8 25) HT_ ?_
             refine puY (i := 8) 114 (bq 9 25) HT_ ?_
             refine puY (i := 9) 115 (bq 10 25) HT_ ?_
             refine puY (i := 10) 116 (bq 11 25) HT_ ?_
             refine puY (i := 12) 118 #[true, true, true, true, true, true, true, true, true, true, true, false, true, false, false, false, false, false, false, false, false, false, false, false, false] HT_ ?_
             refine take_ (i := 13) (N := some 119) (v := ?_) (a' := ?_) #[true, true, true, true, true, true, true, true, true, true, true, false, true, true, false, false, false, false, false, false, false, false, false, false, false] rfl rfl (take_ofW HT_.out HW_.out (by kernel_rfl)) (fun _ _ _ h => h) (Or.inl ⟨by rfl, ?_⟩) hHeld ?_ ?_
             rotate_left
             ·rintro w' ⟨s0, s1, s2, s3⟩
              go_simp
              with_reducible rfl
             rotate_left
             ·simp only [Act.put, stA, stZ, stS, i64_w, i32_w]
              rfl
             refine onY (i := 11) 117 (bq 14 25) HT_ (fun K hK => ?_)
             refine goes_ Try.func50 (by kernel_rfl) rfl #[.slice Ao20 t585.length co20, .slice Ao35 t596.length co35, .int .i64 x10_1] (by rfl) rfl rfl (by (try simp only [map_toArray, map_cons, map_nil]); rfl) ?_
             with_reducible refine (impl_ErrOf.calls kj29 _ _ t585 _ _ t596 x10_1 t631 _ ?side1 ?side2 ?side3 ?side4 A72.out).mono ?_
             (case side1 => repeat (exact (R_reads' HO_3.out).2.2))
             (case side2 => exact (R_reads' HO_3.out).2.1)
             (case side3 => repeat (exact (R_reads' HO_6.out).2.2))
             (case side4 => exact (R_reads' HO_6.out).2.1)
             rintro e w79 ⟨rfl, hb⟩
             refine ⟨_, rfl, ?_⟩
             have n0_ := Aside0.mk (R_below (by (with_reducible repeat (apply R_drewN)); exact HO_3.out) hb)
             have n1_ := Aside0.mk (R_below (by (with_reducible repeat (apply R_drewN)); exact HO_4.out) hb)
             have n2_ := Aside0.mk (R_below (by (with_reducible repeat (apply R_drewN)); exact HO_6.out) hb)
             have n3_ := Aside0.mk (R_below (by (with_reducible repeat (apply R_drewN)); exact HO629.out) hb)
             have n4_ := Aside0.mk (blk_below (g := gb595) (o := .cells #[.int .i64 t591, .int .i64 t592, .int .i64 t593, .int .i64 t594] 58 (0, 0)) (by (with_reducible repeat (refine blk_drewN ?_ _)); exact BK595.out) hb)
             have n5_ := Aside0.mk (blk_below (g := gb616) (o := .cells #[.int .i64 t611, .int .i64 t612, .int .i64 t613, .int .i64 t614] 58 (0, 0)) (by (with_reducible repeat (refine blk_drewN ?_ _)); exact BK616.out) hb)
             have n6_ := Aside0.mk (blk_below (g := gb622) (o := .cells #[.int .i64 t617, .int .i64 t618, .int .i64 t619, .int .i64 t620] 58 (0, 0)) (by (with_reducible repeat (refine blk_drewN ?_ _)); exact BK622.out) hb)
             have n7_ := Aside0.mk (below_step (by repeat ((with_reducible first | exact HB.out | apply bwN))) hb)
             clear HO_3
             clear HO_4
             clear HO_6
             clear HO629
             clear BK595
             clear BK616
             clear BK622
             clear HB
             have HO_3 := n0_
             have HO_4 := n1_
             have HO_6 := n2_
             have HO629 := n3_
             have BK595 := n4_
             have BK616 := n5_
             have BK622 := n6_
             have HB := n7_
             clear n0_ n1_ n2_ n3_ n4_ n5_ n6_ n7_
             (try clear hb)
             refine hK.out _ _ ⟨(blk_cell BK622.out 0).trans rfl, (blk_cell BK622.out 1).trans rfl, (blk_cell BK622.out 2).trans rfl, (blk_cell BK622.out 3).trans rfl⟩ (fun hHeld => ?_)
             clear hK K
             refine norm_ (a' := ?_) ?_ ?_
             rotate_left
             ·show Act.put _ (some 117) _ = _
              simp only [Act.put, stA, stZ, stS, i64_w, i32_w]
              rfl
             refine puY (i := 14) 120 (bq 15 25) HT_ ?_
             refine puY (i := 15) 121 (bq 16 25) HT_ ?_
             refine puY (i := 16) 122 (bq 17 25) HT_ ?_
             refine puY (i := 17) 123 (bq 18 25) HT_ ?_
             refine puY (i := 18) 124 (bq 19 25) HT_ ?_
             refine puY (i := 19) 125 (bq 20 25) HT_ ?_
             refine puY (i := 21) 127 #[true, true, true, true, true, true, true, true, true, true, true, true, true, true, true, true, true, true, true, true, false, true, false, false, false] HT_ ?_
             refine take_ (i := 22) (N := some 128) (v := ?_) (a' := ?_) #[true, true, true, true, true, true, true, true, true, true, true, true, true, true, true, true, true, true, true, true, false, true, true, false, false] rfl rfl (take_ofW HT_.out HW_.out (by kernel_rfl)) (fun _ _ _ h => h) (Or.inl ⟨by rfl, ?_⟩) hHeld ?_ ?_
             rotate_left
             ·rintro w' ⟨s0, s1, s2, s3⟩
              go_simp
              with_reducible rfl
             rotate_left
             ·simp only [Act.put, stA, stZ, stS, i64_w, i32_w]
              rfl
             refine onY (i := 20) 126 (bq 23 25) HT_ (fun K hK => ?_)
             refine goes_ Try.func48 (by kernel_rfl) rfl #[.slice Ao20 t585.length co20, .slice Ao35 t596.length co35, .int .i64 x10_1] (by rfl) rfl rfl (by (try simp only [map_toArray, map_cons, map_nil]); rfl) ?_
             with_reducible refine (impl_CauseOf.calls kj29 _ _ t585 _ _ t596 x10_1 t632 _ ?side1 ?side2 ?side3 ?side4 A74.out).mono ?_
             (case side1 => repeat (exact (R_reads' HO_3.out).2.2))
             (case side2 => exact (R_reads' HO_3.out).2.1)
             (case side3 => repeat (exact (R_reads' HO_6.out).2.2))
             (case side4 => exact (R_reads' HO_6.out).2.1)
             rintro e w80 ⟨rfl, hb⟩
             refine ⟨_, rfl, ?_⟩
             have n0_ := Aside0.mk (R_below (by (with_reducible repeat (fail)); exact HO_3.out) hb)
             have n1_ := Aside0.mk (R_below (by (with_reducible repeat (fail)); exact HO_4.out) hb)
             have n2_ := Aside0.mk (R_below (by (with_reducible repeat (fail)); exact HO_6.out) hb)
             have n3_ := Aside0.mk (R_below (by (with_reducible repeat (fail)); exact HO629.out) hb)
             have n4_ := Aside0.mk (blk_below (g := gb595) (o := .cells #[.int .i64 t591, .int .i64 t592, .int .i64 t593, .int .i64 t594] 58 (0, 0)) (by (with_reducible repeat (fail)); exact BK595.out) hb)
             have n5_ := Aside0.mk (blk_below (g := gb616) (o := .cells #[.int .i64 t611, .int .i64 t612, .int .i64 t613, .int .i64 t614] 58 (0, 0)) (by (with_reducible repeat (fail)); exact BK616.out) hb)
             have n6_ := Aside0.mk (blk_below (g := gb622) (o := .cells #[.int .i64 t617, .int .i64 t618, .int .i64 t619, .int .i64 t620] 58 (0, 0)) (by (with_reducible repeat (fail)); exact BK622.out) hb)
             have n7_ := Aside0.mk (below_step (by repeat ((with_reducible exact HB.out))) hb)
             clear HO_3
             clear HO_4
             clear HO_6
             clear HO629
             clear BK595
             clear BK616
             clear BK622
             clear HB
             have HO_3 := n0_
             have HO_4 := n1_
             have HO_6 := n2_
             have HO629 := n3_
             have BK595 := n4_
             have BK616 := n5_
             have BK622 := n6_
             have HB := n7_
             clear n0_ n1_ n2_ n3_ n4_ n5_ n6_ n7_
             (try clear hb)
             refine hK.out _ _ ⟨(blk_cell BK622.out 0).trans rfl, (blk_cell BK622.out 1).trans rfl, (blk_cell BK622.out 2).trans rfl, (blk_cell BK622.out 3).trans rfl⟩ (fun hHeld => ?_)
             clear hK K
             refine norm_ (a' := ?_) ?_ ?_
             rotate_left
             ·show Act.put _ (some 126) _ = _
              simp only [Act.put, stA, stZ, stS, i64_w, i32_w]
              rfl
             refine puY (i := 23) 129 (bq 24 25) HT_ ?_
             refine puY (i := 24) 130 (bq 25 25) HT_ ?_
             refine done_ (done_of HT_.out (by kernel_rfl)) ?_
             try go_wp2
             go_roundg kj29
             case measure => have := HK1.out; have := HJ29.out; omega
             case rel => exact ⟨(wrap64 (x10_1 + 1)), (by rfl), H', ⟨by have := HK1.out; have := HJ29.out; omega⟩, ⟨by (with_reducible repeat (fail)); exact HO_3.out⟩, ⟨by (with_reducible repeat (fail)); exact Kd.R_mono HO_4.out (fun _ hk => ⟨hk.1, hk.2.1⟩)⟩, ⟨by (with_reducible repeat (fail)); exact Kd.R_mono HO_6.out (fun _ hk => ⟨hk.1, hk.2.1⟩)⟩, ⟨by (with_reducible repeat (fail)); exact BK595.out⟩, ⟨by repeat ((with_reducible exact HB.out))⟩⟩
            ·rw [if_neg c75] at H
             have c75b0 : (t632 == t619) = false := beq_eq_false_iff_ne.mpr c75
             have c75b1 : (t632 != t619) = true := bne_iff_ne.mpr c75
             obtain rfl := Option.some.inj H
             try go_wp2
             have n0_ := Aside0.mk (R_drew HO_3.out)
             have n1_ := Aside0.mk (R_drew HO_4.out)
             have n2_ := Aside0.mk (R_drew HO_6.out)
             have n3_ := Aside0.mk (blk_drew BK595.out)
             have n4_ := Aside0.mk (blk_drew BK616.out)
             have n5_ := Aside0.mk (blk_drew BK622.out)
             have n6_ := Aside0.mk (bw1 HB.out)
             clear HO_3
             clear HO_4
             clear HO_6
             clear BK595
             clear BK616
             clear BK622
             clear HB
             have HO_3 := n0_
             have HO_4 := n1_
             have HO_6 := n2_
             have BK595 := n3_
             have BK616 := n4_
             have BK622 := n5_
             have HB := n6_
             clear n0_ n1_ n2_ n3_ n4_ n5_ n6_
             refine start_ (n := 25) (S := fun w' => w'.cell? ⟨gb622, 0, none⟩ = some (.int .i64 t617) ∧ w'.cell? ⟨gb622, 1, none⟩ = some (.int .i64 t618) ∧ w'.cell? ⟨gb622, 2, none⟩ = some (.int .i64 t619) ∧ w'.cell? ⟨gb622, 3, none⟩ = some (.int .i64 t620)) (ds := []) #[false, false, false, false, false, false, false, false, false, false, false, false, false, false, false, false, false, false, false, false, false, false, false, false, false] (by kernel_rfl) rfl rfl ⟨(blk_cell BK622.out 0).trans rfl, (blk_cell BK622.out 1).trans rfl, (blk_cell BK622.out 2).trans rfl, (blk_cell BK622.out 3).trans rfl⟩ (fun hHeld => ?_); refine with_tabW laws_FnLetGo.tab18 laws_FnLetGo.bits18 (fun HT_ HW_ => ?_)
             generalize wc.drew = w81 at HO_3 HO_4 HO_6 BK595 BK616 BK622 HB hHeld ⊢
             refine puY (i := 0) 106 (bq 1 25) HT_ ?_
             refine puY (i := 1) 107 (bq 2 25) HT_ ?_
             refine puY (i := 2) 108 (bq 3 25) HT_ ?_
             refine puY (i := 4) 110 #[true, true, true, false, true, false, false, false, false, false, false, false, false, false, false, false, false, false, false, false, false, false, false, false, false] HT_ ?_
             refine onY (i := 3) 109 (bq 5 25) HT_ (fun K hK => ?_)
             refine goes_ Try.func57 (by kernel_rfl) rfl #[.slice Ao20 t585.length co20, .slice Ao35 t596.length co35] (by rfl) rfl rfl (by (try simp only [map_toArray, map_cons, map_nil]); rfl) ?_
             with_reducible refine (impl_DoneBy.calls kj29 _ _ t585 _ _ t596 t627 _ ?side1 ?side2 ?side3 ?side4 A66.out).mono ?_
             (case side1 => repeat (exact (R_reads' HO_3.out).2.2))
             (case side2 => exact (R_reads' HO_3.out).2.1)
             (case side3 => repeat (exact (R_reads' HO_6.out).2.2))
             (case side4 => exact (R_reads' HO_6.out).2.1)
             rintro e w82 ⟨v628, rfl, ho0, hb⟩
             refine ⟨_, rfl, ?_⟩
             have n0_ := Aside0.mk (R_below (by (with_reducible repeat (fail)); exact HO_3.out) hb)
             have n1_ := Aside0.mk (R_below (by (with_reducible repeat (fail)); exact HO_4.out) hb)
             have n2_ := Aside0.mk (R_below (by (with_reducible repeat (fail)); exact HO_6.out) hb)
             have n3_ := Aside0.mk (Kd.R_lower ho0 (below_size (by repeat ((with_reducible exact HB.out)))))
             have n4_ := Aside0.mk (blk_below (g := gb595) (o := .cells #[.int .i64 t591, .int .i64 t592, .int .i64 t593, .int .i64 t594] 58 (0, 0)) (by (with_reducible repeat (fail)); exact BK595.out) hb)
             have n5_ := Aside0.mk (blk_below (g := gb616) (o := .cells #[.int .i64 t611, .int .i64 t612, .int .i64 t613, .int .i64 t614] 58 (0, 0)) (by (with_reducible repeat (fail)); exact BK616.out) hb)
             have n6_ := Aside0.mk (blk_below (g := gb622) (o := .cells #[.int .i64 t617, .int .i64 t618, .int .i64 t619, .int .i64 t620] 58 (0, 0)) (by (with_reducible repeat (fail)); exact BK622.out) hb)
             have n7_ := Aside0.mk (below_step (by repeat ((with_reducible exact HB.out))) hb)
             clear HO_3
             clear HO_4
             clear HO_6
             clear BK595
             clear BK616
             clear BK622
             clear HB
             have HO_3 := n0_
             have HO_4 := n1_
             have HO_6 := n2_
             have HO629 := n3_
             have BK595 := n4_
             have BK616 := n5_
             have BK622 := n6_
             have HB := n7_
             clear n0_ n1_ n2_ n3_ n4_ n5_ n6_ n7_
             (try clear hb)
             (try clear ho0)
             obtain ⟨Ao83, co83, eo83⟩ := Kd.R_slice HO629.out
             (subst eo83)
             refine hK.out _ _ ⟨(blk_cell BK622.out 0).trans rfl, (blk_cell BK622.out 1).trans rfl, (blk_cell BK622.out 2).trans rfl, (blk_cell BK622.out 3).trans rfl⟩ (fun hHeld => ?_)
             clear hK K
             refine norm_ (a' := ?_) ?_ ?_
             rotate_left
             ·show Act.put _ (some 109) _ = _
              simp only [Act.put, stA, stZ, stS, i64_w, i32_w]
              rfl
             refine onY (i := 5) 111 (bq 6 25) HT_ (fun K hK => ?_)
             refine goes_ Try.func38 (by kernel_rfl) rfl #[.slice Ao83 t627.length co83, .int .i64 x10_1] (by rfl) rfl rfl (by (try simp only [map_toArray, map_cons, map_nil]); rfl) ?_
             with_reducible refine (laws_has.calls kj29 _ _ t627 x10_1 t630 _ ?side1 ?side2 A67.out).mono ?_
             (case side1 => repeat (exact (R_reads' HO629.out).2.2))
             (case side2 => exact (R_reads' HO629.out).2.1)
             rintro e w' ⟨rfl, ⟨nd, rfl⟩⟩
             refine ⟨_, rfl, ?_⟩
             refine hK.out _ _ ⟨(blk_cell BK622.out 0).trans rfl, (blk_cell BK622.out 1).trans rfl, (blk_cell BK622.out 2).trans rfl, (blk_cell BK622.out 3).trans rfl⟩ (fun hHeld => ?_)
             clear hK K
             refine norm_ (a' := ?_) ?_ ?_
             rotate_left
             ·show Act.put _ (some 111) _ = _
              simp only [Act.put, stA, stZ, stS, i64_w, i32_w]
              rfl
             refine puY (i := 6) 112 (bq 7 25) HT_ ?_
             refine puY (i := 7) 113 (bq 8 25) HT_ ?_
             refine puY (i := 8) 114 (bq 9 25) HT_ ?_
             refine puY (i := 9) 115 (bq 10 25) HT_ ?_
             refine puY (i := 10) 116 (bq 11 25) HT_ ?_
             refine puY (i := 12) 118 #[true, true, true, true, true, true, true, true, true, true, true, false, true, false, false, false, false, false, false, false, false, false, false, false, false] HT_ ?_
             refine take_ (i := 13) (N := some 119) (v := ?_) (a' := ?_) #[true, true, true, true, true, true, true, true, true, true, true, false, true, true, false, false, false, false, false, false, false, false, false, false, false] rfl rfl (take_ofW HT_.out HW_.out (by kernel_rfl)) (fun _ _ _ h => h) (Or.inl ⟨by rfl, ?_⟩) hHeld ?_ ?_
             rotate_left
             ·rintro w' ⟨s0, s1, s2, s3⟩
              go_simp
              with_reducible rfl
             rotate_left
             ·simp only [Act.put, stA, stZ, stS, i64_w, i32_w]
              rfl
             refine onY (i := 11) 117 (bq 14 25) HT_ (fun K hK => ?_)
             refine goes_ Try.func50 (by kernel_rfl) rfl #[.slice Ao20 t585.length co20, .slice Ao35 t596.length co35, .int .i64 x10_1] (by rfl) rfl rfl (by (try simp only [map_toArray, map_cons, map_nil]); rfl) ?_
             with_reducible refine (impl_ErrOf.calls kj29 _ _ t585 _ _ t596 x10_1 t631 _ ?side1 ?side2 ?side3 ?side4 A72.out).mono ?_
             (case side1 => repeat (exact (R_reads' HO_3.out).2.2))
             (case side2 => exact (R_reads' HO_3.out).2.1)
             (case side3 => repeat (exact (R_reads' HO_6.out).2.2))
             (case side4 => exact (R_reads' HO_6.out).2.1)
             rintro e w84 ⟨rfl, hb⟩
             refine ⟨_, rfl, ?_⟩
             have n0_ := Aside0.mk (R_below (by (with_reducible repeat (apply R_drewN)); exact HO_3.out) hb)
             have n1_ := Aside0.mk (R_below (by (with_reducible repeat (apply R_drewN)); exact HO_4.out) hb)
             have n2_ := Aside0.mk (R_below (by (with_reducible repeat (apply R_drewN)); exact HO_6.out) hb)
             have n3_ := Aside0.mk (R_below (by (with_reducible repeat (apply R_drewN)); exact HO629.out) hb)
             have n4_ := Aside0.mk (blk_below (g := gb595) (o := .cells #[.int .i64 t591, .int .i64 t592, .int .i64 t593, .int .i64 t594] 58 (0, 0)) (by (with_reducible repeat (refine blk_drewN ?_ _)); exact BK595.out) hb)
             have n5_ := Aside0.mk (blk_below (g := gb616) (o := .cells #[.int .i64 t611, .int .i64 t612, .int .i64 t613, .int .i64 t614] 58 (0, 0)) (by (with_reducible repeat (refine blk_drewN ?_ _)); exact BK616.out) hb)
             have n6_ := Aside0.mk (blk_below (g := gb622) (o := .cells #[.int .i64 t617, .int .i64 t618, .int .i64 t619, .int .i64 t620] 58 (0, 0)) (by (with_reducible repeat (refine blk_drewN ?_ _)); exact BK622.out) hb)
             have n7_ := Aside0.mk (below_step (by repeat ((with_reducible first | exact HB.out | apply bwN))) hb)
             clear HO_3
             clear HO_4
             clear HO_6
             clear HO629
             clear BK595
             clear BK616
             clear BK622
             clear HB
             have HO_3 := n0_
             have HO_4 := n1_
             have HO_6 := n2_
             have HO629 := n3_
             have BK595 := n4_
             have BK616 := n5_
             have BK622 := n6_
             have HB := n7_
             clear n0_ n1_ n2_ n3_ n4_ n5_ n6_ n7_
             (try clear hb)
             refine hK.out _ _ ⟨(blk_cell BK622.out 0).trans rfl, (blk_cell BK622.out 1).trans rfl, (blk_cell BK622.out 2).trans rfl, (blk_cell BK622.out 3).trans rfl⟩ (fun hHeld => ?_)
             clear hK K
             refine norm_ (a' := ?_) ?_ ?_
             rotate_left
             ·show Act.put _ (some 117) _ = _
              simp only [Act.put, stA, stZ, stS, i64_w, i32_w]
              rfl
             refine puY (i := 14) 120 (bq 15 25) HT_ ?_
             refine puY (i := 15) 121 (bq 16 25) HT_ ?_
             refine puY (i := 16) 122 (bq 17 25) HT_ ?_
             refine puY (i := 17) 123 (bq 18 25) HT_ ?_
             refine puY (i := 18) 124 (bq 19 25) HT_ ?_
             refine puY (i := 19) 125 (bq 20 25) HT_ ?_
             refine puY (i := 21) 127 #[true, true, true, true, true, true, true, true, true, true, true, true, true, true, true, true, true, true, true, true, false, true, false, false, false] HT_ ?_
             refine take_ (i := 22) (N := some 128) (v := ?_) (a' := ?_) #[true, true, true, true, true, true, true, true, true, true, true, true, true, true, true, true, true, true, true, true, false, true, true, false, false] rfl rfl (take_ofW HT_.out HW_.out (by kernel_rfl)) (fun _ _ _ h => h) (Or.inl ⟨by rfl, ?_⟩) hHeld ?_ ?_
             rotate_left
             ·rintro w' ⟨s0, s1, s2, s3⟩
              go_simp
              with_reducible rfl
             rotate_left
             ·simp only [Act.put, stA, stZ, stS, i64_w, i32_w]
              rfl
             refine onY (i := 20) 126 (bq 23 25) HT_ (fun K hK => ?_)
             refine goes_ Try.func48 (by kernel_rfl) rfl #[.slice Ao20 t585.length co20, .slice Ao35 t596.length co35, .int .i64 x10_1] (by rfl) rfl rfl (by (try simp only [map_toArray, map_cons, map_nil]); rfl) ?_
             with_reducible refine (impl_CauseOf.calls kj29 _ _ t585 _ _ t596 x10_1 t632 _ ?side1 ?side2 ?side3 ?side4 A74.out).mono ?_
             (case side1 => repeat (exact (R_reads' HO_3.out).2.2))
             (case side2 => exact (R_reads' HO_3.out).2.1)
             (case side3 => repeat (exact (R_reads' HO_6.out).2.2))
             (case side4 => exact (R_reads' HO_6.out).2.1)
             rintro e w85 ⟨rfl, hb⟩
             refine ⟨_, rfl, ?_⟩
             have n0_ := Aside0.mk (R_below (by (with_reducible repeat (fail)); exact HO_3.out) hb)
             have n1_ := Aside0.mk (R_below (by (with_reducible repeat (fail)); exact HO_4.out) hb)
             have n2_ := Aside0.mk (R_below (by (with_reducible repeat (fail)); exact HO_6.out) hb)
             have n3_ := Aside0.mk (R_below (by (with_reducible repeat (fail)); exact HO629.out) hb)
             have n4_ := Aside0.mk (blk_below (g := gb595) (o := .cells #[.int .i64 t591, .int .i64 t592, .int .i64 t593, .int .i64 t594] 58 (0, 0)) (by (with_reducible repeat (fail)); exact BK595.out) hb)
             have n5_ := Aside0.mk (blk_below (g := gb616) (o := .cells #[.int .i64 t611, .int .i64 t612, .int .i64 t613, .int .i64 t614] 58 (0, 0)) (by (with_reducible repeat (fail)); exact BK616.out) hb)
             have n6_ := Aside0.mk (blk_below (g := gb622) (o := .cells #[.int .i64 t617, .int .i64 t618, .int .i64 t619, .int .i64 t620] 58 (0, 0)) (by (with_reducible repeat (fail)); exact BK622.out) hb)
             have n7_ := Aside0.mk (below_step (by repeat ((with_reducible exact HB.out))) hb)
             clear HO_3
             clear HO_4
             clear HO_6
             clear HO629
             clear BK595
             clear BK616
             clear BK622
             clear HB
             have HO_3 := n0_
             have HO_4 := n1_
             have HO_6 := n2_
             have HO629 := n3_
             have BK595 := n4_
             have BK616 := n5_
             have BK622 := n6_
             have HB := n7_
             clear n0_ n1_ n2_ n3_ n4_ n5_ n6_ n7_
             (try clear hb)
             refine hK.out _ _ ⟨(blk_cell BK622.out 0).trans rfl, (blk_cell BK622.out 1).trans rfl, (blk_cell BK622.out 2).trans rfl, (blk_cell BK622.out 3).trans rfl⟩ (fun hHeld => ?_)
             clear hK K
             refine norm_ (a' := ?_) ?_ ?_
             rotate_left
             ·show Act.put _ (some 126) _ = _
              simp only [Act.put, stA, stZ, stS, i64_w, i32_w]
              rfl
             refine puY (i := 23) 129 (bq 24 25) HT_ ?_
             refine puY (i := 24) 130 (bq 25 25) HT_ ?_
             refine done_ (done_of HT_.out (by kernel_rfl)) ?_
             try go_wp2
             go_ret
             exact ⟨by rfl, by repeat ((with_reducible exact HB.out))⟩
           ·rw [if_neg c73] at H
            have c73b0 : (t631 == t618) = false := beq_eq_false_iff_ne.mpr c73
            have c73b1 : (t631 != t618) = true := bne_iff_ne.mpr c73
            obtain rfl := Option.some.inj H
            try go_wp2
            have n0_ := Aside0.mk (R_drew HO_3.out)
            have n1_ := Aside0.mk (R_drew HO_4.out)
            have n2_ := Aside0.mk (R_drew HO_6.out)
            have n3_ := Aside0.mk (blk_drew BK595.out)
            have n4_ := Aside0.mk (blk_drew BK616.out)
            have n5_ := Aside0.mk (blk_drew BK622.out)
            have n6_ := Aside0.mk (bw1 HB.out)
            clear HO_3
            clear HO_4
            clear HO_6
            clear BK595
            clear BK616
            clear BK622
            clear HB
            have HO_3 := n0_
            have HO_4 := n1_
            have HO_6 := n2_
            have BK595 := n3_
            have BK616 := n4_
            have BK622 := n5_
            have HB := n6_
            clear n0_ n1_ n2_ n3_ n4_ n5_ n6_
            refine start_ (n := 25) (S := fun w' => w'.cell? ⟨gb622, 0, none⟩ = some (.int .i64 t617) ∧ w'.cell? ⟨gb622, 1, none⟩ = some (.int .i64 t618) ∧ w'.cell? ⟨gb622, 2, none⟩ = some (.int .i64 t619) ∧ w'.cell? ⟨gb622, 3, none⟩ = some (.int .i64 t620)) (ds := []) #[false, false, false, false, false, false, false, false, false, false, false, false, false, false, false, false, false, false, false, false, false, false, false, false, false] (by kernel_rfl) rfl rfl ⟨(blk_cell BK622.out 0).trans rfl, (blk_cell BK622.out 1).trans rfl, (blk_cell BK622.out 2).trans rfl, (blk_cell BK622.out 3).trans rfl⟩ (fun hHeld => ?_); refine with_tabW laws_FnLetGo.tab18 laws_FnLetGo.bits18 (fun HT_ HW_ => ?_)
            generalize wc.drew = w86 at HO_3 HO_4 HO_6 BK595 BK616 BK622 HB hHeld ⊢
            refine puY (i := 0) 106 (bq 1 25) HT_ ?_
            refine puY (i := 1) 107 (bq 2 25) HT_ ?_
            refine puY (i := 2) 108 (bq 3 25) HT_ ?_
            refine puY (i := 4) 110 #[true, true, true, false, true, false, false, false, false, false, false, false, false, false, false, false, false, false, false, false, false, false, false, false, false] HT_ ?_
            refine onY (i := 3) 109 (bq 5 25) HT_ (fun K hK => ?_)
            refine goes_ Try.func57 (by kernel_rfl) rfl #[.slice Ao20 t585.length co20, .slice Ao35 t596.length co35] (by rfl) rfl rfl (by (try simp only [map_toArray, map_cons, map_nil]); rfl) ?_
            with_reducible refine (impl_DoneBy.calls kj29 _ _ t585 _ _ t596 t627 _ ?side1 ?side2 ?side3 ?side4 A66.out).mono ?_
            (case side1 => repeat (exact (R_reads' HO_3.out).2.2))
            (case side2 => exact (R_reads' HO_3.out).2.1)
            (case side3 => repeat (exact (R_reads' HO_6.out).2.2))
            (case side4 => exact (R_reads' HO_6.out).2.1)
            rintro e w87 ⟨v628, rfl, ho0, hb⟩
            refine ⟨_, rfl, ?_⟩
            have n0_ := Aside0.mk (R_below (by (with_reducible repeat (fail)); exact HO_3.out) hb)
            have n1_ := Aside0.mk (R_below (by (with_reducible repeat (fail)); exact HO_4.out) hb)
            have n2_ := Aside0.mk (R_below (by (with_reducible repeat (fail)); exact HO_6.out) hb)
            have n3_ := Aside0.mk (Kd.R_lower ho0 (below_size (by repeat ((with_reducible exact HB.out)))))
            have n4_ := Aside0.mk (blk_below (g := gb595) (o := .cells #[.int .i64 t591, .int .i64 t592, .int .i64 t593, .int .i64 t594] 58 (0, 0)) (by (with_reducible repeat (fail)); exact BK595.out) hb)
            have n5_ := Aside0.mk (blk_below (g := gb616) (o := .cells #[.int .i64 t611, .int .i64 t612, .int .i64 t613, .int .i64 t614] 58 (0, 0)) (by (with_reducible repeat (fail)); exact BK616.out) hb)
            have n6_ := Aside0.mk (blk_below (g := gb622) (o := .cells #[.int .i64 t617, .int .i64 t618, .int .i64 t619, .int .i64 t620] 58 (0, 0)) (by (with_reducible repeat (fail)); exact BK622.out) hb)
            have n7_ := Aside0.mk (below_step (by repeat ((with_reducible exact HB.out))) hb)
            clear HO_3
            clear HO_4
            clear HO_6
            clear BK595
            clear BK616
            clear BK622
            clear HB
            have HO_3 := n0_
            have HO_4 := n1_
            have HO_6 := n2_
            have HO629 := n3_
            have BK595 := n4_
            have BK616 := n5_
            have BK622 := n6_
            have HB := n7_
            clear n0_ n1_ n2_ n3_ n4_ n5_ n6_ n7_
            (try clear hb)
            (try clear ho0)
            obtain ⟨Ao88, co88, eo88⟩ := Kd.R_slice HO629.out
            (subst eo88)
            refine hK.out _ _ ⟨(blk_cell BK622.out 0).trans rfl, (blk_cell BK622.out 1).trans rfl, (blk_cell BK622.out 2).trans rfl, (blk_cell BK622.out 3).trans rfl⟩ (fun hHeld => ?_)
            clear hK K
            refine norm_ (a' := ?_) ?_ ?_
            rotate_left
            ·show Act.put _ (some 109) _ = _
             simp only [Act.put, stA, stZ, stS, i64_w, i32_w]
             rfl
            refine onY (i := 5) 111 (bq 6 25) HT_ (fun K hK => ?_)
            refine goes_ Try.func38 (by kernel_rfl) rfl #[.slice Ao88 t627.length co88, .int .i64 x10_1] (by rfl) rfl rfl (by (try simp only [map_toArray, map_cons, map_nil]); rfl) ?_
            with_reducible refine (laws_has.calls kj29 _ _ t627 x10_1 t630 _ ?side1 ?side2 A67.out).mono ?_
            (case side1 => repeat (exact (R_reads' HO629.out).2.2))
            (case side2 => exact (R_reads' HO629.out).2.1)
            rintro e w' ⟨rfl, ⟨nd, rfl⟩⟩
            refine ⟨_, rfl, ?_⟩
            refine hK.out _ _ ⟨(blk_cell BK622.out 0).trans rfl, (blk_cell BK622.out 1).trans rfl, (blk_cell BK622.out 2).trans rfl, (blk_cell BK622.out 3).trans rfl⟩ (fun hHeld => ?_)
            clear hK K
            refine norm_ (a' := ?_) ?_ ?_
            rotate_left
            ·show Act.put _ (some 111) _ = _
             simp only [Act.put, stA, stZ, stS, i64_w, i32_w]
             rfl
            refine puY (i := 6) 112 (bq 7 25) HT_ ?_
            refine puY (i := 7) 113 (bq 8 25) HT_ ?_
            refine puY (i := 8) 114 (bq 9 25) HT_ ?_
            refine puY (i := 9) 115 (bq 10 25) HT_ ?_
            refine puY (i := 10) 116 (bq 11 25) HT_ ?_
            refine puY (i := 12) 118 #[true, true, true, true, true, true, true, true, true, true, true, false, true, false, false, false, false, false, false, false, false, false, false, false, false] HT_ ?_
            refine take_ (i := 13) (N := some 119) (v := ?_) (a' := ?_) #[true, true, true, true, true, true, true, true, true, true, true, false, true, true, false, false, false, false, false, false, false, false, false, false, false] rfl rfl (take_ofW HT_.out HW_.out (by kernel_rfl)) (fun _ _ _ h => h) (Or.inl ⟨by rfl, ?_⟩) hHeld ?_ ?_
            rotate_left
            ·rintro w' ⟨s0, s1, s2, s3⟩
             go_simp
             with_reducible rfl
            rotate_left
            ·simp only [Act.put, stA, stZ, stS, i64_w, i32_w]
             rfl
            refine onY (i := 11) 117 (bq 14 25) HT_ (fun K hK => ?_)
            refine goes_ Try.func50 (by kernel_rfl) rfl #[.slice Ao20 t585.length co20, .slice Ao35 t596.length co35, .int .i64 x10_1] (by rfl) rfl rfl (by (try simp only [map_toArray, map_cons, map_nil]); rfl) ?_
            with_reducible refine (impl_ErrOf.calls kj29 _ _ t585 _ _ t596 x10_1 t631 _ ?side1 ?side2 ?side3 ?side4 A72.out).mono ?_
            (case side1 => repeat (exact (R_reads' HO_3.out).2.2))
            (case side2 => exact (R_reads' HO_3.out).2.1)
            (case side3 => repeat (exact (R_reads' HO_6.out).2.2))
            (case side4 => exact (R_reads' HO_6.out).2.1)
            rintro e w89 ⟨rfl, hb⟩
            refine ⟨_, rfl, ?_⟩
            have n0_ := Aside0.mk (R_below (by (with_reducible repeat (apply R_drewN)); exact HO_3.out) hb)
            have n1_ := Aside0.mk (R_below (by (with_reducible repeat (apply R_drewN)); exact HO_4.out) hb)
            have n2_ := Aside0.mk (R_below (by (with_reducible repeat (apply R_drewN)); exact HO_6.out) hb)
            have n3_ := Aside0.mk (R_below (by (with_reducible repeat (apply R_drewN)); exact HO629.out) hb)
            have n4_ := Aside0.mk (blk_below (g := gb595) (o := .cells #[.int .i64 t591, .int .i64 t592, .int .i64 t593, .int .i64 t594] 58 (0, 0)) (by (with_reducible repeat (refine blk_drewN ?_ _)); exact BK595.out) hb)
            have n5_ := Aside0.mk (blk_below (g := gb616) (o := .cells #[.int .i64 t611, .int .i64 t612, .int .i64 t613, .int .i64 t614] 58 (0, 0)) (by (with_reducible repeat (refine blk_drewN ?_ _)); exact BK616.out) hb)
            have n6_ := Aside0.mk (blk_below (g := gb622) (o := .cells #[.int .i64 t617, .int .i64 t618, .int .i64 t619, .int .i64 t620] 58 (0, 0)) (by (with_reducible repeat (refine blk_drewN ?_ _)); exact BK622.out) hb)
            have n7_ := Aside0.mk (below_step (by repeat ((with_reducible first | exact HB.out | apply bwN))) hb)
            clear HO_3
            clear HO_4
            clear HO_6
            clear HO629
            clear BK595
            clear BK616
            clear BK622
            clear HB
            have HO_3 := n0_
            have HO_4 := n1_
            have HO_6 := n2_
            have HO629 := n3_
            have BK595 := n4_
            have BK616 := n5_
            have BK622 := n6_
            have HB := n7_
            clear n0_ n1_ n2_ n3_ n4_ n5_ n6_ n7_
            (try clear hb)
            refine hK.out _ _ ⟨(blk_cell BK622.out 0).trans rfl, (blk_cell BK622.out 1).trans rfl, (blk_cell BK622.out 2).trans rfl, (blk_cell BK622.out 3).trans rfl⟩ (fun hHeld => ?_)
            clear hK K
            refine norm_ (a' := ?_) ?_ ?_
            rotate_left
            ·show Act.put _ (some 117) _ = _
             simp only [Act.put, stA, stZ, stS, i64_w, i32_w]
             rfl
            refine puY (i := 14) 120 (bq 15 25) HT_ ?_
            refine puY (i := 15) 121 (bq 16 25) HT_ ?_
            refine puY (i := 16) 122 (bq 17 25) HT_ ?_
            refine puN (i := 17) 123 (bq 18 25) HT_ ?_
            refine puN (i := 18) 124 (bq 19 25) HT_ ?_
            refine puN (i := 19) 125 (bq 20 25) HT_ ?_
            refine puN (i := 20) 126 (bq 21 25) HT_ ?_
            refine puN (i := 21) 127 (bq 22 25) HT_ ?_
            refine puN (i := 22) 128 (bq 23 25) HT_ ?_
            refine puN (i := 23) 129 (bq 24 25) HT_ ?_
            refine puY (i := 24) 130 (bq 25 25) HT_ ?_
            refine done_ (done_of HT_.out (by kernel_rfl)) ?_
            try go_wp2
            go_ret
            exact ⟨by rfl, by repeat ((with_reducible exact HB.out))⟩
      ·rw [if_neg c25] at H
       have c25b0 : decide (x10_1 < (t585.length : Int)) = false := decide_eq_false c25
       clear c25
       replace H := bind_eq_some_iff.mp H
       obtain ⟨⟨t606, t609⟩, A900, H⟩ := H
       replace H : ((impl_EventsOk.f k1 t585 t596).bind fun t610 => (if t610 = true then (some (!t609)) else (some false))) = some r := H
       have A90 := Aside0.mk A900
       clear A900
       replace H := bind_eq_some_iff.mp H
       obtain ⟨t610, A910, H⟩ := H
       replace H : (if t610 = true then (some (!t609)) else (some false)) = some r := H
       have A91 := Aside0.mk A910
       clear A910
       by_cases c92 : t610 = true
       ·subst c92
        have H1 : (some (!t609)) = some r := by rw [if_pos rfl] at H; exact H
        clear H
        have H := H1
        clear H1
        obtain rfl := Option.some.inj H
        have hcz93_0 : wr.cell? ⟨gb595, 0, none⟩ = some (.int .i64 t591) := (blk_cell BK595.out 0).trans rfl
        have hcz93_1 : wr.cell? ⟨gb595, 1, none⟩ = some (.int .i64 t592) := (blk_cell BK595.out 1).trans rfl
        have hcz93_2 : wr.cell? ⟨gb595, 2, none⟩ = some (.int .i64 t593) := (blk_cell BK595.out 2).trans rfl
        have hcz93_3 : wr.cell? ⟨gb595, 3, none⟩ = some (.int .i64 t594) := (blk_cell BK595.out 3).trans rfl
        have hfz93_0 := blk_frozen BK595.out 0
        have hfz93_1 := blk_frozen BK595.out 1
        have hfz93_2 := blk_frozen BK595.out 2
        have hfz93_3 := blk_frozen BK595.out 3
        obtain ⟨Ao94, co94, eo94⟩ := Kd.R_slice HO_6.out
        subst eo94
        go_wp2_with (first | ((with_reducible refine gate_callee (f := 53) rfl ?_); refine goesL_ (some 135) rfl rfl Try.func53 (by kernel_rfl) rfl #[.slice Ao20 t585.length co20, .slice Ao94 t596.length co94, .agg #[.int .i64 t591, .int .i64 t592, .int .i64 t593, .int .i64 t594]] rfl (by (try simp only [map_toArray, map_cons, map_nil]); rfl) ?_; (with_reducible refine (impl_LetGo.calls k1 _ _ t585 _ _ t596 t591 t592 t593 t594 t606 t609 _ ?side1 ?side2 ?side3 ?side4 A90.out).mono ?_); (case side1 => repeat (exact (R_reads' HO_3.out).2.2)); (case side2 => exact (R_reads' HO_3.out).2.1); (case side3 => repeat (exact (R_reads' HO_6.out).2.2)); (case side4 => exact (R_reads' HO_6.out).2.1); rintro e w95 ⟨v607, rfl, ho0, hb⟩; refine ⟨_, rfl, ?_⟩; have n0_ := Aside0.mk (R_below (by (with_reducible repeat (fail)); exact HO_3.out) hb); have n1_ := Aside0.mk (Kd.R_elder' (by (with_reducible repeat (fail)); exact HO_4.out) (Kd.R_base ho0) hb); have n2_ := Aside0.mk (Kd.R_elder' (by (with_reducible repeat (fail)); exact HO_6.out) (Kd.R_base ho0) hb); have n3_ := Aside0.mk (Kd.R_lower (Kd.R_newB (Kd.R_new' (Kd.R_new' ho0 (Kd.R_lt (by (with_reducible repeat (fail)); exact HO_4.out))) (Kd.R_lt (by (with_reducible repeat (fail)); exact HO_6.out))) (g := gb595) (o := .cells #[.int .i64 t591, .int .i64 t592, .int .i64 t593, .int .i64 t594] 58 (0, 0)) (by (with_reducible repeat (fail)); exact BK595.out)) (below_size (by repeat ((with_reducible exact HB.out))))); have n4_ := Aside0.mk (blk_below (g := gb595) (o := .cells #[.int .i64 t591, .int .i64 t592, .int .i64 t593, .int .i64 t594] 58 (0, 0)) (by (with_reducible repeat (fail)); exact BK595.out) hb); have n5_ := Aside0.mk (below_step (by repeat ((with_reducible exact HB.out))) hb); clear HO_3; clear HO_4; clear HO_6; clear BK595; clear HB; have HO_3 := n0_; have HO_4 := n1_; have HO_6 := n2_; have HO608 := n3_; have BK595 := n4_; have HB := n5_; clear n0_ n1_ n2_ n3_ n4_ n5_; (try clear hb); skip; (try clear ho0)) | ((with_reducible refine gate_callee (f := 42) rfl ?_); refine goesL_ (some 140) rfl rfl Try.func42 (by kernel_rfl) rfl #[.slice Ao20 t585.length co20, .slice Ao94 t596.length co94] rfl (by (try simp only [map_toArray, map_cons, map_nil]); rfl) ?_; (with_reducible refine (impl_EventsOk.calls k1 _ _ t585 _ _ t596 true _ ?side1 ?side2 ?side3 ?side4 A91.out).mono ?_); (case side1 => repeat (exact (R_reads' HO_3.out).2.2)); (case side2 => exact (R_reads' HO_3.out).2.1); (case side3 => repeat (exact (R_reads' HO_6.out).2.2)); (case side4 => exact (R_reads' HO_6.out).2.1); rintro e w96 ⟨rfl, hb⟩; refine ⟨_, rfl, ?_⟩; have n0_ := Aside0.mk (R_below (by (with_reducible repeat (fail)); exact HO_3.out) hb); have n1_ := Aside0.mk (R_below (by (with_reducible repeat (fail)); exact HO_4.out) hb); have n2_ := Aside0.mk (R_below (by (with_reducible repeat (fail)); exact HO_6.out) hb); have n3_ := Aside0.mk (R_below (by (with_reducible repeat (fail)); exact HO608.out) hb); have n4_ := Aside0.mk (blk_below (g := gb595) (o := .cells #[.int .i64 t591, .int .i64 t592, .int .i64 t593, .int .i64 t594] 58 (0, 0)) (by (with_reducible repeat (fail)); exact BK595.out) hb); have n5_ := Aside0.mk (below_step (by repeat ((with_reducible exact HB.out))) hb); clear HO_3; clear HO_4; clear HO_6; clear HO608; clear BK595; clear HB; have HO_3 := n0_; have HO_4 := n1_; have HO_6 := n2_; have HO608 := n3_; have BK595 := n4_; have HB := n5_; clear n0_ n1_ n2_ n3_ n4_ n5_; (try clear hb); skip))
        go_ret
        exact ⟨by rfl, by repeat ((with_reducible exact HB.out))⟩
       ·replace c92 := Bool.eq_false_iff.mpr c92
        subst c92
        have H1 : (some false) = some r := by rw [if_neg (show ¬ (false = true) by decide)] at H; exact H
        clear H
        have H := H1
        clear H1
        obtain rfl := Option.some.inj H
        have hcz97_0 : wr.cell? ⟨gb595, 0, none⟩ = some (.int .i64 t591) := (blk_cell BK595.out 0).trans rfl
        have hcz97_1 : wr.cell? ⟨gb595, 1, none⟩ = some (.int .i64 t592) := (blk_cell BK595.out 1).trans rfl
        have hcz97_2 : wr.cell? ⟨gb595, 2, none⟩ = some (.int .i64 t593) := (blk_cell BK595.out 2).trans rfl
        have hcz97_3 : wr.cell? ⟨gb595, 3, none⟩ = some (.int .i64 t594) := (blk_cell BK595.out 3).trans rfl
        have hfz97_0 := blk_frozen BK595.out 0
        have hfz97_1 := blk_frozen BK595.out 1
        have hfz97_2 := blk_frozen BK595.out 2
        have hfz97_3 := blk_frozen BK595.out 3
        obtain ⟨Ao98, co98, eo98⟩ := Kd.R_slice HO_6.out
        subst eo98
        go_wp2_with (first | ((with_reducible refine gate_callee (f := 53) rfl ?_); refine goesL_ (some 135) rfl rfl Try.func53 (by kernel_rfl) rfl #[.slice Ao20 t585.length co20, .slice Ao98 t596.length co98, .agg #[.int .i64 t591, .int .i64 t592, .int .i64 t593, .int .i64 t594]] rfl (by (try simp only [map_toArray, map_cons, map_nil]); rfl) ?_; (with_reducible refine (impl_LetGo.calls k1 _ _ t585 _ _ t596 t591 t592 t593 t594 t606 t609 _ ?side1 ?side2 ?side3 ?side4 A90.out).mono ?_); (case side1 => repeat (exact (R_reads' HO_3.out).2.2)); (case side2 => exact (R_reads' HO_3.out).2.1); (case side3 => repeat (exact (R_reads' HO_6.out).2.2)); (case side4 => exact (R_reads' HO_6.out).2.1); rintro e w99 ⟨v607, rfl, ho0, hb⟩; refine ⟨_, rfl, ?_⟩; have n0_ := Aside0.mk (R_below (by (with_reducible repeat (fail)); exact HO_3.out) hb); have n1_ := Aside0.mk (Kd.R_elder' (by (with_reducible repeat (fail)); exact HO_4.out) (Kd.R_base ho0) hb); have n2_ := Aside0.mk (Kd.R_elder' (by (with_reducible repeat (fail)); exact HO_6.out) (Kd.R_base ho0) hb); have n3_ := Aside0.mk (Kd.R_lower (Kd.R_newB (Kd.R_new' (Kd.R_new' ho0 (Kd.R_lt (by (with_reducible repeat (fail)); exact HO_4.out))) (Kd.R_lt (by (with_reducible repeat (fail)); exact HO_6.out))) (g := gb595) (o := .cells #[.int .i64 t591, .int .i64 t592, .int .i64 t593, .int .i64 t594] 58 (0, 0)) (by (with_reducible repeat (fail)); exact BK595.out)) (below_size (by repeat ((with_reducible exact HB.out))))); have n4_ := Aside0.mk (blk_below (g := gb595) (o := .cells #[.int .i64 t591, .int .i64 t592, .int .i64 t593, .int .i64 t594] 58 (0, 0)) (by (with_reducible repeat (fail)); exact BK595.out) hb); have n5_ := Aside0.mk (below_step (by repeat ((with_reducible exact HB.out))) hb); clear HO_3; clear HO_4; clear HO_6; clear BK595; clear HB; have HO_3 := n0_; have HO_4 := n1_; have HO_6 := n2_; have HO608 := n3_; have BK595 := n4_; have HB := n5_; clear n0_ n1_ n2_ n3_ n4_ n5_; (try clear hb); skip; (try clear ho0)) | ((with_reducible refine gate_callee (f := 42) rfl ?_); refine goesL_ (some 140) rfl rfl Try.func42 (by kernel_rfl) rfl #[.slice Ao20 t585.length co20, .slice Ao98 t596.length co98] rfl (by (try simp only [map_toArray, map_cons, map_nil]); rfl) ?_; (with_reducible refine (impl_EventsOk.calls k1 _ _ t585 _ _ t596 false _ ?side1 ?side2 ?side3 ?side4 A91.out).mono ?_); (case side1 => repeat (exact (R_reads' HO_3.out).2.2)); (case side2 => exact (R_reads' HO_3.out).2.1); (case side3 => repeat (exact (R_reads' HO_6.out).2.2)); (case side4 => exact (R_reads' HO_6.out).2.1); rintro e w100 ⟨rfl, hb⟩; refine ⟨_, rfl, ?_⟩; have n0_ := Aside0.mk (R_below (by (with_reducible repeat (fail)); exact HO_3.out) hb); have n1_ := Aside0.mk (R_below (by (with_reducible repeat (fail)); exact HO_4.out) hb); have n2_ := Aside0.mk (R_below (by (with_reducible repeat (fail)); exact HO_6.out) hb); have n3_ := Aside0.mk (R_below (by (with_reducible repeat (fail)); exact HO608.out) hb); have n4_ := Aside0.mk (blk_below (g := gb595) (o := .cells #[.int .i64 t591, .int .i64 t592, .int .i64 t593, .int .i64 t594] 58 (0, 0)) (by (with_reducible repeat (fail)); exact BK595.out) hb); have n5_ := Aside0.mk (below_step (by repeat ((with_reducible exact HB.out))) hb); clear HO_3; clear HO_4; clear HO_6; clear HO608; clear BK595; clear HB; have HO_3 := n0_; have HO_4 := n1_; have HO_6 := n2_; have HO608 := n3_; have BK595 := n4_; have HB := n5_; clear n0_ n1_ n2_ n3_ n4_ n5_; (try clear hb); skip))
        go_ret
        exact ⟨by rfl, by repeat ((with_reducible exact HB.out))⟩
   ·replace c16 := Bool.eq_false_iff.mpr c16
    subst c16
    have H1 : ((spec_EventsOk.f k t585 t588).bind fun t604 => (if t604 = true then ((laws_likeEvents.f k t596 t588).bind fun t605 => (some t605)) else (some true))) = some r := by rw [if_neg (show ¬ (false = true) by decide)] at H; exact H
    clear H
    have H := H1
    clear H1
    replace H := bind_eq_some_iff.mp H
    obtain ⟨t604, A1010, H⟩ := H
    replace H : (if t604 = true then ((laws_likeEvents.f k t596 t588).bind fun t605 => (some t605)) else (some true)) = some r := H
    have A101 := Aside0.mk A1010
    clear A1010
    by_cases c102 : t604 = true
    ·subst c102
     have H1 : ((laws_likeEvents.f k t596 t588).bind fun t605 => (some t605)) = some r := by rw [if_pos rfl] at H; exact H
     clear H
     have H := H1
     clear H1
     replace H := bind_eq_some_iff.mp H
     obtain ⟨t605, A1030, H⟩ := H
     replace H : (some t605) = some r := H
     have A103 := Aside0.mk A1030
     clear A1030
     obtain rfl := Option.some.inj H
     go_enter Try.func14, Try.ntmps14
     go_wp2_with (first | ((with_reducible refine gate_callee (f := 30) rfl ?_); refine goesL_ (some 19) rfl rfl Try.func30 (by kernel_rfl) rfl #[.slice A0 l0.length c0] rfl (by (try simp only [map_toArray, map_cons, map_nil]); rfl) ?_; (with_reducible refine (laws_big.calls _ _ l0 false _ ?side1 ?side2 A2.out).mono ?_); (case side1 => repeat (exact HR0.out)); (case side2 => exact HC0.out); rintro e w' ⟨rfl, ⟨nd, rfl⟩⟩; refine ⟨_, rfl, ?_⟩) | ((with_reducible refine gate_callee (f := 58) rfl ?_); refine goesL_ (some 22) rfl rfl Try.func58 (by kernel_rfl) rfl #[.slice A0 l0.length c0] rfl (by (try simp only [map_toArray, map_cons, map_nil]); rfl) ?_; (with_reducible refine (spec_DrawLetGo.calls k _ _ l0 t585 t588 t591 t592 t593 t594 _ ?side1 ?side2 A4.out).mono ?_); (case side1 => repeat (exact HR0.out)); (case side2 => exact HC0.out); rintro e w104 ⟨v586, v589, rfl, ho0, ho1, hb⟩; refine ⟨_, rfl, ?_⟩; have n0_ := Aside0.mk (Kd.R_lower ho0 (below_size (by repeat ((with_reducible first | exact HB.out | apply bwN))))); have n1_ := Aside0.mk (Kd.R_lower ho1 (below_size (by repeat ((with_reducible first | exact HB.out | apply bwN))))); have n2_ := Aside0.mk (below_step (by repeat ((with_reducible first | exact HB.out | apply bwN))) hb); clear HB; have HO587 := n0_; have HO590 := n1_; have HB := n2_; clear n0_ n1_ n2_; (try clear hb); skip; (try clear ho0); (try clear ho1)) | ((with_reducible refine gate_dst (N := 5) rfl ?_); refine box_event ?hg (N := 5) ?hd (cs := #[.int .i64 0, .int .i64 0, .int .i64 0, .int .i64 0]) (t := 58) ?hr ?_; (case hd => rfl); (case hg => rfl); (case hr => (go_simp; done)); intro gb595 hg w105 hbox hb; have n0_ := Aside0.mk (R_below (by (with_reducible repeat (fail)); exact HO587.out) hb); have n1_ := Aside0.mk (R_below (Kd.R_elderB (by (with_reducible repeat (fail)); exact HO590.out) gb595 (Nat.le_of_eq hg.symm)) hb); have n2_ := Aside0.mk (below_step (by repeat ((with_reducible exact HB.out))) hb); have n3_ := Aside0.mk (hbox); have n4_ := Aside0.mk ((by rw [hg]; exact (below_size (by repeat ((with_reducible exact HB.out)))) : w.heap.size ≤ gb595)); have n5_ := Aside0.mk ((by rw [hg]; exact (below_size (by repeat ((with_reducible exact HB.out)))) : w.heap.size ≤ gb595)); clear HO587; clear HO590; clear HB; have HO587 := n0_; have HO590 := n1_; have HB := n2_; have BK595 := n3_; have GW595 := n4_; have GE595 := n5_; clear n0_ n1_ n2_ n3_ n4_ n5_; clear hb hbox hg; have hcz106_0 : w105.cell? ⟨gb595, 0, none⟩ = some (.int .i64 0) := (blk_cell BK595.out 0).trans rfl; have hcz106_1 : w105.cell? ⟨gb595, 1, none⟩ = some (.int .i64 0) := (blk_cell BK595.out 1).trans rfl; have hcz106_2 : w105.cell? ⟨gb595, 2, none⟩ = some (.int .i64 0) := (blk_cell BK595.out 2).trans rfl; have hcz106_3 : w105.cell? ⟨gb595, 3, none⟩ = some (.int .i64 0) := (blk_cell BK595.out 3).trans rfl; have hfz106_0 := blk_frozen BK595.out 0; have hfz106_1 := blk_frozen BK595.out 1; have hfz106_2 := blk_frozen BK595.out 2; have hfz106_3 := blk_frozen BK595.out 3; obtain ⟨Ao107, co107, eo107⟩ := Kd.R_slice HO587.out; subst eo107; obtain ⟨Ao108, co108, eo108⟩ := Kd.R_slice HO590.out; subst eo108) | ((with_reducible refine gate_callee (f := 53) rfl ?_); refine goesL_ (some 30) rfl rfl Try.func53 (by kernel_rfl) rfl #[.slice Ao107 t585.length co107, .slice Ao108 t588.length co108, .agg #[.int .i64 t591, .int .i64 t592, .int .i64 t593, .int .i64 t594]] rfl (by (try simp only [map_toArray, map_cons, map_nil]); rfl) ?_; (with_reducible refine (impl_LetGo.calls k _ _ t585 _ _ t588 t591 t592 t593 t594 t596 false _ ?side1 ?side2 ?side3 ?side4 A5.out).mono ?_); (case side1 => refine (R_reads' (e := 30) (base := w.heap.size) (ok := fun k_ => True) (n := t585.length) (c := co107) ?_).2.2; exact (by (with_reducible repeat (fail)); exact (Kd.R_mono (Kd.R_far (p := ⟨gb595, 3, none⟩) (Kd.R_far (p := ⟨gb595, 2, none⟩) (Kd.R_far (p := ⟨gb595, 1, none⟩) (Kd.R_far (p := ⟨gb595, 0, none⟩) (Kd.R_types HO587.out BK595.out (by decide)) (fun _ hk => hk.2) (.int .i64 t591)) (fun _ hk => hk.2) (.int .i64 t592)) (fun _ hk => hk.2) (.int .i64 t593)) (fun _ hk => hk.2) (.int .i64 t594)) (fun _ h_ => h_.1)))); (case side2 => exact (R_reads' HO587.out).2.1); (case side3 => refine (R_reads' (e := 58) (base := w.heap.size) (ok := fun k_ => (True ∧ k_ ≠ gb595)) (n := t588.length) (c := co108) ?_).2.2; exact (by (with_reducible repeat (fail)); exact (Kd.R_mono (Kd.R_far (p := ⟨gb595, 3, none⟩) (Kd.R_far (p := ⟨gb595, 2, none⟩) (Kd.R_far (p := ⟨gb595, 1, none⟩) (Kd.R_far (p := ⟨gb595, 0, none⟩) (Kd.R_mono HO590.out (fun k_ hk => (⟨hk, hk.2⟩ : _ ∧ k_ ≠ gb595))) (fun _ hk => hk.2) (.int .i64 t591)) (fun _ hk => hk.2) (.int .i64 t592)) (fun _ hk => hk.2) (.int .i64 t593)) (fun _ hk => hk.2) (.int .i64 t594)) (fun _ h_ => h_.1)))); (case side4 => exact (R_reads' HO590.out).2.1); rintro e w109 ⟨v597, rfl, ho0, hb⟩; refine ⟨_, rfl, ?_⟩; have n0_ := Aside0.mk (R_below (by (with_reducible repeat (fail)); exact (Kd.R_mono (Kd.R_far (p := ⟨gb595, 3, none⟩) (Kd.R_far (p := ⟨gb595, 2, none⟩) (Kd.R_far (p := ⟨gb595, 1, none⟩) (Kd.R_far (p := ⟨gb595, 0, none⟩) (Kd.R_types HO587.out BK595.out (by decide)) (fun _ hk => hk.2) (.int .i64 t591)) (fun _ hk => hk.2) (.int .i64 t592)) (fun _ hk => hk.2) (.int .i64 t593)) (fun _ hk => hk.2) (.int .i64 t594)) (fun _ h_ => h_.1))) hb); have n1_ := Aside0.mk (Kd.R_elder' (by (with_reducible repeat (fail)); exact (Kd.R_mono (Kd.R_far (p := ⟨gb595, 3, none⟩) (Kd.R_far (p := ⟨gb595, 2, none⟩) (Kd.R_far (p := ⟨gb595, 1, none⟩) (Kd.R_far (p := ⟨gb595, 0, none⟩) (Kd.R_mono HO590.out (fun k_ hk => (⟨hk, hk.2⟩ : _ ∧ k_ ≠ gb595))) (fun _ hk => hk.2) (.int .i64 t591)) (fun _ hk => hk.2) (.int .i64 t592)) (fun _ hk => hk.2) (.int .i64 t593)) (fun _ hk => hk.2) (.int .i64 t594)) (fun _ h_ => h_.1))) (Kd.R_base ho0) hb); have n2_ := Aside0.mk (Kd.R_lower (Kd.R_newB (Kd.R_new' ho0 (Kd.R_lt (by (with_reducible repeat (fail)); exact (Kd.R_mono (Kd.R_far (p := ⟨gb595, 3, none⟩) (Kd.R_far (p := ⟨gb595, 2, none⟩) (Kd.R_far (p := ⟨gb595, 1, none⟩) (Kd.R_far (p := ⟨gb595, 0, none⟩) (Kd.R_mono HO590.out (fun k_ hk => (⟨hk, hk.2⟩ : _ ∧ k_ ≠ gb595))) (fun _ hk => hk.2) (.int .i64 t591)) (fun _ hk => hk.2) (.int .i64 t592)) (fun _ hk => hk.2) (.int .i64 t593)) (fun _ hk => hk.2) (.int .i64 t594)) (fun _ h_ => h_.1))))) (g := gb595) (o := .cells #[.int .i64 t591, .int .i64 t592, .int .i64 t593, .int .i64 t594] 58 (0, 0)) (by (with_reducible repeat (fail)); refine blk_put (cs := #[.int .i64 t591, .int .i64 t592, .int .i64 t593, .int .i64 0]) ?_ 3 _ rfl; (with_reducible repeat (fail)); refine blk_put (cs := #[.int .i64 t591, .int .i64 t592, .int .i64 0, .int .i64 0]) ?_ 2 _ rfl; (with_reducible repeat (fail)); refine blk_put (cs := #[.int .i64 t591, .int .i64 0, .int .i64 0, .int .i64 0]) ?_ 1 _ rfl; (with_reducible repeat (fail)); refine blk_put (cs := #[.int .i64 0, .int .i64 0, .int .i64 0, .int .i64 0]) ?_ 0 _ rfl; (with_reducible repeat (fail)); exact BK595.out)) (below_size (by repeat ((with_reducible first | exact HB.out | refine below_set ?_ GE595.out))))); have n3_ := Aside0.mk (blk_below (g := gb595) (o := .cells #[.int .i64 t591, .int .i64 t592, .int .i64 t593, .int .i64 t594] 58 (0, 0)) (by (with_reducible repeat (fail)); refine blk_put (cs := #[.int .i64 t591, .int .i64 t592, .int .i64 t593, .int .i64 0]) ?_ 3 _ rfl; (with_reducible repeat (fail)); refine blk_put (cs := #[.int .i64 t591, .int .i64 t592, .int .i64 0, .int .i64 0]) ?_ 2 _ rfl; (with_reducible repeat (fail)); refine blk_put (cs := #[.int .i64 t591, .int .i64 0, .int .i64 0, .int .i64 0]) ?_ 1 _ rfl; (with_reducible repeat (fail)); refine blk_put (cs := #[.int .i64 0, .int .i64 0, .int .i64 0, .int .i64 0]) ?_ 0 _ rfl; (with_reducible repeat (fail)); exact BK595.out) hb); have n4_ := Aside0.mk (below_step (by repeat ((with_reducible first | exact HB.out | refine below_set ?_ GE595.out))) hb); clear HO587; clear HO590; clear BK595; clear HB; have HO587 := n0_; have HO590 := n1_; have HO598 := n2_; have BK595 := n3_; have HB := n4_; clear n0_ n1_ n2_ n3_ n4_; (try clear hb); skip; (try clear ho0); have hcz110_0 : w109.cell? ⟨gb595, 0, none⟩ = some (.int .i64 t591) := (blk_cell BK595.out 0).trans rfl; have hcz110_1 : w109.cell? ⟨gb595, 1, none⟩ = some (.int .i64 t592) := (blk_cell BK595.out 1).trans rfl; have hcz110_2 : w109.cell? ⟨gb595, 2, none⟩ = some (.int .i64 t593) := (blk_cell BK595.out 2).trans rfl; have hcz110_3 : w109.cell? ⟨gb595, 3, none⟩ = some (.int .i64 t594) := (blk_cell BK595.out 3).trans rfl; have hfz110_0 := blk_frozen BK595.out 0; have hfz110_1 := blk_frozen BK595.out 1; have hfz110_2 := blk_frozen BK595.out 2; have hfz110_3 := blk_frozen BK595.out 3) | ((with_reducible refine gate_callee (f := 51) rfl ?_); refine goesL_ (some 37) rfl rfl Try.func51 (by kernel_rfl) rfl #[.slice Ao107 t585.length co107, .slice Ao108 t588.length co108, .agg #[.int .i64 t591, .int .i64 t592, .int .i64 t593, .int .i64 t594]] rfl (by (try simp only [map_toArray, map_cons, map_nil]); rfl) ?_; (with_reducible refine (spec_LetGo.calls k _ _ t585 _ _ t588 t591 t592 t593 t594 t600 t603 _ ?side1 ?side2 ?side3 ?side4 A6.out).mono ?_); (case side1 => repeat (exact (R_reads' HO587.out).2.2)); (case side2 => exact (R_reads' HO587.out).2.1); (case side3 => repeat (exact (R_reads' HO590.out).2.2)); (case side4 => exact (R_reads' HO590.out).2.1); rintro e w111 ⟨v601, rfl, ho0, hb⟩; refine ⟨_, rfl, ?_⟩; have n0_ := Aside0.mk (R_below (by (with_reducible repeat (fail)); exact HO587.out) hb); have n1_ := Aside0.mk (Kd.R_elder' (by (with_reducible repeat (fail)); exact HO590.out) (Kd.R_base ho0) hb); have n2_ := Aside0.mk (Kd.R_elder' (by (with_reducible repeat (fail)); exact HO598.out) (Kd.R_base ho0) hb); have n3_ := Aside0.mk (Kd.R_lower (Kd.R_newB (Kd.R_new' (Kd.R_new' ho0 (Kd.R_lt (by (with_reducible repeat (fail)); exact HO590.out))) (Kd.R_lt (by (with_reducible repeat (fail)); exact HO598.out))) (g := gb595) (o := .cells #[.int .i64 t591, .int .i64 t592, .int .i64 t593, .int .i64 t594] 58 (0, 0)) (by (with_reducible repeat (fail)); exact BK595.out)) (below_size (by repeat ((with_reducible exact HB.out))))); have n4_ := Aside0.mk (blk_below (g := gb595) (o := .cells #[.int .i64 t591, .int .i64 t592, .int .i64 t593, .int .i64 t594] 58 (0, 0)) (by (with_reducible repeat (fail)); exact BK595.out) hb); have n5_ := Aside0.mk (below_step (by repeat ((with_reducible exact HB.out))) hb); clear HO587; clear HO590; clear HO598; clear BK595; clear HB; have HO587 := n0_; have HO590 := n1_; have HO598 := n2_; have HO602 := n3_; have BK595 := n4_; have HB := n5_; clear n0_ n1_ n2_ n3_ n4_ n5_; (try clear hb); skip; (try clear ho0)) | ((with_reducible refine gate_callee (f := 40) rfl ?_); refine goesL_ (some 47) rfl rfl Try.func40 (by kernel_rfl) rfl #[.slice Ao107 t585.length co107, .slice Ao108 t588.length co108] rfl (by (try simp only [map_toArray, map_cons, map_nil]); rfl) ?_; (with_reducible refine (spec_EventsOk.calls k _ _ t585 _ _ t588 true _ ?side1 ?side2 ?side3 ?side4 A101.out).mono ?_); (case side1 => repeat (exact (R_reads' HO587.out).2.2)); (case side2 => exact (R_reads' HO587.out).2.1); (case side3 => repeat (exact (R_reads' HO590.out).2.2)); (case side4 => exact (R_reads' HO590.out).2.1); rintro e w112 ⟨rfl, hb⟩; refine ⟨_, rfl, ?_⟩; have n0_ := Aside0.mk (R_below (by (with_reducible repeat (fail)); exact HO587.out) hb); have n1_ := Aside0.mk (R_below (by (with_reducible repeat (fail)); exact HO590.out) hb); have n2_ := Aside0.mk (R_below (by (with_reducible repeat (fail)); exact HO598.out) hb); have n3_ := Aside0.mk (R_below (by (with_reducible repeat (fail)); exact HO602.out) hb); have n4_ := Aside0.mk (blk_below (g := gb595) (o := .cells #[.int .i64 t591, .int .i64 t592, .int .i64 t593, .int .i64 t594] 58 (0, 0)) (by (with_reducible repeat (fail)); exact BK595.out) hb); have n5_ := Aside0.mk (below_step (by repeat ((with_reducible exact HB.out))) hb); clear HO587; clear HO590; clear HO598; clear HO602; clear BK595; clear HB; have HO587 := n0_; have HO590 := n1_; have HO598 := n2_; have HO602 := n3_; have BK595 := n4_; have HB := n5_; clear n0_ n1_ n2_ n3_ n4_ n5_; (try clear hb); skip; obtain ⟨Ao113, co113, eo113⟩ := Kd.R_slice HO598.out; subst eo113) | (go_at_call 59; (with_reducible refine (laws_likeEvents.calls k _ _ t596 _ _ t588 t605 _ ?side1 ?side2 ?side3 ?side4 A103.out).mono ?_); (case side1 => repeat (exact (R_reads' HO598.out).2.2)); (case side2 => exact (R_reads' HO598.out).2.1); (case side3 => repeat (exact (R_reads' HO590.out).2.2)); (case side4 => exact (R_reads' HO590.out).2.1); rintro e w' ⟨rfl, ⟨nd, rfl⟩⟩))
     go_ret
     exact ⟨by rfl, by repeat ((with_reducible first | exact HB.out | apply bwN))⟩
    ·replace c102 := Bool.eq_false_iff.mpr c102
     subst c102
     have H1 : (some true) = some r := by rw [if_neg (show ¬ (false = true) by decide)] at H; exact H
     clear H
     have H := H1
     clear H1
     obtain rfl := Option.some.inj H
     go_enter Try.func14, Try.ntmps14
     go_wp2_with (first | ((with_reducible refine gate_callee (f := 30) rfl ?_); refine goesL_ (some 19) rfl rfl Try.func30 (by kernel_rfl) rfl #[.slice A0 l0.length c0] rfl (by (try simp only [map_toArray, map_cons, map_nil]); rfl) ?_; (with_reducible refine (laws_big.calls _ _ l0 false _ ?side1 ?side2 A2.out).mono ?_); (case side1 => repeat (exact HR0.out)); (case side2 => exact HC0.out); rintro e w' ⟨rfl, ⟨nd, rfl⟩⟩; refine ⟨_, rfl, ?_⟩) | ((with_reducible refine gate_callee (f := 58) rfl ?_); refine goesL_ (some 22) rfl rfl Try.func58 (by kernel_rfl) rfl #[.slice A0 l0.length c0] rfl (by (try simp only [map_toArray, map_cons, map_nil]); rfl) ?_; (with_reducible refine (spec_DrawLetGo.calls k _ _ l0 t585 t588 t591 t592 t593 t594 _ ?side1 ?side2 A4.out).mono ?_); (case side1 => repeat (exact HR0.out)); (case side2 => exact HC0.out); rintro e w114 ⟨v586, v589, rfl, ho0, ho1, hb⟩; refine ⟨_, rfl, ?_⟩; have n0_ := Aside0.mk (Kd.R_lower ho0 (below_size (by repeat ((with_reducible first | exact HB.out | apply bwN))))); have n1_ := Aside0.mk (Kd.R_lower ho1 (below_size (by repeat ((with_reducible first | exact HB.out | apply bwN))))); have n2_ := Aside0.mk (below_step (by repeat ((with_reducible first | exact HB.out | apply bwN))) hb); clear HB; have HO587 := n0_; have HO590 := n1_; have HB := n2_; clear n0_ n1_ n2_; (try clear hb); skip; (try clear ho0); (try clear ho1)) | ((with_reducible refine gate_dst (N := 5) rfl ?_); refine box_event ?hg (N := 5) ?hd (cs := #[.int .i64 0, .int .i64 0, .int .i64 0, .int .i64 0]) (t := 58) ?hr ?_; (case hd => rfl); (case hg => rfl); (case hr => (go_simp; done)); intro gb595 hg w115 hbox hb; have n0_ := Aside0.mk (R_below (by (with_reducible repeat (fail)); exact HO587.out) hb); have n1_ := Aside0.mk (R_below (Kd.R_elderB (by (with_reducible repeat (fail)); exact HO590.out) gb595 (Nat.le_of_eq hg.symm)) hb); have n2_ := Aside0.mk (below_step (by repeat ((with_reducible exact HB.out))) hb); have n3_ := Aside0.mk (hbox); have n4_ := Aside0.mk ((by rw [hg]; exact (below_size (by repeat ((with_reducible exact HB.out)))) : w.heap.size ≤ gb595)); have n5_ := Aside0.mk ((by rw [hg]; exact (below_size (by repeat ((with_reducible exact HB.out)))) : w.heap.size ≤ gb595)); clear HO587; clear HO590; clear HB; have HO587 := n0_; have HO590 := n1_; have HB := n2_; have BK595 := n3_; have GW595 := n4_; have GE595 := n5_; clear n0_ n1_ n2_ n3_ n4_ n5_; clear hb hbox hg; have hcz116_0 : w115.cell? ⟨gb595, 0, none⟩ = some (.int .i64 0) := (blk_cell BK595.out 0).trans rfl; have hcz116_1 : w115.cell? ⟨gb595, 1, none⟩ = some (.int .i64 0) := (blk_cell BK595.out 1).trans rfl; have hcz116_2 : w115.cell? ⟨gb595, 2, none⟩ = some (.int .i64 0) := (blk_cell BK595.out 2).trans rfl; have hcz116_3 : w115.cell? ⟨gb595, 3, none⟩ = some (.int .i64 0) := (blk_cell BK595.out 3).trans rfl; have hfz116_0 := blk_frozen BK595.out 0; have hfz116_1 := blk_frozen BK595.out 1; have hfz116_2 := blk_frozen BK595.out 2; have hfz116_3 := blk_frozen BK595.out 3; obtain ⟨Ao117, co117, eo117⟩ := Kd.R_slice HO587.out; subst eo117; obtain ⟨Ao118, co118, eo118⟩ := Kd.R_slice HO590.out; subst eo118) | ((with_reducible refine gate_callee (f := 53) rfl ?_); refine goesL_ (some 30) rfl rfl Try.func53 (by kernel_rfl) rfl #[.slice Ao117 t585.length co117, .slice Ao118 t588.length co118, .agg #[.int .i64 t591, .int .i64 t592, .int .i64 t593, .int .i64 t594]] rfl (by (try simp only [map_toArray, map_cons, map_nil]); rfl) ?_; (with_reducible refine (impl_LetGo.calls k _ _ t585 _ _ t588 t591 t592 t593 t594 t596 false _ ?side1 ?side2 ?side3 ?side4 A5.out).mono ?_); (case side1 => refine (R_reads' (e := 30) (base := w.heap.size) (ok := fun k_ => True) (n := t585.length) (c := co117) ?_).2.2; exact (by (with_reducible repeat (fail)); exact (Kd.R_mono (Kd.R_far (p := ⟨gb595, 3, none⟩) (Kd.R_far (p := ⟨gb595, 2, none⟩) (Kd.R_far (p := ⟨gb595, 1, none⟩) (Kd.R_far (p := ⟨gb595, 0, none⟩) (Kd.R_types HO587.out BK595.out (by decide)) (fun _ hk => hk.2) (.int .i64 t591)) (fun _ hk => hk.2) (.int .i64 t592)) (fun _ hk => hk.2) (.int .i64 t593)) (fun _ hk => hk.2) (.int .i64 t594)) (fun _ h_ => h_.1)))); (case side2 => exact (R_reads' HO587.out).2.1); (case side3 => refine (R_reads' (e := 58) (base := w.heap.size) (ok := fun k_ => (True ∧ k_ ≠ gb595)) (n := t588.length) (c := co118) ?_).2.2; exact (by (with_reducible repeat (fail)); exact (Kd.R_mono (Kd.R_far (p := ⟨gb595, 3, none⟩) (Kd.R_far (p := ⟨gb595, 2, none⟩) (Kd.R_far (p := ⟨gb595, 1, none⟩) (Kd.R_far (p := ⟨gb595, 0, none⟩) (Kd.R_mono HO590.out (fun k_ hk => (⟨hk, hk.2⟩ : _ ∧ k_ ≠ gb595))) (fun _ hk => hk.2) (.int .i64 t591)) (fun _ hk => hk.2) (.int .i64 t592)) (fun _ hk => hk.2) (.int .i64 t593)) (fun _ hk => hk.2) (.int .i64 t594)) (fun _ h_ => h_.1)))); (case side4 => exact (R_reads' HO590.out).2.1); rintro e w119 ⟨v597, rfl, ho0, hb⟩; refine ⟨_, rfl, ?_⟩; have n0_ := Aside0.mk (R_below (by (with_reducible repeat (fail)); exact (Kd.R_mono (Kd.R_far (p := ⟨gb595, 3, none⟩) (Kd.R_far (p := ⟨gb595, 2, none⟩) (Kd.R_far (p := ⟨gb595, 1, none⟩) (Kd.R_far (p := ⟨gb595, 0, none⟩) (Kd.R_types HO587.out BK595.out (by decide)) (fun _ hk => hk.2) (.int .i64 t591)) (fun _ hk => hk.2) (.int .i64 t592)) (fun _ hk => hk.2) (.int .i64 t593)) (fun _ hk => hk.2) (.int .i64 t594)) (fun _ h_ => h_.1))) hb); have n1_ := Aside0.mk (Kd.R_elder' (by (with_reducible repeat (fail)); exact (Kd.R_mono (Kd.R_far (p := ⟨gb595, 3, none⟩) (Kd.R_far (p := ⟨gb595, 2, none⟩) (Kd.R_far (p := ⟨gb595, 1, none⟩) (Kd.R_far (p := ⟨gb595, 0, none⟩) (Kd.R_mono HO590.out (fun k_ hk => (⟨hk, hk.2⟩ : _ ∧ k_ ≠ gb595))) (fun _ hk => hk.2) (.int .i64 t591)) (fun _ hk => hk.2) (.int .i64 t592)) (fun _ hk => hk.2) (.int .i64 t593)) (fun _ hk => hk.2) (.int .i64 t594)) (fun _ h_ => h_.1))) (Kd.R_base ho0) hb); have n2_ := Aside0.mk (Kd.R_lower (Kd.R_newB (Kd.R_new' ho0 (Kd.R_lt (by (with_reducible repeat (fail)); exact (Kd.R_mono (Kd.R_far (p := ⟨gb595, 3, none⟩) (Kd.R_far (p := ⟨gb595, 2, none⟩) (Kd.R_far (p := ⟨gb595, 1, none⟩) (Kd.R_far (p := ⟨gb595, 0, none⟩) (Kd.R_mono HO590.out (fun k_ hk => (⟨hk, hk.2⟩ : _ ∧ k_ ≠ gb595))) (fun _ hk => hk.2) (.int .i64 t591)) (fun _ hk => hk.2) (.int .i64 t592)) (fun _ hk => hk.2) (.int .i64 t593)) (fun _ hk => hk.2) (.int .i64 t594)) (fun _ h_ => h_.1))))) (g := gb595) (o := .cells #[.int .i64 t591, .int .i64 t592, .int .i64 t593, .int .i64 t594] 58 (0, 0)) (by (with_reducible repeat (fail)); refine blk_put (cs := #[.int .i64 t591, .int .i64 t592, .int .i64 t593, .int .i64 0]) ?_ 3 _ rfl; (with_reducible repeat (fail)); refine blk_put (cs := #[.int .i64 t591, .int .i64 t592, .int .i64 0, .int .i64 0]) ?_ 2 _ rfl; (with_reducible repeat (fail)); refine blk_put (cs := #[.int .i64 t591, .int .i64 0, .int .i64 0, .int .i64 0]) ?_ 1 _ rfl; (with_reducible repeat (fail)); refine blk_put (cs := #[.int .i64 0, .int .i64 0, .int .i64 0, .int .i64 0]) ?_ 0 _ rfl; (with_reducible repeat (fail)); exact BK595.out)) (below_size (by repeat ((with_reducible first | exact HB.out | refine below_set ?_ GE595.out))))); have n3_ := Aside0.mk (blk_below (g := gb595) (o := .cells #[.int .i64 t591, .int .i64 t592, .int .i64 t593, .int .i64 t594] 58 (0, 0)) (by (with_reducible repeat (fail)); refine blk_put (cs := #[.int .i64 t591, .int .i64 t592, .int .i64 t593, .int .i64 0]) ?_ 3 _ rfl; (with_reducible repeat (fail)); refine blk_put (cs := #[.int .i64 t591, .int .i64 t592, .int .i64 0, .int .i64 0]) ?_ 2 _ rfl; (with_reducible repeat (fail)); refine blk_put (cs := #[.int .i64 t591, .int .i64 0, .int .i64 0, .int .i64 0]) ?_ 1 _ rfl; (with_reducible repeat (fail)); refine blk_put (cs := #[.int .i64 0, .int .i64 0, .int .i64 0, .int .i64 0]) ?_ 0 _ rfl; (with_reducible repeat (fail)); exact BK595.out) hb); have n4_ := Aside0.mk (below_step (by repeat ((with_reducible first | exact HB.out | refine below_set ?_ GE595.out))) hb); clear HO587; clear HO590; clear BK595; clear HB; have HO587 := n0_; have HO590 := n1_; have HO598 := n2_; have BK595 := n3_; have HB := n4_; clear n0_ n1_ n2_ n3_ n4_; (try clear hb); skip; (try clear ho0); have hcz120_0 : w119.cell? ⟨gb595, 0, none⟩ = some (.int .i64 t591) := (blk_cell BK595.out 0).trans rfl; have hcz120_1 : w119.cell? ⟨gb595, 1, none⟩ = some (.int .i64 t592) := (blk_cell BK595.out 1).trans rfl; have hcz120_2 : w119.cell? ⟨gb595, 2, none⟩ = some (.int .i64 t593) := (blk_cell BK595.out 2).trans rfl; have hcz120_3 : w119.cell? ⟨gb595, 3, none⟩ = some (.int .i64 t594) := (blk_cell BK595.out 3).trans rfl; have hfz120_0 := blk_frozen BK595.out 0; have hfz120_1 := blk_frozen BK595.out 1; have hfz120_2 := blk_frozen BK595.out 2; have hfz120_3 := blk_frozen BK595.out 3) | ((with_reducible refine gate_callee (f := 51) rfl ?_); refine goesL_ (some 37) rfl rfl Try.func51 (by kernel_rfl) rfl #[.slice Ao117 t585.length co117, .slice Ao118 t588.length co118, .agg #[.int .i64 t591, .int .i64 t592, .int .i64 t593, .int .i64 t594]] rfl (by (try simp only [map_toArray, map_cons, map_nil]); rfl) ?_; (with_reducible refine (spec_LetGo.calls k _ _ t585 _ _ t588 t591 t592 t593 t594 t600 t603 _ ?side1 ?side2 ?side3 ?side4 A6.out).mono ?_); (case side1 => repeat (exact (R_reads' HO587.out).2.2)); (case side2 => exact (R_reads' HO587.out).2.1); (case side3 => repeat (exact (R_reads' HO590.out).2.2)); (case side4 => exact (R_reads' HO590.out).2.1); rintro e w121 ⟨v601, rfl, ho0, hb⟩; refine ⟨_, rfl, ?_⟩; have n0_ := Aside0.mk (R_below (by (with_reducible repeat (fail)); exact HO587.out) hb); have n1_ := Aside0.mk (Kd.R_elder' (by (with_reducible repeat (fail)); exact HO590.out) (Kd.R_base ho0) hb); have n2_ := Aside0.mk (Kd.R_elder' (by (with_reducible repeat (fail)); exact HO598.out) (Kd.R_base ho0) hb); have n3_ := Aside0.mk (Kd.R_lower (Kd.R_newB (Kd.R_new' (Kd.R_new' ho0 (Kd.R_lt (by (with_reducible repeat (fail)); exact HO590.out))) (Kd.R_lt (by (with_reducible repeat (fail)); exact HO598.out))) (g := gb595) (o := .cells #[.int .i64 t591, .int .i64 t592, .int .i64 t593, .int .i64 t594] 58 (0, 0)) (by (with_reducible repeat (fail)); exact BK595.out)) (below_size (by repeat ((with_reducible exact HB.out))))); have n4_ := Aside0.mk (blk_below (g := gb595) (o := .cells #[.int .i64 t591, .int .i64 t592, .int .i64 t593, .int .i64 t594] 58 (0, 0)) (by (with_reducible repeat (fail)); exact BK595.out) hb); have n5_ := Aside0.mk (below_step (by repeat ((with_reducible exact HB.out))) hb); clear HO587; clear HO590; clear HO598; clear BK595; clear HB; have HO587 := n0_; have HO590 := n1_; have HO598 := n2_; have HO602 := n3_; have BK595 := n4_; have HB := n5_; clear n0_ n1_ n2_ n3_ n4_ n5_; (try clear hb); skip; (try clear ho0)) | ((with_reducible refine gate_callee (f := 40) rfl ?_); refine goesL_ (some 47) rfl rfl Try.func40 (by kernel_rfl) rfl #[.slice Ao117 t585.length co117, .slice Ao118 t588.length co118] rfl (by (try simp only [map_toArray, map_cons, map_nil]); rfl) ?_; (with_reducible refine (spec_EventsOk.calls k _ _ t585 _ _ t588 false _ ?side1 ?side2 ?side3 ?side4 A101.out).mono ?_); (case side1 => repeat (exact (R_reads' HO587.out).2.2)); (case side2 => exact (R_reads' HO587.out).2.1); (case side3 => repeat (exact (R_reads' HO590.out).2.2)); (case side4 => exact (R_reads' HO590.out).2.1); rintro e w122 ⟨rfl, hb⟩; refine ⟨_, rfl, ?_⟩; have n0_ := Aside0.mk (R_below (by (with_reducible repeat (fail)); exact HO587.out) hb); have n1_ := Aside0.mk (R_below (by (with_reducible repeat (fail)); exact HO590.out) hb); have n2_ := Aside0.mk (R_below (by (with_reducible repeat (fail)); exact HO598.out) hb); have n3_ := Aside0.mk (R_below (by (with_reducible repeat (fail)); exact HO602.out) hb); have n4_ := Aside0.mk (blk_below (g := gb595) (o := .cells #[.int .i64 t591, .int .i64 t592, .int .i64 t593, .int .i64 t594] 58 (0, 0)) (by (with_reducible repeat (fail)); exact BK595.out) hb); have n5_ := Aside0.mk (below_step (by repeat ((with_reducible exact HB.out))) hb); clear HO587; clear HO590; clear HO598; clear HO602; clear BK595; clear HB; have HO587 := n0_; have HO590 := n1_; have HO598 := n2_; have HO602 := n3_; have BK595 := n4_; have HB := n5_; clear n0_ n1_ n2_ n3_ n4_ n5_; (try clear hb); skip))
     go_ret
     exact ⟨by rfl, by repeat ((with_reducible exact HB.out))⟩
end Go.Proofs.Ytcndchcepajmjaa.PFnLetGo
