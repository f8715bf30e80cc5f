/- Texts of the claim of the law FnExactShifted, made smaller by a program of this session: what the claim does not use is left out. No condition. -/
import Derived.Test.YtljfflhbabkbgaaZShPFnExactShiftedx0
import Derived.Test.YtljfflhbabkbgaaZShPFnExactShiftedx1
import Derived.Test.YtljfflhbabkbgaaZShPFnExactShiftedx6
import Derived.Test.YtljfflhbabkbgaaZShPFnExactShiftedx11
namespace Go.Proofs.Ytljfflhbabkbgaa.PFnExactShifted
open Go.RowKit Go.Proofs.YtljfflhbabkbgaaW.PrintWords Go.Proofs.YtljfflhbabkbgaaW.PrintLast Go.Proofs.YtljfflhbabkbgaaW.PrintMore
open List (setIfInBounds_toArray set_cons_zero set_cons_succ map_toArray map_cons map_nil length_drop length_take)
open Option (bind_eq_some_iff)
open Kd (R_drew R_drewN R_alloc C_drewN C_drew C_alloc R_reads' R_below C_below)
attribute [local go_sem] max2_int min2_int max_two min_two max_three min_three max_four min_four   -- for this text's walks alone
set_option linter.unusedVariables false
set_option linter.unusedSimpArgs false
mutual
def laws_FnExactShifted.j0 : Nat → List (S69) → List (S31) → Bool → List (S31) → List (S31) → Bool → Bool → Int → Int → Int → Int → Int → Int → Option (Bool)
  | 0, _, _, _, _, _, _, _, _, _, _, _, _, _ => none
  | k + 1, x0, x5, x6, x7, x9, x10, x51, x397000, x397001, x397002, x408000, x408001, x408002 => if x51 = true then (some false) else ((laws_toTwigS.f k x0).bind fun t410 => ((laws_eqTwigS.f k x7 t410).bind fun t413 => (if t413 = true then ((laws_markTwigS.f k x7 1).bind fun bt414 => (if bt414.1 < 0 then (laws_FnExactShifted.j1 k x0 x5 x6 x9 true x397000 x397001 x397002) else ((laws_eqTwig.f x408000 x408001 x408002 x397000 x397001 x397002).bind fun t416 => (if t416 = true then ((laws_eqTwigS.f k x9 x5).bind fun t417 => (if t417 = true then (laws_FnExactShifted.j1 k x0 x5 x6 x9 (x10 != x6) x397000 x397001 x397002) else (laws_FnExactShifted.j1 k x0 x5 x6 x9 true x397000 x397001 x397002))) else (laws_FnExactShifted.j1 k x0 x5 x6 x9 true x397000 x397001 x397002))))) else (some false))))
def laws_FnExactShifted.j1 : Nat → List (S69) → List (S31) → Bool → List (S31) → Bool → Int → Int → Int → Option (Bool)
  | 0, _, _, _, _, _, _, _, _ => none
  | k + 1, x0, x5, x6, x9, x78, x397000, x397001, x397002 => if x78 = true then (some false) else ((laws_markTwigS.f k x9 1).bind fun bt418 => ((laws_heldTwigS.f k bt418.2 1).bind fun t420 => (if t420 < 0 then (some false) else (if t420 = bt418.1 then ((laws_toTwigS.f k x0).bind fun t421 => ((impl_Shifted.f k t421).bind fun bt424 => ((laws_eqTwig.f bt424.1 bt424.2.1 bt424.2.2.1 x397000 x397001 x397002).bind fun t432 => (if t432 = true then ((laws_eqTwigS.f k bt424.2.2.2.1 x5).bind fun t433 => (if t433 = true then (laws_FnExactShifted.j2 k bt418.2 bt418.1 (bt424.2.2.2.2 != x6)) else (laws_FnExactShifted.j2 k bt418.2 bt418.1 true))) else (laws_FnExactShifted.j2 k bt418.2 bt418.1 true))))) else (some false)))))
def laws_FnExactShifted.j2 : Nat → List (S31) → Int → Bool → Option (Bool)
  | 0, _, _, _ => none
  | k + 1, x9, x12, x111 => if x111 = true then (some false) else ((laws_heldTwigS.f k x9 1).bind fun t434 => (if t434 < 0 then (some false) else (if t434 = x12 then (some true) else (some false))))
end
def laws_FnExactShifted.f (k : Nat) (l0 : List (S69)) : Option (Bool) := (laws_szTwigS.f l0 1048576).bind fun t385 => (if t385 < 0 then (some true) else ((laws_toTwigS.f k l0).bind fun t386 => ((spec_Shifted.f k t386).bind fun bt389 => ((laws_toTwigS.f k l0).bind fun t397 => ((impl_Shifted.f k t397).bind fun bt400 => ((laws_eqTwig.f bt400.1 bt400.2.1 bt400.2.2.1 bt389.1 bt389.2.1 bt389.2.2.1).bind fun t408 => (if t408 = true then ((laws_eqTwigS.f k bt400.2.2.2.1 bt389.2.2.2.1).bind fun t409 => (if t409 = true then (laws_FnExactShifted.j0 k l0 bt389.2.2.2.1 bt389.2.2.2.2 t397 bt400.2.2.2.1 bt400.2.2.2.2 (bt400.2.2.2.2 != bt389.2.2.2.2) bt389.1 bt389.2.1 bt389.2.2.1 bt400.1 bt400.2.1 bt400.2.2.1) else (laws_FnExactShifted.j0 k l0 bt389.2.2.2.1 bt389.2.2.2.2 t397 bt400.2.2.2.1 bt400.2.2.2.2 true bt389.1 bt389.2.1 bt389.2.2.1 bt400.1 bt400.2.1 bt400.2.2.1))) else (laws_FnExactShifted.j0 k l0 bt389.2.2.2.1 bt389.2.2.2.2 t397 bt400.2.2.2.1 bt400.2.2.2.2 true bt389.1 bt389.2.1 bt389.2.2.1 bt400.1 bt400.2.1 bt400.2.2.1))))))))
set_option maxHeartbeats 8000000 in
set_option maxRecDepth 100000 in
theorem laws_FnExactShifted.calls (k : Nat) (A0 : Option Addr) (c0 : Nat) (l0 : List (S69)) (r : Bool) (w : World) (hr0 : Kd.C k69 w A0 l0.length l0) (hc0 : l0.length ≤ c0) (h : laws_FnExactShifted.f k l0 = some r) :
    Calls Try.prog 5 #[.slice A0 l0.length c0] w fun e w' => e = .returned (.bool r) ∧ Below w.heap.size w w' := by
  have hu31 := Try.underlying31
  have HR0 := Aside0.mk hr0
  have HC0 := Aside0.mk hc0
  clear hr0 hc0
  have HB := Aside0.mk (Below.refl w.heap.size w)
  have H : ((laws_szTwigS.f l0 1048576).bind fun t385 => (if t385 < 0 then (some true) else ((laws_toTwigS.f k l0).bind fun t386 => ((spec_Shifted.f k t386).bind fun bt389 => ((laws_toTwigS.f k l0).bind fun t397 => ((impl_Shifted.f k t397).bind fun bt400 => ((laws_eqTwig.f bt400.1 bt400.2.1 bt400.2.2.1 bt389.1 bt389.2.1 bt389.2.2.1).bind fun t408 => (if t408 = true then ((laws_eqTwigS.f k bt400.2.2.2.1 bt389.2.2.2.1).bind fun t409 => (if t409 = true then (laws_FnExactShifted.j0 k l0 bt389.2.2.2.1 bt389.2.2.2.2 t397 bt400.2.2.2.1 bt400.2.2.2.2 (bt400.2.2.2.2 != bt389.2.2.2.2) bt389.1 bt389.2.1 bt389.2.2.1 bt400.1 bt400.2.1 bt400.2.2.1) else (laws_FnExactShifted.j0 k l0 bt389.2.2.2.1 bt389.2.2.2.2 t397 bt400.2.2.2.1 bt400.2.2.2.2 true bt389.1 bt389.2.1 bt389.2.2.1 bt400.1 bt400.2.1 bt400.2.2.1))) else (laws_FnExactShifted.j0 k l0 bt389.2.2.2.1 bt389.2.2.2.2 t397 bt400.2.2.2.1 bt400.2.2.2.2 true bt389.1 bt389.2.1 bt389.2.2.1 bt400.1 bt400.2.1 bt400.2.2.1))))))))) = some r := h
  clear h
  replace H := bind_eq_some_iff.mp H
  obtain ⟨t385, A20, H⟩ := H
  replace H : (if t385 < 0 then (some true) else ((laws_toTwigS.f k l0).bind fun t386 => ((spec_Shifted.f k t386).bind fun bt389 => ((laws_toTwigS.f k l0).bind fun t397 => ((impl_Shifted.f k t397).bind fun bt400 => ((laws_eqTwig.f bt400.1 bt400.2.1 bt400.2.2.1 bt389.1 bt389.2.1 bt389.2.2.1).bind fun t408 => (if t408 = true then ((laws_eqTwigS.f k bt400.2.2.2.1 bt389.2.2.2.1).bind fun t409 => (if t409 = true then (laws_FnExactShifted.j0 k l0 bt389.2.2.2.1 bt389.2.2.2.2 t397 bt400.2.2.2.1 bt400.2.2.2.2 (bt400.2.2.2.2 != bt389.2.2.2.2) bt389.1 bt389.2.1 bt389.2.2.1 bt400.1 bt400.2.1 bt400.2.2.1) else (laws_FnExactShifted.j0 k l0 bt389.2.2.2.1 bt389.2.2.2.2 t397 bt400.2.2.2.1 bt400.2.2.2.2 true bt389.1 bt389.2.1 bt389.2.2.1 bt400.1 bt400.2.1 bt400.2.2.1))) else (laws_FnExactShifted.j0 k l0 bt389.2.2.2.1 bt389.2.2.2.2 t397 bt400.2.2.2.1 bt400.2.2.2.2 true bt389.1 bt389.2.1 bt389.2.2.1 bt400.1 bt400.2.1 bt400.2.2.1)))))))) = some r := H
  have A2 := Aside0.mk A20
  clear A20
  by_cases c3 : t385 < 0
  · rw [if_pos c3] at H
    have c3b0 : decide (t385 < 0) = true := decide_eq_true c3
    clear c3
    obtain rfl := Option.some.inj H
    go_enter Try.func5, Try.ntmps5
    go_wp2_with (first | ((with_reducible refine gate_callee (f := 15) rfl ?_); refine goesL_ (some 19) rfl rfl Try.func15 (by kernel_rfl) rfl #[.slice A0 l0.length c0, .int .i64 1048576] rfl (by (try simp only [map_toArray, map_cons, map_nil]); first | done | rfl | (simp only [length_drop, length_take]; rfl)) ?_; (with_reducible refine (laws_szTwigS.calls _ _ l0 1048576 t385 _ ?side1 ?side2 A2.out).mono ?_); (case side1 => repeat (first | exact HR0.out | (with_reducible refine C_alloc ?_ _) | (with_reducible refine C_drewN ?_ _) | (with_reducible refine C_drew ?_))); (case side2 => exact HC0.out); rintro e w' ⟨rfl, ⟨nd, rfl⟩⟩; refine ⟨_, rfl, ?_⟩))
    go_ret
    exact ⟨by first | rfl | (simp [errW_none, errW_some] <;> rfl) | (simp [*, errW_none, errW_some] <;> rfl), by repeat (first | (with_reducible first | exact HB.out | apply below_alloc | apply pw_below_drewN | apply below_drew1) | exact HB.out)⟩
  · rw [if_neg c3] at H
    have c3b0 : decide (t385 < 0) = false := decide_eq_false c3
    clear c3
    replace H := bind_eq_some_iff.mp H
    obtain ⟨t386, A40, H⟩ := H
    replace H : ((spec_Shifted.f k t386).bind fun bt389 => ((laws_toTwigS.f k l0).bind fun t397 => ((impl_Shifted.f k t397).bind fun bt400 => ((laws_eqTwig.f bt400.1 bt400.2.1 bt400.2.2.1 bt389.1 bt389.2.1 bt389.2.2.1).bind fun t408 => (if t408 = true then ((laws_eqTwigS.f k bt400.2.2.2.1 bt389.2.2.2.1).bind fun t409 => (if t409 = true then (laws_FnExactShifted.j0 k l0 bt389.2.2.2.1 bt389.2.2.2.2 t397 bt400.2.2.2.1 bt400.2.2.2.2 (bt400.2.2.2.2 != bt389.2.2.2.2) bt389.1 bt389.2.1 bt389.2.2.1 bt400.1 bt400.2.1 bt400.2.2.1) else (laws_FnExactShifted.j0 k l0 bt389.2.2.2.1 bt389.2.2.2.2 t397 bt400.2.2.2.1 bt400.2.2.2.2 true bt389.1 bt389.2.1 bt389.2.2.1 bt400.1 bt400.2.1 bt400.2.2.1))) else (laws_FnExactShifted.j0 k l0 bt389.2.2.2.1 bt389.2.2.2.2 t397 bt400.2.2.2.1 bt400.2.2.2.2 true bt389.1 bt389.2.1 bt389.2.2.1 bt400.1 bt400.2.1 bt400.2.2.1)))))) = some r := H
    have A4 := Aside0.mk A40
    clear A40
    replace H := bind_eq_some_iff.mp H
    obtain ⟨⟨t389, t390, t391, t392, t395⟩, A50, H⟩ := H
    replace H : ((laws_toTwigS.f k l0).bind fun t397 => ((impl_Shifted.f k t397).bind fun bt400 => ((laws_eqTwig.f bt400.1 bt400.2.1 bt400.2.2.1 t389 t390 t391).bind fun t408 => (if t408 = true then ((laws_eqTwigS.f k bt400.2.2.2.1 t392).bind fun t409 => (if t409 = true then (laws_FnExactShifted.j0 k l0 t392 t395 t397 bt400.2.2.2.1 bt400.2.2.2.2 (bt400.2.2.2.2 != t395) t389 t390 t391 bt400.1 bt400.2.1 bt400.2.2.1) else (laws_FnExactShifted.j0 k l0 t392 t395 t397 bt400.2.2.2.1 bt400.2.2.2.2 true t389 t390 t391 bt400.1 bt400.2.1 bt400.2.2.1))) else (laws_FnExactShifted.j0 k l0 t392 t395 t397 bt400.2.2.2.1 bt400.2.2.2.2 true t389 t390 t391 bt400.1 bt400.2.1 bt400.2.2.1))))) = some r := H
    have A5 := Aside0.mk A50
    clear A50
    replace H := bind_eq_some_iff.mp H
    obtain ⟨t397, A60, H⟩ := H
    replace H : ((impl_Shifted.f k t397).bind fun bt400 => ((laws_eqTwig.f bt400.1 bt400.2.1 bt400.2.2.1 t389 t390 t391).bind fun t408 => (if t408 = true then ((laws_eqTwigS.f k bt400.2.2.2.1 t392).bind fun t409 => (if t409 = true then (laws_FnExactShifted.j0 k l0 t392 t395 t397 bt400.2.2.2.1 bt400.2.2.2.2 (bt400.2.2.2.2 != t395) t389 t390 t391 bt400.1 bt400.2.1 bt400.2.2.1) else (laws_FnExactShifted.j0 k l0 t392 t395 t397 bt400.2.2.2.1 bt400.2.2.2.2 true t389 t390 t391 bt400.1 bt400.2.1 bt400.2.2.1))) else (laws_FnExactShifted.j0 k l0 t392 t395 t397 bt400.2.2.2.1 bt400.2.2.2.2 true t389 t390 t391 bt400.1 bt400.2.1 bt400.2.2.1)))) = some r := H
    have A6 := Aside0.mk A60
    clear A60
    replace H := bind_eq_some_iff.mp H
    obtain ⟨⟨t400, t401, t402, t403, t406⟩, A70, H⟩ := H
    replace H : ((laws_eqTwig.f t400 t401 t402 t389 t390 t391).bind fun t408 => (if t408 = true then ((laws_eqTwigS.f k t403 t392).bind fun t409 => (if t409 = true then (laws_FnExactShifted.j0 k l0 t392 t395 t397 t403 t406 (t406 != t395) t389 t390 t391 t400 t401 t402) else (laws_FnExactShifted.j0 k l0 t392 t395 t397 t403 t406 true t389 t390 t391 t400 t401 t402))) else (laws_FnExactShifted.j0 k l0 t392 t395 t397 t403 t406 true t389 t390 t391 t400 t401 t402))) = some r := H
    have A7 := Aside0.mk A70
    clear A70
    have HC8 := Aside0.mk H
    clear H
    go_enter Try.func5, Try.ntmps5
    go_upto_region 8 with (first | ((with_reducible refine gate_callee (f := 15) rfl ?_); refine goesL_ (some 19) rfl rfl Try.func15 (by kernel_rfl) rfl #[.slice A0 l0.length c0, .int .i64 1048576] rfl (by (try simp only [map_toArray, map_cons, map_nil]); first | done | rfl | (simp only [length_drop, length_take]; rfl)) ?_; (with_reducible refine (laws_szTwigS.calls _ _ l0 1048576 t385 _ ?side1 ?side2 A2.out).mono ?_); (case side1 => repeat (first | exact HR0.out | (with_reducible refine C_alloc ?_ _) | (with_reducible refine C_drewN ?_ _) | (with_reducible refine C_drew ?_))); (case side2 => exact HC0.out); rintro e w' ⟨rfl, ⟨nd, rfl⟩⟩; refine ⟨_, rfl, ?_⟩) | ((with_reducible refine gate_callee (f := 17) rfl ?_); refine goesL_ (some 24) rfl rfl Try.func17 (by kernel_rfl) rfl #[.slice A0 l0.length c0] rfl (by (try simp only [map_toArray, map_cons, map_nil]); first | done | rfl | (simp only [length_drop, length_take]; rfl)) ?_; (with_reducible refine (laws_toTwigS.calls k _ _ l0 t386 _ ?side1 ?side2 A4.out).mono ?_); (case side1 => repeat (first | exact HR0.out | (with_reducible refine C_alloc ?_ _) | (with_reducible refine C_drewN ?_ _) | (with_reducible refine C_drew ?_))); (case side2 => exact HC0.out); rintro e w9 ⟨v387, rfl, ho0, hb⟩; refine ⟨_, rfl, ?_⟩; have n0_ := Aside0.mk (Kd.R_lower ho0 (below_size (by repeat (first | (with_reducible first | exact HB.out | apply below_alloc | apply pw_below_drewN | apply below_drew1) | exact HB.out)))); have n1_ := Aside0.mk (below_step (by repeat (first | (with_reducible first | exact HB.out | apply below_alloc | apply pw_below_drewN | apply below_drew1) | exact HB.out)) hb); clear HB; have HO388 := n0_; have HB := n1_; clear n0_ n1_; (try clear hb); (try clear hb2); (try clear hk); (try clear hi); (try clear ho0); obtain ⟨Ao10, co10, eo10⟩ := Kd.R_slice HO388.out; subst eo10) | ((with_reducible refine gate_callee (f := 22) rfl ?_); refine goesL_ (some 25) rfl rfl Try.func22 (by kernel_rfl) rfl #[.slice Ao10 t386.length co10] rfl (by (try simp only [map_toArray, map_cons, map_nil]); first | done | rfl | (simp only [length_drop, length_take]; rfl)) ?_; (with_reducible refine (spec_Shifted.calls k _ _ t386 t389 t390 t391 t392 t395 _ ?side1 ?side2 A5.out).mono ?_); (case side1 => repeat (first | exact (R_reads' HO388.out).2.2 | (with_reducible refine C_alloc ?_ _) | (with_reducible refine C_drewN ?_ _) | (with_reducible refine C_drew ?_))); (case side2 => exact (R_reads' HO388.out).2.1); rintro e w11 ⟨v393, rfl, ho0, hb⟩; refine ⟨_, rfl, ?_⟩; have n0_ := Aside0.mk (Kd.R_elder' (by (with_reducible repeat (first | apply R_alloc | apply R_drewN | apply R_drew)); exact HO388.out) (Kd.R_base ho0) hb); have n1_ := Aside0.mk (Kd.R_lower (Kd.R_new' ho0 (Kd.R_lt (by (with_reducible repeat (first | apply R_alloc | apply R_drewN | apply R_drew)); exact HO388.out))) (below_size (by repeat (first | (with_reducible first | exact HB.out | apply below_alloc | apply pw_below_drewN | apply below_drew1) | exact HB.out)))); have n2_ := Aside0.mk (below_step (by repeat (first | (with_reducible first | exact HB.out | apply below_alloc | apply pw_below_drewN | apply below_drew1) | exact HB.out)) hb); clear HO388; clear HB; have HO388 := n0_; have HO394 := n1_; have HB := n2_; clear n0_ n1_ n2_; (try clear hb); (try clear hb2); (try clear hk); (try clear hi); (try clear ho0)) | ((with_reducible refine gate_dst (N := 4) rfl ?_); refine box_event ?hg (N := 4) ?hd (cs := #[.int .i64 0, .int .i64 0, .int .i64 0]) (t := 31) ?hr ?_; (case hd => rfl); (case hg => rfl); (case hr => first | (go_simp; done) | (go_simp; rfl)); intro gb396 hg w12 hbox hb; have n0_ := Aside0.mk (R_below (Kd.R_elderB (by (with_reducible repeat (first | apply R_alloc | apply R_drewN | apply R_drew)); exact HO388.out) gb396 (Nat.le_of_eq hg.symm)) hb); have n1_ := Aside0.mk (R_below (Kd.R_elderB (by (with_reducible repeat (first | apply R_alloc | apply R_drewN | apply R_drew)); exact HO394.out) gb396 (Nat.le_of_eq hg.symm)) hb); have n2_ := Aside0.mk (below_step (by repeat (first | (with_reducible first | exact HB.out | apply below_alloc | apply pw_below_drewN | apply below_drew1) | exact HB.out)) hb); have n3_ := Aside0.mk (hbox); have n4_ := Aside0.mk ((by rw [hg]; exact (below_size (by repeat (first | (with_reducible first | exact HB.out | apply below_alloc | apply pw_below_drewN | apply below_drew1) | exact HB.out))) : w.heap.size ≤ gb396)); have n5_ := Aside0.mk ((by rw [hg]; exact (below_size (by repeat (first | (with_reducible first | exact HB.out | apply below_alloc | apply pw_below_drewN | apply below_drew1) | exact HB.out))) : w.heap.size ≤ gb396)); clear HO388; clear HO394; clear HB; have HO388 := n0_; have HO394 := n1_; have HB := n2_; have BK396 := n3_; have GW396 := n4_; have GE396 := n5_; clear n0_ n1_ n2_ n3_ n4_ n5_; clear hb hbox hg; have hcz13_0 : w12.cell? ⟨gb396, 0, none⟩ = some (.int .i64 0) := (blk_cell BK396.out 0).trans rfl; have hcz13_1 : w12.cell? ⟨gb396, 1, none⟩ = some (.int .i64 0) := (blk_cell BK396.out 1).trans rfl; have hcz13_2 : w12.cell? ⟨gb396, 2, none⟩ = some (.int .i64 0) := (blk_cell BK396.out 2).trans rfl; have hfz13_0 := blk_frozen BK396.out 0; have hfz13_1 := blk_frozen BK396.out 1; have hfz13_2 := blk_frozen BK396.out 2) | ((with_reducible refine gate_callee (f := 17) rfl ?_); refine goesL_ (some 30) rfl rfl Try.func17 (by kernel_rfl) rfl #[.slice A0 l0.length c0] rfl (by (try simp only [map_toArray, map_cons, map_nil]); first | done | rfl | (simp only [length_drop, length_take]; rfl)) ?_; (with_reducible refine (laws_toTwigS.calls k _ _ l0 t397 _ ?side1 ?side2 A6.out).mono ?_); (case side1 => exact C_below HR0.out (by repeat (first | (with_reducible first | exact HB.out | apply below_alloc | apply pw_below_drewN | apply below_drew1 | refine below_set ?_ GE396.out) | exact HB.out))); (case side2 => exact HC0.out); rintro e w14 ⟨v398, rfl, ho0, hb⟩; refine ⟨_, rfl, ?_⟩; have n0_ := Aside0.mk (Kd.R_elder' (by (with_reducible repeat (first | apply R_alloc | apply R_drewN | apply R_drew)); exact (Kd.R_mono (Kd.R_far (p := ⟨gb396, 2, none⟩) (Kd.R_far (p := ⟨gb396, 1, none⟩) (Kd.R_far (p := ⟨gb396, 0, none⟩) (Kd.R_mono HO388.out (fun k_ hk => (⟨hk, hk.2⟩ : _ ∧ k_ ≠ gb396))) (fun _ hk => hk.2) (.int .i64 t389)) (fun _ hk => hk.2) (.int .i64 t390)) (fun _ hk => hk.2) (.int .i64 t391)) (fun _ h_ => h_.1))) (Kd.R_base ho0) hb); have n1_ := Aside0.mk (Kd.R_elder' (by (with_reducible repeat (first | apply R_alloc | apply R_drewN | apply R_drew)); exact (Kd.R_mono (Kd.R_far (p := ⟨gb396, 2, none⟩) (Kd.R_far (p := ⟨gb396, 1, none⟩) (Kd.R_far (p := ⟨gb396, 0, none⟩) (Kd.R_mono HO394.out (fun k_ hk => (⟨hk, hk.2⟩ : _ ∧ k_ ≠ gb396))) (fun _ hk => hk.2) (.int .i64 t389)) (fun _ hk => hk.2) (.int .i64 t390)) (fun _ hk => hk.2) (.int .i64 t391)) (fun _ h_ => h_.1))) (Kd.R_base ho0) hb); have n2_ := Aside0.mk (Kd.R_lower (Kd.R_newB (Kd.R_new' (Kd.R_new' ho0 (Kd.R_lt (by (with_reducible repeat (first | apply R_alloc | apply R_drewN | apply R_drew)); exact (Kd.R_mono (Kd.R_far (p := ⟨gb396, 2, none⟩) (Kd.R_far (p := ⟨gb396, 1, none⟩) (Kd.R_far (p := ⟨gb396, 0, none⟩) (Kd.R_mono HO388.out (fun k_ hk => (⟨hk, hk.2⟩ : _ ∧ k_ ≠ gb396))) (fun _ hk => hk.2) (.int .i64 t389)) (fun _ hk => hk.2) (.int .i64 t390)) (fun _ hk => hk.2) (.int .i64 t391)) (fun _ h_ => h_.1))))) (Kd.R_lt (by (with_reducible repeat (first | apply R_alloc | apply R_drewN | apply R_drew)); exact (Kd.R_mono (Kd.R_far (p := ⟨gb396, 2, none⟩) (Kd.R_far (p := ⟨gb396, 1, none⟩) (Kd.R_far (p := ⟨gb396, 0, none⟩) (Kd.R_mono HO394.out (fun k_ hk => (⟨hk, hk.2⟩ : _ ∧ k_ ≠ gb396))) (fun _ hk => hk.2) (.int .i64 t389)) (fun _ hk => hk.2) (.int .i64 t390)) (fun _ hk => hk.2) (.int .i64 t391)) (fun _ h_ => h_.1))))) (g := gb396) (o := .cells #[.int .i64 t389, .int .i64 t390, .int .i64 t391] 31 (0, 0)) (by (with_reducible repeat (first | refine blk_drewN ?_ _ | refine blk_drew ?_ | refine blk_alloc ?_ _)); refine blk_put (cs := #[.int .i64 t389, .int .i64 t390, .int .i64 0]) ?_ 2 _ rfl; (with_reducible repeat (first | refine blk_drewN ?_ _ | refine blk_drew ?_ | refine blk_alloc ?_ _)); refine blk_put (cs := #[.int .i64 t389, .int .i64 0, .int .i64 0]) ?_ 1 _ rfl; (with_reducible repeat (first | refine blk_drewN ?_ _ | refine blk_drew ?_ | refine blk_alloc ?_ _)); refine blk_put (cs := #[.int .i64 0, .int .i64 0, .int .i64 0]) ?_ 0 _ rfl; (with_reducible repeat (first | refine blk_drewN ?_ _ | refine blk_drew ?_ | refine blk_alloc ?_ _)); exact BK396.out)) (below_size (by repeat (first | (with_reducible first | exact HB.out | apply below_alloc | apply pw_below_drewN | apply below_drew1 | refine below_set ?_ GE396.out) | exact HB.out)))); have n3_ := Aside0.mk (blk_below (g := gb396) (o := .cells #[.int .i64 t389, .int .i64 t390, .int .i64 t391] 31 (0, 0)) (by (with_reducible repeat (first | refine blk_drewN ?_ _ | refine blk_drew ?_ | refine blk_alloc ?_ _)); refine blk_put (cs := #[.int .i64 t389, .int .i64 t390, .int .i64 0]) ?_ 2 _ rfl; (with_reducible repeat (first | refine blk_drewN ?_ _ | refine blk_drew ?_ | refine blk_alloc ?_ _)); refine blk_put (cs := #[.int .i64 t389, .int .i64 0, .int .i64 0]) ?_ 1 _ rfl; (with_reducible repeat (first | refine blk_drewN ?_ _ | refine blk_drew ?_ | refine blk_alloc ?_ _)); refine blk_put (cs := #[.int .i64 0, .int .i64 0, .int .i64 0]) ?_ 0 _ rfl; (with_reducible repeat (first | refine blk_drewN ?_ _ | refine blk_drew ?_ | refine blk_alloc ?_ _)); exact BK396.out) hb); have n4_ := Aside0.mk (below_step (by repeat (first | (with_reducible first | exact HB.out | apply below_alloc | apply pw_below_drewN | apply below_drew1 | refine below_set ?_ GE396.out) | exact HB.out)) hb); clear HO388; clear HO394; clear BK396; clear HB; have HO388 := n0_; have HO394 := n1_; have HO399 := n2_; have BK396 := n3_; have HB := n4_; clear n0_ n1_ n2_ n3_ n4_; (try clear hb); (try clear hb2); (try clear hk); (try clear hi); (try clear ho0); obtain ⟨Ao15, co15, eo15⟩ := Kd.R_slice HO399.out; subst eo15) | ((with_reducible refine gate_callee (f := 23) rfl ?_); refine goesL_ (some 33) rfl rfl Try.func23 (by kernel_rfl) rfl #[.slice Ao15 t397.length co15] rfl (by (try simp only [map_toArray, map_cons, map_nil]); first | done | rfl | (simp only [length_drop, length_take]; rfl)) ?_; (with_reducible refine (impl_Shifted.calls k _ _ t397 t400 t401 t402 t403 t406 _ ?side1 ?side2 A7.out).mono ?_); (case side1 => repeat (first | exact (R_reads' HO399.out).2.2 | (with_reducible refine C_alloc ?_ _) | (with_reducible refine C_drewN ?_ _) | (with_reducible refine C_drew ?_))); (case side2 => exact (R_reads' HO399.out).2.1); rintro e w16 ⟨v404, rfl, ho0, hb⟩; refine ⟨_, rfl, ?_⟩; have n0_ := Aside0.mk (Kd.R_elder' (by (with_reducible repeat (first | apply R_alloc | apply R_drewN | apply R_drew)); exact HO388.out) (Kd.R_base ho0) hb); have n1_ := Aside0.mk (Kd.R_elder' (by (with_reducible repeat (first | apply R_alloc | apply R_drewN | apply R_drew)); exact HO394.out) (Kd.R_base ho0) hb); have n2_ := Aside0.mk (Kd.R_elder' (by (with_reducible repeat (first | apply R_alloc | apply R_drewN | apply R_drew)); exact HO399.out) (Kd.R_base ho0) hb); have n3_ := Aside0.mk (Kd.R_lower (Kd.R_newB (Kd.R_new' (Kd.R_new' (Kd.R_new' ho0 (Kd.R_lt (by (with_reducible repeat (first | apply R_alloc | apply R_drewN | apply R_drew)); exact HO388.out))) (Kd.R_lt (by (with_reducible repeat (first | apply R_alloc | apply R_drewN | apply R_drew)); exact HO394.out))) (Kd.R_lt (by (with_reducible repeat (first | apply R_alloc | apply R_drewN | apply R_drew)); exact HO399.out))) (g := gb396) (o := .cells #[.int .i64 t389, .int .i64 t390, .int .i64 t391] 31 (0, 0)) (by (with_reducible repeat (first | refine blk_drewN ?_ _ | refine blk_drew ?_ | refine blk_alloc ?_ _)); exact BK396.out)) (below_size (by repeat (first | (with_reducible first | exact HB.out | apply below_alloc | apply pw_below_drewN | apply below_drew1 | refine below_set ?_ GE396.out) | exact HB.out)))); have n4_ := Aside0.mk (blk_below (g := gb396) (o := .cells #[.int .i64 t389, .int .i64 t390, .int .i64 t391] 31 (0, 0)) (by (with_reducible repeat (first | refine blk_drewN ?_ _ | refine blk_drew ?_ | refine blk_alloc ?_ _)); exact BK396.out) hb); have n5_ := Aside0.mk (below_step (by repeat (first | (with_reducible first | exact HB.out | apply below_alloc | apply pw_below_drewN | apply below_drew1 | refine below_set ?_ GE396.out) | exact HB.out)) hb); clear HO388; clear HO394; clear HO399; clear BK396; clear HB; have HO388 := n0_; have HO394 := n1_; have HO399 := n2_; have HO405 := n3_; have BK396 := n4_; have HB := n5_; clear n0_ n1_ n2_ n3_ n4_ n5_; (try clear hb); (try clear hb2); (try clear hk); (try clear hi); (try clear ho0)) | ((with_reducible refine gate_dst (N := 8) rfl ?_); refine box_event ?hg (N := 8) ?hd (cs := #[.int .i64 0, .int .i64 0, .int .i64 0]) (t := 31) ?hr ?_; (case hd => rfl); (case hg => rfl); (case hr => first | (go_simp; done) | (go_simp; rfl)); intro gb407 hg w17 hbox hb; have n0_ := Aside0.mk (R_below (Kd.R_elderB (by (with_reducible repeat (first | apply R_alloc | apply R_drewN | apply R_drew)); exact HO388.out) gb407 (Nat.le_of_eq hg.symm)) hb); have n1_ := Aside0.mk (R_below (Kd.R_elderB (by (with_reducible repeat (first | apply R_alloc | apply R_drewN | apply R_drew)); exact HO394.out) gb407 (Nat.le_of_eq hg.symm)) hb); have n2_ := Aside0.mk (R_below (Kd.R_elderB (by (with_reducible repeat (first | apply R_alloc | apply R_drewN | apply R_drew)); exact HO399.out) gb407 (Nat.le_of_eq hg.symm)) hb); have n3_ := Aside0.mk (R_below (Kd.R_elderB (by (with_reducible repeat (first | apply R_alloc | apply R_drewN | apply R_drew)); exact HO405.out) gb407 (Nat.le_of_eq hg.symm)) hb); have n4_ := Aside0.mk (blk_below (g := gb396) (o := .cells #[.int .i64 t389, .int .i64 t390, .int .i64 t391] 31 (0, 0)) (by (with_reducible repeat (first | refine blk_drewN ?_ _ | refine blk_drew ?_ | refine blk_alloc ?_ _)); exact BK396.out) hb); have n5_ := Aside0.mk (below_step (by repeat (first | (with_reducible first | exact HB.out | apply below_alloc | apply pw_below_drewN | apply below_drew1 | refine below_set ?_ GE396.out) | exact HB.out)) hb); have n6_ := Aside0.mk (hbox); have n7_ := Aside0.mk ((by rw [hg]; exact (below_size (by repeat (first | (with_reducible first | exact HB.out | apply below_alloc | apply pw_below_drewN | apply below_drew1 | refine below_set ?_ GE396.out) | exact HB.out))) : w.heap.size ≤ gb407)); have n8_ := Aside0.mk ((by rw [hg]; exact (below_size (by repeat (first | (with_reducible first | exact HB.out | apply below_alloc | apply pw_below_drewN | apply below_drew1 | refine below_set ?_ GE396.out) | exact HB.out))) : w.heap.size ≤ gb407)); have n9_ := Aside0.mk ((by rw [hg]; exact Nat.ne_of_lt (blk_lt (g := gb396) (o := .cells #[.int .i64 t389, .int .i64 t390, .int .i64 t391] 31 (0, 0)) (by (with_reducible repeat (first | refine blk_drewN ?_ _ | refine blk_drew ?_ | refine blk_alloc ?_ _)); exact BK396.out)) : gb396 ≠ gb407)); have n10_ := Aside0.mk ((by rw [hg]; exact Nat.ne_of_gt (blk_lt (g := gb396) (o := .cells #[.int .i64 t389, .int .i64 t390, .int .i64 t391] 31 (0, 0)) (by (with_reducible repeat (first | refine blk_drewN ?_ _ | refine blk_drew ?_ | refine blk_alloc ?_ _)); exact BK396.out)) : gb407 ≠ gb396)); clear HO388; clear HO394; clear HO399; clear HO405; clear BK396; clear HB; have HO388 := n0_; have HO394 := n1_; have HO399 := n2_; have HO405 := n3_; have BK396 := n4_; have HB := n5_; have BK407 := n6_; have GW407 := n7_; have GE407 := n8_; have NB396_407 := n9_; have NB407_396 := n10_; clear n0_ n1_ n2_ n3_ n4_ n5_ n6_ n7_ n8_ n9_ n10_; clear hb hbox hg; have hnb18 := NB407_396.out; have hnc18 := NB396_407.out; have hcz19_0 : w17.cell? ⟨gb407, 0, none⟩ = some (.int .i64 0) := (blk_cell BK407.out 0).trans rfl; have hcz19_1 : w17.cell? ⟨gb407, 1, none⟩ = some (.int .i64 0) := (blk_cell BK407.out 1).trans rfl; have hcz19_2 : w17.cell? ⟨gb407, 2, none⟩ = some (.int .i64 0) := (blk_cell BK407.out 2).trans rfl; have hfz19_0 := blk_frozen BK407.out 0; have hfz19_1 := blk_frozen BK407.out 1; have hfz19_2 := blk_frozen BK407.out 2))
    (try simp only [Act.put, setIfInBounds_toArray, set_cons_zero, set_cons_succ])
    go_cut [51] (fun v51 wc => ∃ (kq : Nat) (x51_7 : Bool), v51 = .bool x51_7 ∧ Aside0 (laws_FnExactShifted.j0 kq l0 t392 t395 t397 t403 t406 x51_7 t389 t390 t391 t400 t401 t402 = some r) ∧ Aside0 (kq ≤ k) ∧ Aside0 (Kd.R k31 31 wc w.heap.size (fun k_ => some k_ ≠ ((.slice Ao15 t397.length co15) : Value).ownBlock ∧ some k_ ≠ (v404 : Value).ownBlock ∧ k_ ≠ gb396 ∧ k_ ≠ gb407) v393 t392) ∧ Aside0 (Kd.R k31 31 wc w.heap.size (fun k_ => some k_ ≠ (v393 : Value).ownBlock ∧ some k_ ≠ (v404 : Value).ownBlock ∧ k_ ≠ gb396 ∧ k_ ≠ gb407) (.slice Ao15 t397.length co15) t397) ∧ Aside0 (Kd.R k31 31 wc w.heap.size (fun k_ => some k_ ≠ (v393 : Value).ownBlock ∧ some k_ ≠ ((.slice Ao15 t397.length co15) : Value).ownBlock ∧ k_ ≠ gb396 ∧ k_ ≠ gb407) v404 t403) ∧ Aside0 (wc.heap[gb396]? = some (.cells #[.int .i64 t389, .int .i64 t390, .int .i64 t391] 31 (0, 0))) ∧ Aside0 (wc.heap[gb407]? = some (.cells #[.int .i64 t400, .int .i64 t401, .int .i64 t402] 31 (0, 0))) ∧ Aside0 (Below w.heap.size w wc))
    case first =>
      have H := HC8.out
      clear HC8
      replace H := bind_eq_some_iff.mp H
      obtain ⟨t408, A200, H⟩ := H
      replace H : (if t408 = true then ((laws_eqTwigS.f k t403 t392).bind fun t409 => (if t409 = true then (laws_FnExactShifted.j0 k l0 t392 t395 t397 t403 t406 (t406 != t395) t389 t390 t391 t400 t401 t402) else (laws_FnExactShifted.j0 k l0 t392 t395 t397 t403 t406 true t389 t390 t391 t400 t401 t402))) else (laws_FnExactShifted.j0 k l0 t392 t395 t397 t403 t406 true t389 t390 t391 t400 t401 t402)) = some r := H
      have A20 := Aside0.mk A200
      clear A200
      by_cases c21 : t408 = true
      · subst c21
        have H1 : ((laws_eqTwigS.f k t403 t392).bind fun t409 => (if t409 = true then (laws_FnExactShifted.j0 k l0 t392 t395 t397 t403 t406 (t406 != t395) t389 t390 t391 t400 t401 t402) else (laws_FnExactShifted.j0 k l0 t392 t395 t397 t403 t406 true t389 t390 t391 t400 t401 t402))) = some r := by rw [if_pos rfl] at H; exact H
        clear H
        have H := H1
        clear H1
        replace H := bind_eq_some_iff.mp H
        obtain ⟨t409, A220, H⟩ := H
        replace H : (if t409 = true then (laws_FnExactShifted.j0 k l0 t392 t395 t397 t403 t406 (t406 != t395) t389 t390 t391 t400 t401 t402) else (laws_FnExactShifted.j0 k l0 t392 t395 t397 t403 t406 true t389 t390 t391 t400 t401 t402)) = some r := H
        have A22 := Aside0.mk A220
        clear A220
        by_cases c23 : t409 = true
        · subst c23
          have H1 : (laws_FnExactShifted.j0 k l0 t392 t395 t397 t403 t406 (t406 != t395) t389 t390 t391 t400 t401 t402) = some r := by rw [if_pos rfl] at H; exact H
          clear H
          have H := H1
          clear H1
          have H' := Aside0.mk H
          clear H
          have hnb24 := NB407_396.out
          have hnc24 := NB396_407.out
          have hcz25_0 : w17.cell? ⟨gb407, 0, none⟩ = some (.int .i64 0) := (blk_cell BK407.out 0).trans rfl
          have hcz25_1 : w17.cell? ⟨gb407, 1, none⟩ = some (.int .i64 0) := (blk_cell BK407.out 1).trans rfl
          have hcz25_2 : w17.cell? ⟨gb407, 2, none⟩ = some (.int .i64 0) := (blk_cell BK407.out 2).trans rfl
          have hfz25_0 := blk_frozen BK407.out 0
          have hfz25_1 := blk_frozen BK407.out 1
          have hfz25_2 := blk_frozen BK407.out 2
          have hcz26_0 : w17.cell? ⟨gb396, 0, none⟩ = some (.int .i64 t389) := (blk_cell BK396.out 0).trans rfl
          have hcz26_1 : w17.cell? ⟨gb396, 1, none⟩ = some (.int .i64 t390) := (blk_cell BK396.out 1).trans rfl
          have hcz26_2 : w17.cell? ⟨gb396, 2, none⟩ = some (.int .i64 t391) := (blk_cell BK396.out 2).trans rfl
          have hfz26_0 := blk_frozen BK396.out 0
          have hfz26_1 := blk_frozen BK396.out 1
          have hfz26_2 := blk_frozen BK396.out 2
          go_wp2_with (first | ((with_reducible refine gate_callee (f := 24) rfl ?_); refine goesL_ (some 39) rfl rfl Try.func24 (by kernel_rfl) rfl #[.agg #[.int .i64 t400, .int .i64 t401, .int .i64 t402], .agg #[.int .i64 t389, .int .i64 t390, .int .i64 t391]] rfl (by (try simp only [map_toArray, map_cons, map_nil]); first | done | rfl | (simp only [length_drop, length_take]; rfl)) ?_; (with_reducible refine (laws_eqTwig.calls t400 t401 t402 t389 t390 t391 true _ A20.out).mono ?_); rintro e w27 ⟨rfl, hb⟩; refine ⟨_, rfl, ?_⟩; have n0_ := Aside0.mk (R_below (by (with_reducible repeat (first | apply R_alloc | apply R_drewN | apply R_drew)); exact (Kd.R_mono (Kd.R_far (p := ⟨gb407, 2, none⟩) (Kd.R_far (p := ⟨gb407, 1, none⟩) (Kd.R_far (p := ⟨gb407, 0, none⟩) (Kd.R_mono HO388.out (fun k_ hk => (⟨hk, hk.2⟩ : _ ∧ k_ ≠ gb407))) (fun _ hk => hk.2) (.int .i64 t400)) (fun _ hk => hk.2) (.int .i64 t401)) (fun _ hk => hk.2) (.int .i64 t402)) (fun _ h_ => h_.1))) hb); have n1_ := Aside0.mk (R_below (by (with_reducible repeat (first | apply R_alloc | apply R_drewN | apply R_drew)); exact (Kd.R_mono (Kd.R_far (p := ⟨gb407, 2, none⟩) (Kd.R_far (p := ⟨gb407, 1, none⟩) (Kd.R_far (p := ⟨gb407, 0, none⟩) (Kd.R_mono HO394.out (fun k_ hk => (⟨hk, hk.2⟩ : _ ∧ k_ ≠ gb407))) (fun _ hk => hk.2) (.int .i64 t400)) (fun _ hk => hk.2) (.int .i64 t401)) (fun _ hk => hk.2) (.int .i64 t402)) (fun _ h_ => h_.1))) hb); have n2_ := Aside0.mk (R_below (by (with_reducible repeat (first | apply R_alloc | apply R_drewN | apply R_drew)); exact (Kd.R_mono (Kd.R_far (p := ⟨gb407, 2, none⟩) (Kd.R_far (p := ⟨gb407, 1, none⟩) (Kd.R_far (p := ⟨gb407, 0, none⟩) (Kd.R_mono HO399.out (fun k_ hk => (⟨hk, hk.2⟩ : _ ∧ k_ ≠ gb407))) (fun _ hk => hk.2) (.int .i64 t400)) (fun _ hk => hk.2) (.int .i64 t401)) (fun _ hk => hk.2) (.int .i64 t402)) (fun _ h_ => h_.1))) hb); have n3_ := Aside0.mk (R_below (by (with_reducible repeat (first | apply R_alloc | apply R_drewN | apply R_drew)); exact (Kd.R_mono (Kd.R_far (p := ⟨gb407, 2, none⟩) (Kd.R_far (p := ⟨gb407, 1, none⟩) (Kd.R_far (p := ⟨gb407, 0, none⟩) (Kd.R_mono HO405.out (fun k_ hk => (⟨hk, hk.2⟩ : _ ∧ k_ ≠ gb407))) (fun _ hk => hk.2) (.int .i64 t400)) (fun _ hk => hk.2) (.int .i64 t401)) (fun _ hk => hk.2) (.int .i64 t402)) (fun _ h_ => h_.1))) hb); have n4_ := Aside0.mk (blk_below (g := gb396) (o := .cells #[.int .i64 t389, .int .i64 t390, .int .i64 t391] 31 (0, 0)) (by (with_reducible repeat (first | refine blk_drewN ?_ _ | refine blk_drew ?_ | refine blk_alloc ?_ _)); refine blk_far ?_ NB396_407.out _; (with_reducible repeat (first | refine blk_drewN ?_ _ | refine blk_drew ?_ | refine blk_alloc ?_ _)); refine blk_far ?_ NB396_407.out _; (with_reducible repeat (first | refine blk_drewN ?_ _ | refine blk_drew ?_ | refine blk_alloc ?_ _)); refine blk_far ?_ NB396_407.out _; (with_reducible repeat (first | refine blk_drewN ?_ _ | refine blk_drew ?_ | refine blk_alloc ?_ _)); exact BK396.out) hb); have n5_ := Aside0.mk (blk_below (g := gb407) (o := .cells #[.int .i64 t400, .int .i64 t401, .int .i64 t402] 31 (0, 0)) (by (with_reducible repeat (first | refine blk_drewN ?_ _ | refine blk_drew ?_ | refine blk_alloc ?_ _)); refine blk_put (cs := #[.int .i64 t400, .int .i64 t401, .int .i64 0]) ?_ 2 _ rfl; (with_reducible repeat (first | refine blk_drewN ?_ _ | refine blk_drew ?_ | refine blk_alloc ?_ _)); refine blk_put (cs := #[.int .i64 t400, .int .i64 0, .int .i64 0]) ?_ 1 _ rfl; (with_reducible repeat (first | refine blk_drewN ?_ _ | refine blk_drew ?_ | refine blk_alloc ?_ _)); refine blk_put (cs := #[.int .i64 0, .int .i64 0, .int .i64 0]) ?_ 0 _ rfl; (with_reducible repeat (first | refine blk_drewN ?_ _ | refine blk_drew ?_ | refine blk_alloc ?_ _)); exact BK407.out) hb); have n6_ := Aside0.mk (below_step (by repeat (first | (with_reducible first | exact HB.out | apply below_alloc | apply pw_below_drewN | apply below_drew1 | refine below_set ?_ GE396.out | refine below_set ?_ GE407.out) | exact HB.out)) hb); clear HO388; clear HO394; clear HO399; clear HO405; clear BK396; clear BK407; clear HB; have HO388 := n0_; have HO394 := n1_; have HO399 := n2_; have HO405 := n3_; have BK396 := n4_; have BK407 := n5_; have HB := n6_; clear n0_ n1_ n2_ n3_ n4_ n5_ n6_; (try clear hb); (try clear hb2); (try clear hk); (try clear hi); obtain ⟨Ao28, co28, eo28⟩ := Kd.R_slice HO405.out; subst eo28; obtain ⟨Ao29, co29, eo29⟩ := Kd.R_slice HO394.out; subst eo29) | (go_at_call 19; (with_reducible refine (laws_eqTwigS.calls k _ _ t403 _ _ t392 true _ ?side1 ?side2 ?side3 ?side4 A22.out).mono ?_); (case side1 => repeat (first | exact (R_reads' HO405.out).2.2 | (with_reducible refine C_alloc ?_ _) | (with_reducible refine C_drewN ?_ _) | (with_reducible refine C_drew ?_))); (case side2 => exact (R_reads' HO405.out).2.1); (case side3 => repeat (first | exact (R_reads' HO394.out).2.2 | (with_reducible refine C_alloc ?_ _) | (with_reducible refine C_drewN ?_ _) | (with_reducible refine C_drew ?_))); (case side4 => exact (R_reads' HO394.out).2.1); rintro e w30 ⟨rfl, hb⟩; have n0_ := Aside0.mk (R_below (by (with_reducible repeat (first | apply R_alloc | apply R_drewN | apply R_drew)); exact HO388.out) hb); have n1_ := Aside0.mk (R_below (by (with_reducible repeat (first | apply R_alloc | apply R_drewN | apply R_drew)); exact HO394.out) hb); have n2_ := Aside0.mk (R_below (by (with_reducible repeat (first | apply R_alloc | apply R_drewN | apply R_drew)); exact HO399.out) hb); have n3_ := Aside0.mk (R_below (by (with_reducible repeat (first | apply R_alloc | apply R_drewN | apply R_drew)); exact HO405.out) hb); have n4_ := Aside0.mk (blk_below (g := gb396) (o := .cells #[.int .i64 t389, .int .i64 t390, .int .i64 t391] 31 (0, 0)) (by (with_reducible repeat (first | refine blk_drewN ?_ _ | refine blk_drew ?_ | refine blk_alloc ?_ _)); exact BK396.out) hb); have n5_ := Aside0.mk (blk_below (g := gb407) (o := .cells #[.int .i64 t400, .int .i64 t401, .int .i64 t402] 31 (0, 0)) (by (with_reducible repeat (first | refine blk_drewN ?_ _ | refine blk_drew ?_ | refine blk_alloc ?_ _)); exact BK407.out) hb); have n6_ := Aside0.mk (below_step (by repeat (first | (with_reducible first | exact HB.out | apply below_alloc | apply pw_below_drewN | apply below_drew1 | refine below_set ?_ GE396.out | refine below_set ?_ GE407.out) | exact HB.out)) hb); clear HO388; clear HO394; clear HO399; clear HO405; clear BK396; clear BK407; clear HB; have HO388 := n0_; have HO394 := n1_; have HO399 := n2_; have HO405 := n3_; have BK396 := n4_; have BK407 := n5_; have HB := n6_; clear n0_ n1_ n2_ n3_ n4_ n5_ n6_; (try clear hb); (try clear hb2); (try clear hk); (try clear hi)))
          go_meet
          case rel => exact ⟨_, ((t406 != t395)), (by first | rfl | (simp; done) | (simp [*]; done)), H', ⟨by first | omega | exact Nat.le_refl _⟩, ⟨by (with_reducible repeat (first | apply R_alloc | apply R_drewN | apply R_drew)); exact Kd.R_mono HO394.out (fun _ hk => ⟨hk.1.1.2, ⟨hk.1.2, ⟨hk.1.1.1.2, hk.2⟩⟩⟩)⟩, ⟨by (with_reducible repeat (first | apply R_alloc | apply R_drewN | apply R_drew)); exact Kd.R_mono HO399.out (fun _ hk => ⟨hk.1.1.1.2, ⟨hk.1.2, ⟨hk.1.1.2, hk.2⟩⟩⟩)⟩, ⟨by (with_reducible repeat (first | apply R_alloc | apply R_drewN | apply R_drew)); exact Kd.R_mono HO405.out (fun _ hk => ⟨hk.1.1.1.2, ⟨hk.1.1.2, ⟨hk.1.2, hk.2⟩⟩⟩)⟩, ⟨by (with_reducible repeat (first | refine blk_drewN ?_ _ | refine blk_drew ?_ | refine blk_alloc ?_ _)); exact BK396.out⟩, ⟨by (with_reducible repeat (first | refine blk_drewN ?_ _ | refine blk_drew ?_ | refine blk_alloc ?_ _)); exact BK407.out⟩, ⟨by repeat (first | (with_reducible first | exact HB.out | apply below_alloc | apply pw_below_drewN | apply below_drew1 | refine below_set ?_ GE396.out | refine below_set ?_ GE407.out) | exact HB.out)⟩⟩
        · replace c23 := Bool.eq_false_iff.mpr c23
          subst c23
          have H1 : (laws_FnExactShifted.j0 k l0 t392 t395 t397 t403 t406 true t389 t390 t391 t400 t401 t402) = some r := by rw [if_neg (show ¬ (false = true) by decide)] at H; exact H
          clear H
          have H := H1
          clear H1
          have H' := Aside0.mk H
          clear H
          have hnb31 := NB407_396.out
          have hnc31 := NB396_407.out
          have hcz32_0 : w17.cell? ⟨gb407, 0, none⟩ = some (.int .i64 0) := (blk_cell BK407.out 0).trans rfl
          have hcz32_1 : w17.cell? ⟨gb407, 1, none⟩ = some (.int .i64 0) := (blk_cell BK407.out 1).trans rfl
          have hcz32_2 : w17.cell? ⟨gb407, 2, none⟩ = some (.int .i64 0) := (blk_cell BK407.out 2).trans rfl
          have hfz32_0 := blk_frozen BK407.out 0
          have hfz32_1 := blk_frozen BK407.out 1
          have hfz32_2 := blk_frozen BK407.out 2
          have hcz33_0 : w17.cell? ⟨gb396, 0, none⟩ = some (.int .i64 t389) := (blk_cell BK396.out 0).trans rfl
          have hcz33_1 : w17.cell? ⟨gb396, 1, none⟩ = some (.int .i64 t390) := (blk_cell BK396.out 1).trans rfl
          have hcz33_2 : w17.cell? ⟨gb396, 2, none⟩ = some (.int .i64 t391) := (blk_cell BK396.out 2).trans rfl
          have hfz33_0 := blk_frozen BK396.out 0
          have hfz33_1 := blk_frozen BK396.out 1
          have hfz33_2 := blk_frozen BK396.out 2
          go_wp2_with (first | ((with_reducible refine gate_callee (f := 24) rfl ?_); refine goesL_ (some 39) rfl rfl Try.func24 (by kernel_rfl) rfl #[.agg #[.int .i64 t400, .int .i64 t401, .int .i64 t402], .agg #[.int .i64 t389, .int .i64 t390, .int .i64 t391]] rfl (by (try simp only [map_toArray, map_cons, map_nil]); first | done | rfl | (simp only [length_drop, length_take]; rfl)) ?_; (with_reducible refine (laws_eqTwig.calls t400 t401 t402 t389 t390 t391 true _ A20.out).mono ?_); rintro e w34 ⟨rfl, hb⟩; refine ⟨_, rfl, ?_⟩; have n0_ := Aside0.mk (R_below (by (with_reducible repeat (first | apply R_alloc | apply R_drewN | apply R_drew)); exact (Kd.R_mono (Kd.R_far (p := ⟨gb407, 2, none⟩) (Kd.R_far (p := ⟨gb407, 1, none⟩) (Kd.R_far (p := ⟨gb407, 0, none⟩) (Kd.R_mono HO388.out (fun k_ hk => (⟨hk, hk.2⟩ : _ ∧ k_ ≠ gb407))) (fun _ hk => hk.2) (.int .i64 t400)) (fun _ hk => hk.2) (.int .i64 t401)) (fun _ hk => hk.2) (.int .i64 t402)) (fun _ h_ => h_.1))) hb); have n1_ := Aside0.mk (R_below (by (with_reducible repeat (first | apply R_alloc | apply R_drewN | apply R_drew)); exact (Kd.R_mono (Kd.R_far (p := ⟨gb407, 2, none⟩) (Kd.R_far (p := ⟨gb407, 1, none⟩) (Kd.R_far (p := ⟨gb407, 0, none⟩) (Kd.R_mono HO394.out (fun k_ hk => (⟨hk, hk.2⟩ : _ ∧ k_ ≠ gb407))) (fun _ hk => hk.2) (.int .i64 t400)) (fun _ hk => hk.2) (.int .i64 t401)) (fun _ hk => hk.2) (.int .i64 t402)) (fun _ h_ => h_.1))) hb); have n2_ := Aside0.mk (R_below (by (with_reducible repeat (first | apply R_alloc | apply R_drewN | apply R_drew)); exact (Kd.R_mono (Kd.R_far (p := ⟨gb407, 2, none⟩) (Kd.R_far (p := ⟨gb407, 1, none⟩) (Kd.R_far (p := ⟨gb407, 0, none⟩) (Kd.R_mono HO399.out (fun k_ hk => (⟨hk, hk.2⟩ : _ ∧ k_ ≠ gb407))) (fun _ hk => hk.2) (.int .i64 t400)) (fun _ hk => hk.2) (.int .i64 t401)) (fun _ hk => hk.2) (.int .i64 t402)) (fun _ h_ => h_.1))) hb); have n3_ := Aside0.mk (R_below (by (with_reducible repeat (first | apply R_alloc | apply R_drewN | apply R_drew)); exact (Kd.R_mono (Kd.R_far (p := ⟨gb407, 2, none⟩) (Kd.R_far (p := ⟨gb407, 1, none⟩) (Kd.R_far (p := ⟨gb407, 0, none⟩) (Kd.R_mono HO405.out (fun k_ hk => (⟨hk, hk.2⟩ : _ ∧ k_ ≠ gb407))) (fun _ hk => hk.2) (.int .i64 t400)) (fun _ hk => hk.2) (.int .i64 t401)) (fun _ hk => hk.2) (.int .i64 t402)) (fun _ h_ => h_.1))) hb); have n4_ := Aside0.mk (blk_below (g := gb396) (o := .cells #[.int .i64 t389, .int .i64 t390, .int .i64 t391] 31 (0, 0)) (by (with_reducible repeat (first | refine blk_drewN ?_ _ | refine blk_drew ?_ | refine blk_alloc ?_ _)); refine blk_far ?_ NB396_407.out _; (with_reducible repeat (first | refine blk_drewN ?_ _ | refine blk_drew ?_ | refine blk_alloc ?_ _)); refine blk_far ?_ NB396_407.out _; (with_reducible repeat (first | refine blk_drewN ?_ _ | refine blk_drew ?_ | refine blk_alloc ?_ _)); refine blk_far ?_ NB396_407.out _; (with_reducible repeat (first | refine blk_drewN ?_ _ | refine blk_drew ?_ | refine blk_alloc ?_ _)); exact BK396.out) hb); have n5_ := Aside0.mk (blk_below (g := gb407) (o := .cells #[.int .i64 t400, .int .i64 t401, .int .i64 t402] 31 (0, 0)) (by (with_reducible repeat (first | refine blk_drewN ?_ _ | refine blk_drew ?_ | refine blk_alloc ?_ _)); refine blk_put (cs := #[.int .i64 t400, .int .i64 t401, .int .i64 0]) ?_ 2 _ rfl; (with_reducible repeat (first | refine blk_drewN ?_ _ | refine blk_drew ?_ | refine blk_alloc ?_ _)); refine blk_put (cs := #[.int .i64 t400, .int .i64 0, .int .i64 0]) ?_ 1 _ rfl; (with_reducible repeat (first | refine blk_drewN ?_ _ | refine blk_drew ?_ | refine blk_alloc ?_ _)); refine blk_put (cs := #[.int .i64 0, .int .i64 0, .int .i64 0]) ?_ 0 _ rfl; (with_reducible repeat (first | refine blk_drewN ?_ _ | refine blk_drew ?_ | refine blk_alloc ?_ _)); exact BK407.out) hb); have n6_ := Aside0.mk (below_step (by repeat (first | (with_reducible first | exact HB.out | apply below_alloc | apply pw_below_drewN | apply below_drew1 | refine below_set ?_ GE396.out | refine below_set ?_ GE407.out) | exact HB.out)) hb); clear HO388; clear HO394; clear HO399; clear HO405; clear BK396; clear BK407; clear HB; have HO388 := n0_; have HO394 := n1_; have HO399 := n2_; have HO405 := n3_; have BK396 := n4_; have BK407 := n5_; have HB := n6_; clear n0_ n1_ n2_ n3_ n4_ n5_ n6_; (try clear hb); (try clear hb2); (try clear hk); (try clear hi); obtain ⟨Ao35, co35, eo35⟩ := Kd.R_slice HO405.out; subst eo35; obtain ⟨Ao36, co36, eo36⟩ := Kd.R_slice HO394.out; subst eo36) | (go_at_call 19; (with_reducible refine (laws_eqTwigS.calls k _ _ t403 _ _ t392 false _ ?side1 ?side2 ?side3 ?side4 A22.out).mono ?_); (case side1 => repeat (first | exact (R_reads' HO405.out).2.2 | (with_reducible refine C_alloc ?_ _) | (with_reducible refine C_drewN ?_ _) | (with_reducible refine C_drew ?_))); (case side2 => exact (R_reads' HO405.out).2.1); (case side3 => repeat (first | exact (R_reads' HO394.out).2.2 | (with_reducible refine C_alloc ?_ _) | (with_reducible refine C_drewN ?_ _) | (with_reducible refine C_drew ?_))); (case side4 => exact (R_reads' HO394.out).2.1); rintro e w37 ⟨rfl, hb⟩; have n0_ := Aside0.mk (R_below (by (with_reducible repeat (first | apply R_alloc | apply R_drewN | apply R_drew)); exact HO388.out) hb); have n1_ := Aside0.mk (R_below (by (with_reducible repeat (first | apply R_alloc | apply R_drewN | apply R_drew)); exact HO394.out) hb); have n2_ := Aside0.mk (R_below (by (with_reducible repeat (first | apply R_alloc | apply R_drewN | apply R_drew)); exact HO399.out) hb); have n3_ := Aside0.mk (R_below (by (with_reducible repeat (first | apply R_alloc | apply R_drewN | apply R_drew)); exact HO405.out) hb); have n4_ := Aside0.mk (blk_below (g := gb396) (o := .cells #[.int .i64 t389, .int .i64 t390, .int .i64 t391] 31 (0, 0)) (by (with_reducible repeat (first | refine blk_drewN ?_ _ | refine blk_drew ?_ | refine blk_alloc ?_ _)); exact BK396.out) hb); have n5_ := Aside0.mk (blk_below (g := gb407) (o := .cells #[.int .i64 t400, .int .i64 t401, .int .i64 t402] 31 (0, 0)) (by (with_reducible repeat (first | refine blk_drewN ?_ _ | refine blk_drew ?_ | refine blk_alloc ?_ _)); exact BK407.out) hb); have n6_ := Aside0.mk (below_step (by repeat (first | (with_reducible first | exact HB.out | apply below_alloc | apply pw_below_drewN | apply below_drew1 | refine below_set ?_ GE396.out | refine below_set ?_ GE407.out) | exact HB.out)) hb); clear HO388; clear HO394; clear HO399; clear HO405; clear BK396; clear BK407; clear HB; have HO388 := n0_; have HO394 := n1_; have HO399 := n2_; have HO405 := n3_; have BK396 := n4_; have BK407 := n5_; have HB := n6_; clear n0_ n1_ n2_ n3_ n4_ n5_ n6_; (try clear hb); (try clear hb2); (try clear hk); (try clear hi)))
          go_meet
          case rel => exact ⟨_, (true), (by first | rfl | (simp; done) | (simp [*]; done)), H', ⟨by first | omega | exact Nat.le_refl _⟩, ⟨by (with_reducible repeat (first | apply R_alloc | apply R_drewN | apply R_drew)); exact Kd.R_mono HO394.out (fun _ hk => ⟨hk.1.1.2, ⟨hk.1.2, ⟨hk.1.1.1.2, hk.2⟩⟩⟩)⟩, ⟨by (with_reducible repeat (first | apply R_alloc | apply R_drewN | apply R_drew)); exact Kd.R_mono HO399.out (fun _ hk => ⟨hk.1.1.1.2, ⟨hk.1.2, ⟨hk.1.1.2, hk.2⟩⟩⟩)⟩, ⟨by (with_reducible repeat (first | apply R_alloc | apply R_drewN | apply R_drew)); exact Kd.R_mono HO405.out (fun _ hk => ⟨hk.1.1.1.2, ⟨hk.1.1.2, ⟨hk.1.2, hk.2⟩⟩⟩)⟩, ⟨by (with_reducible repeat (first | refine blk_drewN ?_ _ | refine blk_drew ?_ | refine blk_alloc ?_ _)); exact BK396.out⟩, ⟨by (with_reducible repeat (first | refine blk_drewN ?_ _ | refine blk_drew ?_ | refine blk_alloc ?_ _)); exact BK407.out⟩, ⟨by repeat (first | (with_reducible first | exact HB.out | apply below_alloc | apply pw_below_drewN | apply below_drew1 | refine below_set ?_ GE396.out | refine below_set ?_ GE407.out) | exact HB.out)⟩⟩
      · replace c21 := Bool.eq_false_iff.mpr c21
        subst c21
        have H1 : (laws_FnExactShifted.j0 k l0 t392 t395 t397 t403 t406 true t389 t390 t391 t400 t401 t402) = some r := by rw [if_neg (show ¬ (false = true) by decide)] at H; exact H
        clear H
        have H := H1
        clear H1
        have H' := Aside0.mk H
        clear H
        have hnb38 := NB407_396.out
        have hnc38 := NB396_407.out
        have hcz39_0 : w17.cell? ⟨gb407, 0, none⟩ = some (.int .i64 0) := (blk_cell BK407.out 0).trans rfl
        have hcz39_1 : w17.cell? ⟨gb407, 1, none⟩ = some (.int .i64 0) := (blk_cell BK407.out 1).trans rfl
        have hcz39_2 : w17.cell? ⟨gb407, 2, none⟩ = some (.int .i64 0) := (blk_cell BK407.out 2).trans rfl
        have hfz39_0 := blk_frozen BK407.out 0
        have hfz39_1 := blk_frozen BK407.out 1
        have hfz39_2 := blk_frozen BK407.out 2
        have hcz40_0 : w17.cell? ⟨gb396, 0, none⟩ = some (.int .i64 t389) := (blk_cell BK396.out 0).trans rfl
        have hcz40_1 : w17.cell? ⟨gb396, 1, none⟩ = some (.int .i64 t390) := (blk_cell BK396.out 1).trans rfl
        have hcz40_2 : w17.cell? ⟨gb396, 2, none⟩ = some (.int .i64 t391) := (blk_cell BK396.out 2).trans rfl
        have hfz40_0 := blk_frozen BK396.out 0
        have hfz40_1 := blk_frozen BK396.out 1
        have hfz40_2 := blk_frozen BK396.out 2
        go_wp2_with (first | ((with_reducible refine gate_callee (f := 24) rfl ?_); refine goesL_ (some 39) rfl rfl Try.func24 (by kernel_rfl) rfl #[.agg #[.int .i64 t400, .int .i64 t401, .int .i64 t402], .agg #[.int .i64 t389, .int .i64 t390, .int .i64 t391]] rfl (by (try simp only [map_toArray, map_cons, map_nil]); first | done | rfl | (simp only [length_drop, length_take]; rfl)) ?_; (with_reducible refine (laws_eqTwig.calls t400 t401 t402 t389 t390 t391 false _ A20.out).mono ?_); rintro e w41 ⟨rfl, hb⟩; refine ⟨_, rfl, ?_⟩; have n0_ := Aside0.mk (R_below (by (with_reducible repeat (first | apply R_alloc | apply R_drewN | apply R_drew)); exact (Kd.R_mono (Kd.R_far (p := ⟨gb407, 2, none⟩) (Kd.R_far (p := ⟨gb407, 1, none⟩) (Kd.R_far (p := ⟨gb407, 0, none⟩) (Kd.R_mono HO388.out (fun k_ hk => (⟨hk, hk.2⟩ : _ ∧ k_ ≠ gb407))) (fun _ hk => hk.2) (.int .i64 t400)) (fun _ hk => hk.2) (.int .i64 t401)) (fun _ hk => hk.2) (.int .i64 t402)) (fun _ h_ => h_.1))) hb); have n1_ := Aside0.mk (R_below (by (with_reducible repeat (first | apply R_alloc | apply R_drewN | apply R_drew)); exact (Kd.R_mono (Kd.R_far (p := ⟨gb407, 2, none⟩) (Kd.R_far (p := ⟨gb407, 1, none⟩) (Kd.R_far (p := ⟨gb407, 0, none⟩) (Kd.R_mono HO394.out (fun k_ hk => (⟨hk, hk.2⟩ : _ ∧ k_ ≠ gb407))) (fun _ hk => hk.2) (.int .i64 t400)) (fun _ hk => hk.2) (.int .i64 t401)) (fun _ hk => hk.2) (.int .i64 t402)) (fun _ h_ => h_.1))) hb); have n2_ := Aside0.mk (R_below (by (with_reducible repeat (first | apply R_alloc | apply R_drewN | apply R_drew)); exact (Kd.R_mono (Kd.R_far (p := ⟨gb407, 2, none⟩) (Kd.R_far (p := ⟨gb407, 1, none⟩) (Kd.R_far (p := ⟨gb407, 0, none⟩) (Kd.R_mono HO399.out (fun k_ hk => (⟨hk, hk.2⟩ : _ ∧ k_ ≠ gb407))) (fun _ hk => hk.2) (.int .i64 t400)) (fun _ hk => hk.2) (.int .i64 t401)) (fun _ hk => hk.2) (.int .i64 t402)) (fun _ h_ => h_.1))) hb); have n3_ := Aside0.mk (R_below (by (with_reducible repeat (first | apply R_alloc | apply R_drewN | apply R_drew)); exact (Kd.R_mono (Kd.R_far (p := ⟨gb407, 2, none⟩) (Kd.R_far (p := ⟨gb407, 1, none⟩) (Kd.R_far (p := ⟨gb407, 0, none⟩) (Kd.R_mono HO405.out (fun k_ hk => (⟨hk, hk.2⟩ : _ ∧ k_ ≠ gb407))) (fun _ hk => hk.2) (.int .i64 t400)) (fun _ hk => hk.2) (.int .i64 t401)) (fun _ hk => hk.2) (.int .i64 t402)) (fun _ h_ => h_.1))) hb); have n4_ := Aside0.mk (blk_below (g := gb396) (o := .cells #[.int .i64 t389, .int .i64 t390, .int .i64 t391] 31 (0, 0)) (by (with_reducible repeat (first | refine blk_drewN ?_ _ | refine blk_drew ?_ | refine blk_alloc ?_ _)); refine blk_far ?_ NB396_407.out _; (with_reducible repeat (first | refine blk_drewN ?_ _ | refine blk_drew ?_ | refine blk_alloc ?_ _)); refine blk_far ?_ NB396_407.out _; (with_reducible repeat (first | refine blk_drewN ?_ _ | refine blk_drew ?_ | refine blk_alloc ?_ _)); refine blk_far ?_ NB396_407.out _; (with_reducible repeat (first | refine blk_drewN ?_ _ | refine blk_drew ?_ | refine blk_alloc ?_ _)); exact BK396.out) hb); have n5_ := Aside0.mk (blk_below (g := gb407) (o := .cells #[.int .i64 t400, .int .i64 t401, .int .i64 t402] 31 (0, 0)) (by (with_reducible repeat (first | refine blk_drewN ?_ _ | refine blk_drew ?_ | refine blk_alloc ?_ _)); refine blk_put (cs := #[.int .i64 t400, .int .i64 t401, .int .i64 0]) ?_ 2 _ rfl; (with_reducible repeat (first | refine blk_drewN ?_ _ | refine blk_drew ?_ | refine blk_alloc ?_ _)); refine blk_put (cs := #[.int .i64 t400, .int .i64 0, .int .i64 0]) ?_ 1 _ rfl; (with_reducible repeat (first | refine blk_drewN ?_ _ | refine blk_drew ?_ | refine blk_alloc ?_ _)); refine blk_put (cs := #[.int .i64 0, .int .i64 0, .int .i64 0]) ?_ 0 _ rfl; (with_reducible repeat (first | refine blk_drewN ?_ _ | refine blk_drew ?_ | refine blk_alloc ?_ _)); exact BK407.out) hb); have n6_ := Aside0.mk (below_step (by repeat (first | (with_reducible first | exact HB.out | apply below_alloc | apply pw_below_drewN | apply below_drew1 | refine below_set ?_ GE396.out | refine below_set ?_ GE407.out) | exact HB.out)) hb); clear HO388; clear HO394; clear HO399; clear HO405; clear BK396; clear BK407; clear HB; have HO388 := n0_; have HO394 := n1_; have HO399 := n2_; have HO405 := n3_; have BK396 := n4_; have BK407 := n5_; have HB := n6_; clear n0_ n1_ n2_ n3_ n4_ n5_ n6_; (try clear hb); (try clear hb2); (try clear hk); (try clear hi)))
        go_meet
        case rel => exact ⟨_, (true), (by first | rfl | (simp; done) | (simp [*]; done)), H', ⟨by first | omega | exact Nat.le_refl _⟩, ⟨by (with_reducible repeat (first | apply R_alloc | apply R_drewN | apply R_drew)); exact Kd.R_mono HO394.out (fun _ hk => ⟨hk.1.1.2, ⟨hk.1.2, ⟨hk.1.1.1.2, hk.2⟩⟩⟩)⟩, ⟨by (with_reducible repeat (first | apply R_alloc | apply R_drewN | apply R_drew)); exact Kd.R_mono HO399.out (fun _ hk => ⟨hk.1.1.1.2, ⟨hk.1.2, ⟨hk.1.1.2, hk.2⟩⟩⟩)⟩, ⟨by (with_reducible repeat (first | apply R_alloc | apply R_drewN | apply R_drew)); exact Kd.R_mono HO405.out (fun _ hk => ⟨hk.1.1.1.2, ⟨hk.1.1.2, ⟨hk.1.2, hk.2⟩⟩⟩)⟩, ⟨by (with_reducible repeat (first | refine blk_drewN ?_ _ | refine blk_drew ?_ | refine blk_alloc ?_ _)); exact BK396.out⟩, ⟨by (with_reducible repeat (first | refine blk_drewN ?_ _ | refine blk_drew ?_ | refine blk_alloc ?_ _)); exact BK407.out⟩, ⟨by repeat (first | (with_reducible first | exact HB.out | apply below_alloc | apply pw_below_drewN | apply below_drew1 | refine below_set ?_ GE396.out | refine below_set ?_ GE407.out) | exact HB.out)⟩⟩
    case rest =>
      clear HC8
      try clear c1
      try clear c2
      try clear p2
      try clear c3
      try clear c3b0
      try clear c5
      try clear c15
      try clear c17
      try clear c18
      try clear c21
      try clear c22
      try clear c23
      try clear c24
      try clear c31
      try clear c38
      try clear hcz13_0
      try clear hcz13_1
      try clear hcz13_2
      try clear hcz19_0
      try clear hcz19_1
      try clear hcz19_2
      try clear hcz25_0
      try clear hcz25_1
      try clear hcz25_2
      try clear hcz26_0
      try clear hcz26_1
      try clear hcz26_2
      try clear hcz32_0
      try clear hcz32_1
      try clear hcz32_2
      try clear hcz33_0
      try clear hcz33_1
      try clear hcz33_2
      try clear hcz39_0
      try clear hcz39_1
      try clear hcz39_2
      try clear hcz40_0
      try clear hcz40_1
      try clear hcz40_2
      try clear hfz13_0
      try clear hfz13_1
      try clear hfz13_2
      try clear hfz19_0
      try clear hfz19_1
      try clear hfz19_2
      try clear hfz25_0
      try clear hfz25_1
      try clear hfz25_2
      try clear hfz26_0
      try clear hfz26_1
      try clear hfz26_2
      try clear hfz32_0
      try clear hfz32_1
      try clear hfz32_2
      try clear hfz33_0
      try clear hfz33_1
      try clear hfz33_2
      try clear hfz39_0
      try clear hfz39_1
      try clear hfz39_2
      try clear hfz40_0
      try clear hfz40_1
      try clear hfz40_2
      obtain ⟨kq, x51_7, rfl, HA, HJ7, HO_5, HO_7, HO_9, BK396, BK407, HB⟩ := hcut
      cases kq with
      | zero => exact absurd HA.out (by simp [laws_FnExactShifted.j0])
      | succ kj7 =>
        have H := HA.out
        clear HA
        simp only [laws_FnExactShifted.j0] at H
        by_cases c42 : x51_7 = true
        · subst c42
          have H1 : (some false) = some r := by rw [if_pos rfl] at H; exact H
          clear H
          have H := H1
          clear H1
          obtain rfl := Option.some.inj H
          go_wp2
          go_ret
          exact ⟨by first | rfl | (simp [errW_none, errW_some] <;> rfl) | (simp [*, errW_none, errW_some] <;> rfl), by repeat (first | (with_reducible first | exact HB.out | apply below_alloc | apply pw_below_drewN | apply below_drew1 | refine below_set ?_ GE396.out | refine below_set ?_ GE407.out) | exact HB.out)⟩
        · replace c42 := Bool.eq_false_iff.mpr c42
          subst c42
          have H1 : ((laws_toTwigS.f kj7 l0).bind fun t410 => ((laws_eqTwigS.f kj7 t397 t410).bind fun t413 => (if t413 = true then ((laws_markTwigS.f kj7 t397 1).bind fun bt414 => (if bt414.1 < 0 then (laws_FnExactShifted.j1 kj7 l0 t392 t395 t403 true t389 t390 t391) else ((laws_eqTwig.f t400 t401 t402 t389 t390 t391).bind fun t416 => (if t416 = true then ((laws_eqTwigS.f kj7 t403 t392).bind fun t417 => (if t417 = true then (laws_FnExactShifted.j1 kj7 l0 t392 t395 t403 (t406 != t395) t389 t390 t391) else (laws_FnExactShifted.j1 kj7 l0 t392 t395 t403 true t389 t390 t391))) else (laws_FnExactShifted.j1 kj7 l0 t392 t395 t403 true t389 t390 t391))))) else (some false)))) = some r := by rw [if_neg (show ¬ (false = true) by decide)] at H; exact H
          clear H
          have H := H1
          clear H1
          replace H := bind_eq_some_iff.mp H
          obtain ⟨t410, A430, H⟩ := H
          replace H : ((laws_eqTwigS.f kj7 t397 t410).bind fun t413 => (if t413 = true then ((laws_markTwigS.f kj7 t397 1).bind fun bt414 => (if bt414.1 < 0 then (laws_FnExactShifted.j1 kj7 l0 t392 t395 t403 true t389 t390 t391) else ((laws_eqTwig.f t400 t401 t402 t389 t390 t391).bind fun t416 => (if t416 = true then ((laws_eqTwigS.f kj7 t403 t392).bind fun t417 => (if t417 = true then (laws_FnExactShifted.j1 kj7 l0 t392 t395 t403 (t406 != t395) t389 t390 t391) else (laws_FnExactShifted.j1 kj7 l0 t392 t395 t403 true t389 t390 t391))) else (laws_FnExactShifted.j1 kj7 l0 t392 t395 t403 true t389 t390 t391))))) else (some false))) = some r := H
          have A43 := Aside0.mk A430
          clear A430
          replace H := bind_eq_some_iff.mp H
          obtain ⟨t413, A440, H⟩ := H
          replace H : (if t413 = true then ((laws_markTwigS.f kj7 t397 1).bind fun bt414 => (if bt414.1 < 0 then (laws_FnExactShifted.j1 kj7 l0 t392 t395 t403 true t389 t390 t391) else ((laws_eqTwig.f t400 t401 t402 t389 t390 t391).bind fun t416 => (if t416 = true then ((laws_eqTwigS.f kj7 t403 t392).bind fun t417 => (if t417 = true then (laws_FnExactShifted.j1 kj7 l0 t392 t395 t403 (t406 != t395) t389 t390 t391) else (laws_FnExactShifted.j1 kj7 l0 t392 t395 t403 true t389 t390 t391))) else (laws_FnExactShifted.j1 kj7 l0 t392 t395 t403 true t389 t390 t391))))) else (some false)) = some r := H
          have A44 := Aside0.mk A440
          clear A440
          by_cases c45 : t413 = true
          · subst c45
            have H1 : ((laws_markTwigS.f kj7 t397 1).bind fun bt414 => (if bt414.1 < 0 then (laws_FnExactShifted.j1 kj7 l0 t392 t395 t403 true t389 t390 t391) else ((laws_eqTwig.f t400 t401 t402 t389 t390 t391).bind fun t416 => (if t416 = true then ((laws_eqTwigS.f kj7 t403 t392).bind fun t417 => (if t417 = true then (laws_FnExactShifted.j1 kj7 l0 t392 t395 t403 (t406 != t395) t389 t390 t391) else (laws_FnExactShifted.j1 kj7 l0 t392 t395 t403 true t389 t390 t391))) else (laws_FnExactShifted.j1 kj7 l0 t392 t395 t403 true t389 t390 t391))))) = some r := by rw [if_pos rfl] at H; exact H
            clear H
            have H := H1
            clear H1
            replace H := bind_eq_some_iff.mp H
            obtain ⟨⟨t414, t415⟩, A460, H⟩ := H
            replace H : (if t414 < 0 then (laws_FnExactShifted.j1 kj7 l0 t392 t395 t403 true t389 t390 t391) else ((laws_eqTwig.f t400 t401 t402 t389 t390 t391).bind fun t416 => (if t416 = true then ((laws_eqTwigS.f kj7 t403 t392).bind fun t417 => (if t417 = true then (laws_FnExactShifted.j1 kj7 l0 t392 t395 t403 (t406 != t395) t389 t390 t391) else (laws_FnExactShifted.j1 kj7 l0 t392 t395 t403 true t389 t390 t391))) else (laws_FnExactShifted.j1 kj7 l0 t392 t395 t403 true t389 t390 t391)))) = some r := H
            have A46 := Aside0.mk A460
            clear A460
            have HC47 := Aside0.mk H
            clear H
            go_upto_region 14 with (first | ((with_reducible refine gate_callee (f := 17) rfl ?_); refine goesL_ (some 54) rfl rfl Try.func17 (by kernel_rfl) rfl #[.slice A0 l0.length c0] rfl (by (try simp only [map_toArray, map_cons, map_nil]); first | done | rfl | (simp only [length_drop, length_take]; rfl)) ?_; (with_reducible refine (laws_toTwigS.calls kj7 _ _ l0 t410 _ ?side1 ?side2 A43.out).mono ?_); (case side1 => repeat (first | exact (C_below HR0.out HB.out) | (with_reducible refine C_alloc ?_ _) | (with_reducible refine C_drewN ?_ _) | (with_reducible refine C_drew ?_))); (case side2 => exact HC0.out); rintro e w48 ⟨v411, rfl, ho0, hb⟩; refine ⟨_, rfl, ?_⟩; have n0_ := Aside0.mk (Kd.R_elder' (by (with_reducible repeat (first | apply R_alloc | apply R_drewN | apply R_drew)); exact HO_5.out) (Kd.R_base ho0) hb); have n1_ := Aside0.mk (Kd.R_elder' (by (with_reducible repeat (first | apply R_alloc | apply R_drewN | apply R_drew)); exact HO_7.out) (Kd.R_base ho0) hb); have n2_ := Aside0.mk (Kd.R_elder' (by (with_reducible repeat (first | apply R_alloc | apply R_drewN | apply R_drew)); exact HO_9.out) (Kd.R_base ho0) hb); have n3_ := Aside0.mk (Kd.R_lower (Kd.R_newB (Kd.R_newB (Kd.R_new' (Kd.R_new' (Kd.R_new' ho0 (Kd.R_lt (by (with_reducible repeat (first | apply R_alloc | apply R_drewN | apply R_drew)); exact HO_5.out))) (Kd.R_lt (by (with_reducible repeat (first | apply R_alloc | apply R_drewN | apply R_drew)); exact HO_7.out))) (Kd.R_lt (by (with_reducible repeat (first | apply R_alloc | apply R_drewN | apply R_drew)); exact HO_9.out))) (g := gb396) (o := .cells #[.int .i64 t389, .int .i64 t390, .int .i64 t391] 31 (0, 0)) (by (with_reducible repeat (first | refine blk_drewN ?_ _ | refine blk_drew ?_ | refine blk_alloc ?_ _)); exact BK396.out)) (g := gb407) (o := .cells #[.int .i64 t400, .int .i64 t401, .int .i64 t402] 31 (0, 0)) (by (with_reducible repeat (first | refine blk_drewN ?_ _ | refine blk_drew ?_ | refine blk_alloc ?_ _)); exact BK407.out)) (below_size (by repeat (first | (with_reducible first | exact HB.out | apply below_alloc | apply pw_below_drewN | apply below_drew1 | refine below_set ?_ GE396.out | refine below_set ?_ GE407.out) | exact HB.out)))); have n4_ := Aside0.mk (blk_below (g := gb396) (o := .cells #[.int .i64 t389, .int .i64 t390, .int .i64 t391] 31 (0, 0)) (by (with_reducible repeat (first | refine blk_drewN ?_ _ | refine blk_drew ?_ | refine blk_alloc ?_ _)); exact BK396.out) hb); have n5_ := Aside0.mk (blk_below (g := gb407) (o := .cells #[.int .i64 t400, .int .i64 t401, .int .i64 t402] 31 (0, 0)) (by (with_reducible repeat (first | refine blk_drewN ?_ _ | refine blk_drew ?_ | refine blk_alloc ?_ _)); exact BK407.out) hb); have n6_ := Aside0.mk (below_step (by repeat (first | (with_reducible first | exact HB.out | apply below_alloc | apply pw_below_drewN | apply below_drew1 | refine below_set ?_ GE396.out | refine below_set ?_ GE407.out) | exact HB.out)) hb); clear HO_5; clear HO_7; clear HO_9; clear BK396; clear BK407; clear HB; have HO_5 := n0_; have HO_7 := n1_; have HO_9 := n2_; have HO412 := n3_; have BK396 := n4_; have BK407 := n5_; have HB := n6_; clear n0_ n1_ n2_ n3_ n4_ n5_ n6_; (try clear hb); (try clear hb2); (try clear hk); (try clear hi); (try clear ho0); obtain ⟨Ao49, co49, eo49⟩ := Kd.R_slice HO412.out; subst eo49) | ((with_reducible refine gate_callee (f := 19) rfl ?_); refine goesL_ (some 55) rfl rfl Try.func19 (by kernel_rfl) rfl #[.slice Ao15 t397.length co15, .slice Ao49 t410.length co49] rfl (by (try simp only [map_toArray, map_cons, map_nil]); first | done | rfl | (simp only [length_drop, length_take]; rfl)) ?_; (with_reducible refine (laws_eqTwigS.calls kj7 _ _ t397 _ _ t410 true _ ?side1 ?side2 ?side3 ?side4 A44.out).mono ?_); (case side1 => repeat (first | exact (R_reads' HO_7.out).2.2 | (with_reducible refine C_alloc ?_ _) | (with_reducible refine C_drewN ?_ _) | (with_reducible refine C_drew ?_))); (case side2 => exact (R_reads' HO_7.out).2.1); (case side3 => repeat (first | exact (R_reads' HO412.out).2.2 | (with_reducible refine C_alloc ?_ _) | (with_reducible refine C_drewN ?_ _) | (with_reducible refine C_drew ?_))); (case side4 => exact (R_reads' HO412.out).2.1); rintro e w50 ⟨rfl, hb⟩; refine ⟨_, rfl, ?_⟩; have n0_ := Aside0.mk (R_below (by (with_reducible repeat (first | apply R_alloc | apply R_drewN | apply R_drew)); exact HO_5.out) hb); have n1_ := Aside0.mk (R_below (by (with_reducible repeat (first | apply R_alloc | apply R_drewN | apply R_drew)); exact HO_7.out) hb); have n2_ := Aside0.mk (R_below (by (with_reducible repeat (first | apply R_alloc | apply R_drewN | apply R_drew)); exact HO_9.out) hb); have n3_ := Aside0.mk (R_below (by (with_reducible repeat (first | apply R_alloc | apply R_drewN | apply R_drew)); exact HO412.out) hb); have n4_ := Aside0.mk (blk_below (g := gb396) (o := .cells #[.int .i64 t389, .int .i64 t390, .int .i64 t391] 31 (0, 0)) (by (with_reducible repeat (first | refine blk_drewN ?_ _ | refine blk_drew ?_ | refine blk_alloc ?_ _)); exact BK396.out) hb); have n5_ := Aside0.mk (blk_below (g := gb407) (o := .cells #[.int .i64 t400, .int .i64 t401, .int .i64 t402] 31 (0, 0)) (by (with_reducible repeat (first | refine blk_drewN ?_ _ | refine blk_drew ?_ | refine blk_alloc ?_ _)); exact BK407.out) hb); have n6_ := Aside0.mk (below_step (by repeat (first | (with_reducible first | exact HB.out | apply below_alloc | apply pw_below_drewN | apply below_drew1 | refine below_set ?_ GE396.out | refine below_set ?_ GE407.out) | exact HB.out)) hb); clear HO_5; clear HO_7; clear HO_9; clear HO412; clear BK396; clear BK407; clear HB; have HO_5 := n0_; have HO_7 := n1_; have HO_9 := n2_; have HO412 := n3_; have BK396 := n4_; have BK407 := n5_; have HB := n6_; clear n0_ n1_ n2_ n3_ n4_ n5_ n6_; (try clear hb); (try clear hb2); (try clear hk); (try clear hi)) | ((with_reducible refine gate_callee (f := 25) rfl ?_); refine goesL_ (some 59) rfl rfl Try.func25 (by kernel_rfl) rfl #[.slice Ao15 t397.length co15, .int .i64 1] rfl (by (try simp only [map_toArray, map_cons, map_nil]); first | done | rfl | (simp only [length_drop, length_take]; rfl)) ?_; (with_reducible refine (laws_markTwigS.calls kj7 (fun k_ => some k_ = (.slice Ao15 t397.length co15 : Value).ownBlock) (.slice Ao15 t397.length co15) t397 1 t414 t415 w _ ?side1 ?side2 A46.out).mono ?_); (case side1 => repeat (first | (with_reducible first | exact HB.out | apply below_alloc | apply pw_below_drewN | apply below_drew1 | refine below_set ?_ GE396.out | refine below_set ?_ GE407.out) | exact HB.out)); (case side2 => exact Kd.R_tight rfl HO_7.out); rintro e w51 ⟨rfl, hy0, hb, hkp⟩; refine ⟨_, rfl, ?_⟩; have n0_ := Aside0.mk (Kd.R_mono (ok' := fun k_ => some k_ ≠ (.slice Ao15 t397.length co15 : Value).ownBlock ∧ some k_ ≠ (v404 : Value).ownBlock ∧ some k_ ≠ (.slice Ao49 t410.length co49 : Value).ownBlock ∧ k_ ≠ gb396 ∧ k_ ≠ gb407) (Kd.R_keptB (HO_5.out) hkp (fun k_ hk_ hs_ => (hk_.1.1) hs_)) (fun k_ hk_ => ⟨hk_.1.1.1, hk_.1.1.2.1, hk_.1.2, hk_.1.1.2.2.1, hk_.1.1.2.2.2⟩)); have n1_ := Aside0.mk (Kd.R_reok rfl hy0 (fun k_ e_ => HO_7.out.1 k_ e_)); have n2_ := Aside0.mk (Kd.R_mono (ok' := fun k_ => some k_ ≠ (v393 : Value).ownBlock ∧ some k_ ≠ (.slice Ao15 t397.length co15 : Value).ownBlock ∧ some k_ ≠ (.slice Ao49 t410.length co49 : Value).ownBlock ∧ k_ ≠ gb396 ∧ k_ ≠ gb407) (Kd.R_keptB (HO_9.out) hkp (fun k_ hk_ hs_ => (hk_.1.2.1) hs_)) (fun k_ hk_ => ⟨hk_.1.1.1, hk_.1.1.2.1, hk_.1.2, hk_.1.1.2.2.1, hk_.1.1.2.2.2⟩)); have n3_ := Aside0.mk (blk_kept (by (with_reducible repeat (first | refine blk_drewN ?_ _ | refine blk_drew ?_ | refine blk_alloc ?_ _)); exact BK396.out) hkp (fun hs_ => (fun e_ => (Kd.R_away HO_7.out (fun _ hk => hk.1.2.2.1)) e_) hs_)); have n4_ := Aside0.mk (blk_kept (by (with_reducible repeat (first | refine blk_drewN ?_ _ | refine blk_drew ?_ | refine blk_alloc ?_ _)); exact BK407.out) hkp (fun hs_ => (fun e_ => (Kd.R_away HO_7.out (fun _ hk => hk.1.2.2.2)) e_) hs_)); have n5_ := Aside0.mk (Kd.R_mono (ok' := fun k_ => some k_ ≠ (v393 : Value).ownBlock ∧ some k_ ≠ (.slice Ao15 t397.length co15 : Value).ownBlock ∧ some k_ ≠ (v404 : Value).ownBlock ∧ k_ ≠ gb396 ∧ k_ ≠ gb407) (Kd.R_keptB (HO412.out) hkp (fun k_ hk_ hs_ => (hk_.1.1.1.2) hs_)) (fun k_ hk_ => ⟨hk_.1.1.1.1.1.2, hk_.1.1.1.1.2, hk_.1.1.1.2, hk_.1.1.2, hk_.1.2⟩)); have n6_ := Aside0.mk (hb); clear HO_5; clear HO_7; clear HO_9; clear BK396; clear BK407; clear HO412; clear HB; have HO_5 := n0_; have HO_7 := n1_; have HO_9 := n2_; have BK396 := n3_; have BK407 := n4_; have HO412 := n5_; have HB := n6_; clear n0_ n1_ n2_ n3_ n4_ n5_ n6_; (try clear hb); (try clear hkp); (try clear hy0)))
            (try simp only [Act.put, setIfInBounds_toArray, set_cons_zero, set_cons_succ])
            go_cut [78] (fun v78 wc => ∃ (kq : Nat) (x78_46 : Bool), v78 = .bool x78_46 ∧ Aside0 (laws_FnExactShifted.j1 kq l0 t392 t395 t403 x78_46 t389 t390 t391 = some r) ∧ Aside0 (kq ≤ kj7) ∧ Aside0 (Kd.R k31 31 wc w.heap.size (fun k_ => some k_ ≠ (v404 : Value).ownBlock ∧ k_ ≠ gb396 ∧ k_ ≠ gb407) v393 t392) ∧ Aside0 (Kd.R k31 31 wc w.heap.size (fun k_ => some k_ ≠ (v393 : Value).ownBlock ∧ k_ ≠ gb396 ∧ k_ ≠ gb407) v404 t403) ∧ Aside0 (wc.heap[gb396]? = some (.cells #[.int .i64 t389, .int .i64 t390, .int .i64 t391] 31 (0, 0))) ∧ Aside0 (wc.heap[gb407]? = some (.cells #[.int .i64 t400, .int .i64 t401, .int .i64 t402] 31 (0, 0))) ∧ Aside0 (Below w.heap.size w wc))
            case first =>
              have H := HC47.out
              clear HC47
              by_cases c52 : t414 < 0
              · rw [if_pos c52] at H
                have c52b0 : decide (t414 < 0) = true := decide_eq_true c52
                clear c52
                (first | rw [c52b0] | (simp only [i64_w, i32_w]; rw [c52b0]) | skip)
                have H' := Aside0.mk H
                clear H
                go_wp2
                go_meet
                case rel => exact ⟨_, (true), (by first | rfl | (simp; done) | (simp [*]; done)), H', ⟨by have := HJ7.out; first | omega | exact Nat.le_refl _⟩, ⟨by (with_reducible repeat (first | apply R_alloc | apply R_drewN | apply R_drew)); exact Kd.R_mono HO_5.out (fun _ hk => ⟨hk.2.1, ⟨hk.2.2.2.1, hk.2.2.2.2⟩⟩)⟩, ⟨by (with_reducible repeat (first | apply R_alloc | apply R_drewN | apply R_drew)); exact Kd.R_mono HO_9.out (fun _ hk => ⟨hk.1, ⟨hk.2.2.2.1, hk.2.2.2.2⟩⟩)⟩, ⟨by (with_reducible repeat (first | refine blk_drewN ?_ _ | refine blk_drew ?_ | refine blk_alloc ?_ _)); exact BK396.out⟩, ⟨by (with_reducible repeat (first | refine blk_drewN ?_ _ | refine blk_drew ?_ | refine blk_alloc ?_ _)); exact BK407.out⟩, ⟨by repeat (first | (with_reducible first | exact HB.out | apply below_alloc | apply pw_below_drewN | apply below_drew1 | refine below_set ?_ GE396.out | refine below_set ?_ GE407.out) | exact HB.out)⟩⟩
              · rw [if_neg c52] at H
                have c52b0 : decide (t414 < 0) = false := decide_eq_false c52
                clear c52
                (first | rw [c52b0] | (simp only [i64_w, i32_w]; rw [c52b0]) | skip)
                replace H := bind_eq_some_iff.mp H
                obtain ⟨t416, A530, H⟩ := H
                replace H : (if t416 = true then ((laws_eqTwigS.f kj7 t403 t392).bind fun t417 => (if t417 = true then (laws_FnExactShifted.j1 kj7 l0 t392 t395 t403 (t406 != t395) t389 t390 t391) else (laws_FnExactShifted.j1 kj7 l0 t392 t395 t403 true t389 t390 t391))) else (laws_FnExactShifted.j1 kj7 l0 t392 t395 t403 true t389 t390 t391)) = some r := H
                have A53 := Aside0.mk A530
                clear A530
                by_cases c54 : t416 = true
                · subst c54
                  have H1 : ((laws_eqTwigS.f kj7 t403 t392).bind fun t417 => (if t417 = true then (laws_FnExactShifted.j1 kj7 l0 t392 t395 t403 (t406 != t395) t389 t390 t391) else (laws_FnExactShifted.j1 kj7 l0 t392 t395 t403 true t389 t390 t391))) = some r := by rw [if_pos rfl] at H; exact H
                  clear H
                  have H := H1
                  clear H1
                  replace H := bind_eq_some_iff.mp H
                  obtain ⟨t417, A550, H⟩ := H
                  replace H : (if t417 = true then (laws_FnExactShifted.j1 kj7 l0 t392 t395 t403 (t406 != t395) t389 t390 t391) else (laws_FnExactShifted.j1 kj7 l0 t392 t395 t403 true t389 t390 t391)) = some r := H
                  have A55 := Aside0.mk A550
                  clear A550
                  by_cases c56 : t417 = true
                  · subst c56
                    have H1 : (laws_FnExactShifted.j1 kj7 l0 t392 t395 t403 (t406 != t395) t389 t390 t391) = some r := by rw [if_pos rfl] at H; exact H
                    clear H
                    have H := H1
                    clear H1
                    have H' := Aside0.mk H
                    clear H
                    have hnb57 := NB407_396.out
                    have hnc57 := NB396_407.out
                    have hcz58_0 : w51.cell? ⟨gb407, 0, none⟩ = some (.int .i64 t400) := (blk_cell BK407.out 0).trans rfl
                    have hcz58_1 : w51.cell? ⟨gb407, 1, none⟩ = some (.int .i64 t401) := (blk_cell BK407.out 1).trans rfl
                    have hcz58_2 : w51.cell? ⟨gb407, 2, none⟩ = some (.int .i64 t402) := (blk_cell BK407.out 2).trans rfl
                    have hfz58_0 := blk_frozen BK407.out 0
                    have hfz58_1 := blk_frozen BK407.out 1
                    have hfz58_2 := blk_frozen BK407.out 2
                    have hcz59_0 : w51.cell? ⟨gb396, 0, none⟩ = some (.int .i64 t389) := (blk_cell BK396.out 0).trans rfl
                    have hcz59_1 : w51.cell? ⟨gb396, 1, none⟩ = some (.int .i64 t390) := (blk_cell BK396.out 1).trans rfl
                    have hcz59_2 : w51.cell? ⟨gb396, 2, none⟩ = some (.int .i64 t391) := (blk_cell BK396.out 2).trans rfl
                    have hfz59_0 := blk_frozen BK396.out 0
                    have hfz59_1 := blk_frozen BK396.out 1
                    have hfz59_2 := blk_frozen BK396.out 2
                    go_wp2_with (first | (go_at_call 24; (with_reducible refine (laws_eqTwig.calls t400 t401 t402 t389 t390 t391 true _ A53.out).mono ?_); rintro e w60 ⟨rfl, hb⟩; have n0_ := Aside0.mk (R_below (by (with_reducible repeat (first | apply R_alloc | apply R_drewN | apply R_drew)); exact HO_5.out) hb); have n1_ := Aside0.mk (R_below (by (with_reducible repeat (first | apply R_alloc | apply R_drewN | apply R_drew)); exact HO_7.out) hb); have n2_ := Aside0.mk (R_below (by (with_reducible repeat (first | apply R_alloc | apply R_drewN | apply R_drew)); exact HO_9.out) hb); have n3_ := Aside0.mk (R_below (by (with_reducible repeat (first | apply R_alloc | apply R_drewN | apply R_drew)); exact HO412.out) hb); have n4_ := Aside0.mk (blk_below (g := gb396) (o := .cells #[.int .i64 t389, .int .i64 t390, .int .i64 t391] 31 (0, 0)) (by (with_reducible repeat (first | refine blk_drewN ?_ _ | refine blk_drew ?_ | refine blk_alloc ?_ _)); exact BK396.out) hb); have n5_ := Aside0.mk (blk_below (g := gb407) (o := .cells #[.int .i64 t400, .int .i64 t401, .int .i64 t402] 31 (0, 0)) (by (with_reducible repeat (first | refine blk_drewN ?_ _ | refine blk_drew ?_ | refine blk_alloc ?_ _)); exact BK407.out) hb); have n6_ := Aside0.mk (below_step (by repeat (first | (with_reducible first | exact HB.out | apply below_alloc | apply pw_below_drewN | apply below_drew1 | refine below_set ?_ GE396.out | refine below_set ?_ GE407.out) | exact HB.out)) hb); clear HO_5; clear HO_7; clear HO_9; clear HO412; clear BK396; clear BK407; clear HB; have HO_5 := n0_; have HO_7 := n1_; have HO_9 := n2_; have HO412 := n3_; have BK396 := n4_; have BK407 := n5_; have HB := n6_; clear n0_ n1_ n2_ n3_ n4_ n5_ n6_; (try clear hb); (try clear hb2); (try clear hk); (try clear hi); obtain ⟨Ao61, co61, eo61⟩ := Kd.R_slice HO_9.out; subst eo61; obtain ⟨Ao62, co62, eo62⟩ := Kd.R_slice HO_5.out; subst eo62) | (go_at_call 19; (with_reducible refine (laws_eqTwigS.calls kj7 _ _ t403 _ _ t392 true _ ?side1 ?side2 ?side3 ?side4 A55.out).mono ?_); (case side1 => repeat (first | exact (R_reads' HO_9.out).2.2 | (with_reducible refine C_alloc ?_ _) | (with_reducible refine C_drewN ?_ _) | (with_reducible refine C_drew ?_))); (case side2 => exact (R_reads' HO_9.out).2.1); (case side3 => repeat (first | exact (R_reads' HO_5.out).2.2 | (with_reducible refine C_alloc ?_ _) | (with_reducible refine C_drewN ?_ _) | (with_reducible refine C_drew ?_))); (case side4 => exact (R_reads' HO_5.out).2.1); rintro e w63 ⟨rfl, hb⟩; have n0_ := Aside0.mk (R_below (by (with_reducible repeat (first | apply R_alloc | apply R_drewN | apply R_drew)); exact HO_5.out) hb); have n1_ := Aside0.mk (R_below (by (with_reducible repeat (first | apply R_alloc | apply R_drewN | apply R_drew)); exact HO_7.out) hb); have n2_ := Aside0.mk (R_below (by (with_reducible repeat (first | apply R_alloc | apply R_drewN | apply R_drew)); exact HO_9.out) hb); have n3_ := Aside0.mk (R_below (by (with_reducible repeat (first | apply R_alloc | apply R_drewN | apply R_drew)); exact HO412.out) hb); have n4_ := Aside0.mk (blk_below (g := gb396) (o := .cells #[.int .i64 t389, .int .i64 t390, .int .i64 t391] 31 (0, 0)) (by (with_reducible repeat (first | refine blk_drewN ?_ _ | refine blk_drew ?_ | refine blk_alloc ?_ _)); exact BK396.out) hb); have n5_ := Aside0.mk (blk_below (g := gb407) (o := .cells #[.int .i64 t400, .int .i64 t401, .int .i64 t402] 31 (0, 0)) (by (with_reducible repeat (first | refine blk_drewN ?_ _ | refine blk_drew ?_ | refine blk_alloc ?_ _)); exact BK407.out) hb); have n6_ := Aside0.mk (below_step (by repeat (first | (with_reducible first | exact HB.out | apply below_alloc | apply pw_below_drewN | apply below_drew1 | refine below_set ?_ GE396.out | refine below_set ?_ GE407.out) | exact HB.out)) hb); clear HO_5; clear HO_7; clear HO_9; clear HO412; clear BK396; clear BK407; clear HB; have HO_5 := n0_; have HO_7 := n1_; have HO_9 := n2_; have HO412 := n3_; have BK396 := n4_; have BK407 := n5_; have HB := n6_; clear n0_ n1_ n2_ n3_ n4_ n5_ n6_; (try clear hb); (try clear hb2); (try clear hk); (try clear hi)))
                    go_meet
                    case rel => exact ⟨_, ((t406 != t395)), (by first | rfl | (simp; done) | (simp [*]; done)), H', ⟨by have := HJ7.out; first | omega | exact Nat.le_refl _⟩, ⟨by (with_reducible repeat (first | apply R_alloc | apply R_drewN | apply R_drew)); exact Kd.R_mono HO_5.out (fun _ hk => ⟨hk.2.1, ⟨hk.2.2.2.1, hk.2.2.2.2⟩⟩)⟩, ⟨by (with_reducible repeat (first | apply R_alloc | apply R_drewN | apply R_drew)); exact Kd.R_mono HO_9.out (fun _ hk => ⟨hk.1, ⟨hk.2.2.2.1, hk.2.2.2.2⟩⟩)⟩, ⟨by (with_reducible repeat (first | refine blk_drewN ?_ _ | refine blk_drew ?_ | refine blk_alloc ?_ _)); exact BK396.out⟩, ⟨by (with_reducible repeat (first | refine blk_drewN ?_ _ | refine blk_drew ?_ | refine blk_alloc ?_ _)); exact BK407.out⟩, ⟨by repeat (first | (with_reducible first | exact HB.out | apply below_alloc | apply pw_below_drewN | apply below_drew1 | refine below_set ?_ GE396.out | refine below_set ?_ GE407.out) | exact HB.out)⟩⟩
                  · replace c56 := Bool.eq_false_iff.mpr c56
                    subst c56
                    have H1 : (laws_FnExactShifted.j1 kj7 l0 t392 t395 t403 true t389 t390 t391) = some r := by rw [if_neg (show ¬ (false = true) by decide)] at H; exact H
                    clear H
                    have H := H1
                    clear H1
                    have H' := Aside0.mk H
                    clear H
                    have hnb64 := NB407_396.out
                    have hnc64 := NB396_407.out
                    have hcz65_0 : w51.cell? ⟨gb407, 0, none⟩ = some (.int .i64 t400) := (blk_cell BK407.out 0).trans rfl
                    have hcz65_1 : w51.cell? ⟨gb407, 1, none⟩ = some (.int .i64 t401) := (blk_cell BK407.out 1).trans rfl
                    have hcz65_2 : w51.cell? ⟨gb407, 2, none⟩ = some (.int .i64 t402) := (blk_cell BK407.out 2).trans rfl
                    have hfz65_0 := blk_frozen BK407.out 0
                    have hfz65_1 := blk_frozen BK407.out 1
                    have hfz65_2 := blk_frozen BK407.out 2
                    have hcz66_0 : w51.cell? ⟨gb396, 0, none⟩ = some (.int .i64 t389) := (blk_cell BK396.out 0).trans rfl
                    have hcz66_1 : w51.cell? ⟨gb396, 1, none⟩ = some (.int .i64 t390) := (blk_cell BK396.out 1).trans rfl
                    have hcz66_2 : w51.cell? ⟨gb396, 2, none⟩ = some (.int .i64 t391) := (blk_cell BK396.out 2).trans rfl
                    have hfz66_0 := blk_frozen BK396.out 0
                    have hfz66_1 := blk_frozen BK396.out 1
                    have hfz66_2 := blk_frozen BK396.out 2
                    go_wp2_with (first | (go_at_call 24; (with_reducible refine (laws_eqTwig.calls t400 t401 t402 t389 t390 t391 true _ A53.out).mono ?_); rintro e w67 ⟨rfl, hb⟩; have n0_ := Aside0.mk (R_below (by (with_reducible repeat (first | apply R_alloc | apply R_drewN | apply R_drew)); exact HO_5.out) hb); have n1_ := Aside0.mk (R_below (by (with_reducible repeat (first | apply R_alloc | apply R_drewN | apply R_drew)); exact HO_7.out) hb); have n2_ := Aside0.mk (R_below (by (with_reducible repeat (first | apply R_alloc | apply R_drewN | apply R_drew)); exact HO_9.out) hb); have n3_ := Aside0.mk (R_below (by (with_reducible repeat (first | apply R_alloc | apply R_drewN | apply R_drew)); exact HO412.out) hb); have n4_ := Aside0.mk (blk_below (g := gb396) (o := .cells #[.int .i64 t389, .int .i64 t390, .int .i64 t391] 31 (0, 0)) (by (with_reducible repeat (first | refine blk_drewN ?_ _ | refine blk_drew ?_ | refine blk_alloc ?_ _)); exact BK396.out) hb); have n5_ := Aside0.mk (blk_below (g := gb407) (o := .cells #[.int .i64 t400, .int .i64 t401, .int .i64 t402] 31 (0, 0)) (by (with_reducible repeat (first | refine blk_drewN ?_ _ | refine blk_drew ?_ | refine blk_alloc ?_ _)); exact BK407.out) hb); have n6_ := Aside0.mk (below_step (by repeat (first | (with_reducible first | exact HB.out | apply below_alloc | apply pw_below_drewN | apply below_drew1 | refine below_set ?_ GE396.out | refine below_set ?_ GE407.out) | exact HB.out)) hb); clear HO_5; clear HO_7; clear HO_9; clear HO412; clear BK396; clear BK407; clear HB; have HO_5 := n0_; have HO_7 := n1_; have HO_9 := n2_; have HO412 := n3_; have BK396 := n4_; have BK407 := n5_; have HB := n6_; clear n0_ n1_ n2_ n3_ n4_ n5_ n6_; (try clear hb); (try clear hb2); (try clear hk); (try clear hi); obtain ⟨Ao68, co68, eo68⟩ := Kd.R_slice HO_9.out; subst eo68; obtain ⟨Ao69, co69, eo69⟩ := Kd.R_slice HO_5.out; subst eo69) | (go_at_call 19; (with_reducible refine (laws_eqTwigS.calls kj7 _ _ t403 _ _ t392 false _ ?side1 ?side2 ?side3 ?side4 A55.out).mono ?_); (case side1 => repeat (first | exact (R_reads' HO_9.out).2.2 | (with_reducible refine C_alloc ?_ _) | (with_reducible refine C_drewN ?_ _) | (with_reducible refine C_drew ?_))); (case side2 => exact (R_reads' HO_9.out).2.1); (case side3 => repeat (first | exact (R_reads' HO_5.out).2.2 | (with_reducible refine C_alloc ?_ _) | (with_reducible refine C_drewN ?_ _) | (with_reducible refine C_drew ?_))); (case side4 => exact (R_reads' HO_5.out).2.1); rintro e w70 ⟨rfl, hb⟩; have n0_ := Aside0.mk (R_below (by (with_reducible repeat (first | apply R_alloc | apply R_drewN | apply R_drew)); exact HO_5.out) hb); have n1_ := Aside0.mk (R_below (by (with_reducible repeat (first | apply R_alloc | apply R_drewN | apply R_drew)); exact HO_7.out) hb); have n2_ := Aside0.mk (R_below (by (with_reducible repeat (first | apply R_alloc | apply R_drewN | apply R_drew)); exact HO_9.out) hb); have n3_ := Aside0.mk (R_below (by (with_reducible repeat (first | apply R_alloc | apply R_drewN | apply R_drew)); exact HO412.out) hb); have n4_ := Aside0.mk (blk_below (g := gb396) (o := .cells #[.int .i64 t389, .int .i64 t390, .int .i64 t391] 31 (0, 0)) (by (with_reducible repeat (first | refine blk_drewN ?_ _ | refine blk_drew ?_ | refine blk_alloc ?_ _)); exact BK396.out) hb); have n5_ := Aside0.mk (blk_below (g := gb407) (o := .cells #[.int .i64 t400, .int .i64 t401, .int .i64 t402] 31 (0, 0)) (by (with_reducible repeat (first | refine blk_drewN ?_ _ | refine blk_drew ?_ | refine blk_alloc ?_ _)); exact BK407.out) hb); have n6_ := Aside0.mk (below_step (by repeat (first | (with_reducible first | exact HB.out | apply below_alloc | apply pw_below_drewN | apply below_drew1 | refine below_set ?_ GE396.out | refine below_set ?_ GE407.out) | exact HB.out)) hb); clear HO_5; clear HO_7; clear HO_9; clear HO412; clear BK396; clear BK407; clear HB; have HO_5 := n0_; have HO_7 := n1_; have HO_9 := n2_; have HO412 := n3_; have BK396 := n4_; have BK407 := n5_; have HB := n6_; clear n0_ n1_ n2_ n3_ n4_ n5_ n6_; (try clear hb); (try clear hb2); (try clear hk); (try clear hi)))
                    go_meet
                    case rel => exact ⟨_, (true), (by first | rfl | (simp; done) | (simp [*]; done)), H', ⟨by have := HJ7.out; first | omega | exact Nat.le_refl _⟩, ⟨by (with_reducible repeat (first | apply R_alloc | apply R_drewN | apply R_drew)); exact Kd.R_mono HO_5.out (fun _ hk => ⟨hk.2.1, ⟨hk.2.2.2.1, hk.2.2.2.2⟩⟩)⟩, ⟨by (with_reducible repeat (first | apply R_alloc | apply R_drewN | apply R_drew)); exact Kd.R_mono HO_9.out (fun _ hk => ⟨hk.1, ⟨hk.2.2.2.1, hk.2.2.2.2⟩⟩)⟩, ⟨by (with_reducible repeat (first | refine blk_drewN ?_ _ | refine blk_drew ?_ | refine blk_alloc ?_ _)); exact BK396.out⟩, ⟨by (with_reducible repeat (first | refine blk_drewN ?_ _ | refine blk_drew ?_ | refine blk_alloc ?_ _)); exact BK407.out⟩, ⟨by repeat (first | (with_reducible first | exact HB.out | apply below_alloc | apply pw_below_drewN | apply below_drew1 | refine below_set ?_ GE396.out | refine below_set ?_ GE407.out) | exact HB.out)⟩⟩
                · replace c54 := Bool.eq_false_iff.mpr c54
                  subst c54
                  have H1 : (laws_FnExactShifted.j1 kj7 l0 t392 t395 t403 true t389 t390 t391) = some r := by rw [if_neg (show ¬ (false = true) by decide)] at H; exact H
                  clear H
                  have H := H1
                  clear H1
                  have H' := Aside0.mk H
                  clear H
                  have hnb71 := NB407_396.out
                  have hnc71 := NB396_407.out
                  have hcz72_0 : w51.cell? ⟨gb407, 0, none⟩ = some (.int .i64 t400) := (blk_cell BK407.out 0).trans rfl
                  have hcz72_1 : w51.cell? ⟨gb407, 1, none⟩ = some (.int .i64 t401) := (blk_cell BK407.out 1).trans rfl
                  have hcz72_2 : w51.cell? ⟨gb407, 2, none⟩ = some (.int .i64 t402) := (blk_cell BK407.out 2).trans rfl
                  have hfz72_0 := blk_frozen BK407.out 0
                  have hfz72_1 := blk_frozen BK407.out 1
                  have hfz72_2 := blk_frozen BK407.out 2
                  have hcz73_0 : w51.cell? ⟨gb396, 0, none⟩ = some (.int .i64 t389) := (blk_cell BK396.out 0).trans rfl
                  have hcz73_1 : w51.cell? ⟨gb396, 1, none⟩ = some (.int .i64 t390) := (blk_cell BK396.out 1).trans rfl
                  have hcz73_2 : w51.cell? ⟨gb396, 2, none⟩ = some (.int .i64 t391) := (blk_cell BK396.out 2).trans rfl
                  have hfz73_0 := blk_frozen BK396.out 0
                  have hfz73_1 := blk_frozen BK396.out 1
                  have hfz73_2 := blk_frozen BK396.out 2
                  go_wp2_with (first | (go_at_call 24; (with_reducible refine (laws_eqTwig.calls t400 t401 t402 t389 t390 t391 false _ A53.out).mono ?_); rintro e w74 ⟨rfl, hb⟩; have n0_ := Aside0.mk (R_below (by (with_reducible repeat (first | apply R_alloc | apply R_drewN | apply R_drew)); exact HO_5.out) hb); have n1_ := Aside0.mk (R_below (by (with_reducible repeat (first | apply R_alloc | apply R_drewN | apply R_drew)); exact HO_7.out) hb); have n2_ := Aside0.mk (R_below (by (with_reducible repeat (first | apply R_alloc | apply R_drewN | apply R_drew)); exact HO_9.out) hb); have n3_ := Aside0.mk (R_below (by (with_reducible repeat (first | apply R_alloc | apply R_drewN | apply R_drew)); exact HO412.out) hb); have n4_ := Aside0.mk (blk_below (g := gb396) (o := .cells #[.int .i64 t389, .int .i64 t390, .int .i64 t391] 31 (0, 0)) (by (with_reducible repeat (first | refine blk_drewN ?_ _ | refine blk_drew ?_ | refine blk_alloc ?_ _)); exact BK396.out) hb); have n5_ := Aside0.mk (blk_below (g := gb407) (o := .cells #[.int .i64 t400, .int .i64 t401, .int .i64 t402] 31 (0, 0)) (by (with_reducible repeat (first | refine blk_drewN ?_ _ | refine blk_drew ?_ | refine blk_alloc ?_ _)); exact BK407.out) hb); have n6_ := Aside0.mk (below_step (by repeat (first | (with_reducible first | exact HB.out | apply below_alloc | apply pw_below_drewN | apply below_drew1 | refine below_set ?_ GE396.out | refine below_set ?_ GE407.out) | exact HB.out)) hb); clear HO_5; clear HO_7; clear HO_9; clear HO412; clear BK396; clear BK407; clear HB; have HO_5 := n0_; have HO_7 := n1_; have HO_9 := n2_; have HO412 := n3_; have BK396 := n4_; have BK407 := n5_; have HB := n6_; clear n0_ n1_ n2_ n3_ n4_ n5_ n6_; (try clear hb); (try clear hb2); (try clear hk); (try clear hi)))
                  go_meet
                  case rel => exact ⟨_, (true), (by first | rfl | (simp; done) | (simp [*]; done)), H', ⟨by have := HJ7.out; first | omega | exact Nat.le_refl _⟩, ⟨by (with_reducible repeat (first | apply R_alloc | apply R_drewN | apply R_drew)); exact Kd.R_mono HO_5.out (fun _ hk => ⟨hk.2.1, ⟨hk.2.2.2.1, hk.2.2.2.2⟩⟩)⟩, ⟨by (with_reducible repeat (first | apply R_alloc | apply R_drewN | apply R_drew)); exact Kd.R_mono HO_9.out (fun _ hk => ⟨hk.1, ⟨hk.2.2.2.1, hk.2.2.2.2⟩⟩)⟩, ⟨by (with_reducible repeat (first | refine blk_drewN ?_ _ | refine blk_drew ?_ | refine blk_alloc ?_ _)); exact BK396.out⟩, ⟨by (with_reducible repeat (first | refine blk_drewN ?_ _ | refine blk_drew ?_ | refine blk_alloc ?_ _)); exact BK407.out⟩, ⟨by repeat (first | (with_reducible first | exact HB.out | apply below_alloc | apply pw_below_drewN | apply below_drew1 | refine below_set ?_ GE396.out | refine below_set ?_ GE407.out) | exact HB.out)⟩⟩
            case rest =>
              clear HC47
              try clear c1
              try clear c2
              try clear p2
              try clear c3
              try clear c3b0
              try clear c4
              try clear c5
              try clear c6
              try clear c7
              try clear c15
              try clear c17
              try clear c18
              try clear c19
              try clear c21
              try clear c22
              try clear c23
              try clear c24
              try clear c25
              try clear c31
              try clear c38
              try clear c42
              try clear c45
              try clear c52
              try clear c52b0
              try clear c54
              try clear c56
              try clear c57
              try clear c64
              try clear c71
              try clear hcz13_0
              try clear hcz13_1
              try clear hcz13_2
              try clear hcz19_0
              try clear hcz19_1
              try clear hcz19_2
              try clear hcz25_0
              try clear hcz25_1
              try clear hcz25_2
              try clear hcz26_0
              try clear hcz26_1
              try clear hcz26_2
              try clear hcz32_0
              try clear hcz32_1
              try clear hcz32_2
              try clear hcz33_0
              try clear hcz33_1
              try clear hcz33_2
              try clear hcz39_0
              try clear hcz39_1
              try clear hcz39_2
              try clear hcz40_0
              try clear hcz40_1
              try clear hcz40_2
              try clear hcz58_0
              try clear hcz58_1
              try clear hcz58_2
              try clear hcz59_0
              try clear hcz59_1
              try clear hcz59_2
              try clear hcz65_0
              try clear hcz65_1
              try clear hcz65_2
              try clear hcz66_0
              try clear hcz66_1
              try clear hcz66_2
              try clear hcz72_0
              try clear hcz72_1
              try clear hcz72_2
              try clear hcz73_0
              try clear hcz73_1
              try clear hcz73_2
              try clear hfz13_0
              try clear hfz13_1
              try clear hfz13_2
              try clear hfz19_0
              try clear hfz19_1
              try clear hfz19_2
              try clear hfz25_0
              try clear hfz25_1
              try clear hfz25_2
              try clear hfz26_0
              try clear hfz26_1
              try clear hfz26_2
              try clear hfz32_0
              try clear hfz32_1
              try clear hfz32_2
              try clear hfz33_0
              try clear hfz33_1
              try clear hfz33_2
              try clear hfz39_0
              try clear hfz39_1
              try clear hfz39_2
              try clear hfz40_0
              try clear hfz40_1
              try clear hfz40_2
              try clear hfz58_0
              try clear hfz58_1
              try clear hfz58_2
              try clear hfz59_0
              try clear hfz59_1
              try clear hfz59_2
              try clear hfz65_0
              try clear hfz65_1
              try clear hfz65_2
              try clear hfz66_0
              try clear hfz66_1
              try clear hfz66_2
              try clear hfz72_0
              try clear hfz72_1
              try clear hfz72_2
              try clear hfz73_0
              try clear hfz73_1
              try clear hfz73_2
              try clear p2
              obtain ⟨kq, x78_46, rfl, HA, HJ46, HO_5, HO_9, BK396, BK407, HB⟩ := hcut
              cases kq with
              | zero => exact absurd HA.out (by simp [laws_FnExactShifted.j1])
              | succ kj46 =>
                have H := HA.out
                clear HA
                simp only [laws_FnExactShifted.j1] at H
                by_cases c75 : x78_46 = true
                · subst c75
                  have H1 : (some false) = some r := by rw [if_pos rfl] at H; exact H
                  clear H
                  have H := H1
                  clear H1
                  obtain rfl := Option.some.inj H
                  go_wp2
                  go_ret
                  exact ⟨by first | rfl | (simp [errW_none, errW_some] <;> rfl) | (simp [*, errW_none, errW_some] <;> rfl), by repeat (first | (with_reducible first | exact HB.out | apply below_alloc | apply pw_below_drewN | apply below_drew1 | refine below_set ?_ GE396.out | refine below_set ?_ GE407.out) | exact HB.out)⟩
                · replace c75 := Bool.eq_false_iff.mpr c75
                  subst c75
                  have H1 : ((laws_markTwigS.f kj46 t403 1).bind fun bt418 => ((laws_heldTwigS.f kj46 bt418.2 1).bind fun t420 => (if t420 < 0 then (some false) else (if t420 = bt418.1 then ((laws_toTwigS.f kj46 l0).bind fun t421 => ((impl_Shifted.f kj46 t421).bind fun bt424 => ((laws_eqTwig.f bt424.1 bt424.2.1 bt424.2.2.1 t389 t390 t391).bind fun t432 => (if t432 = true then ((laws_eqTwigS.f kj46 bt424.2.2.2.1 t392).bind fun t433 => (if t433 = true then (laws_FnExactShifted.j2 kj46 bt418.2 bt418.1 (bt424.2.2.2.2 != t395)) else (laws_FnExactShifted.j2 kj46 bt418.2 bt418.1 true))) else (laws_FnExactShifted.j2 kj46 bt418.2 bt418.1 true))))) else (some false))))) = some r := by rw [if_neg (show ¬ (false = true) by decide)] at H; exact H
                  clear H
                  have H := H1
                  clear H1
                  replace H := bind_eq_some_iff.mp H
                  obtain ⟨⟨t418, t419⟩, A760, H⟩ := H
                  replace H : ((laws_heldTwigS.f kj46 t419 1).bind fun t420 => (if t420 < 0 then (some false) else (if t420 = t418 then ((laws_toTwigS.f kj46 l0).bind fun t421 => ((impl_Shifted.f kj46 t421).bind fun bt424 => ((laws_eqTwig.f bt424.1 bt424.2.1 bt424.2.2.1 t389 t390 t391).bind fun t432 => (if t432 = true then ((laws_eqTwigS.f kj46 bt424.2.2.2.1 t392).bind fun t433 => (if t433 = true then (laws_FnExactShifted.j2 kj46 t419 t418 (bt424.2.2.2.2 != t395)) else (laws_FnExactShifted.j2 kj46 t419 t418 true))) else (laws_FnExactShifted.j2 kj46 t419 t418 true))))) else (some false)))) = some r := H
                  have A76 := Aside0.mk A760
                  clear A760
                  replace H := bind_eq_some_iff.mp H
                  obtain ⟨t420, A770, H⟩ := H
                  replace H : (if t420 < 0 then (some false) else (if t420 = t418 then ((laws_toTwigS.f kj46 l0).bind fun t421 => ((impl_Shifted.f kj46 t421).bind fun bt424 => ((laws_eqTwig.f bt424.1 bt424.2.1 bt424.2.2.1 t389 t390 t391).bind fun t432 => (if t432 = true then ((laws_eqTwigS.f kj46 bt424.2.2.2.1 t392).bind fun t433 => (if t433 = true then (laws_FnExactShifted.j2 kj46 t419 t418 (bt424.2.2.2.2 != t395)) else (laws_FnExactShifted.j2 kj46 t419 t418 true))) else (laws_FnExactShifted.j2 kj46 t419 t418 true))))) else (some false))) = some r := H
                  have A77 := Aside0.mk A770
                  clear A770
                  by_cases c78 : t420 < 0
                  · rw [if_pos c78] at H
                    have c78b0 : decide (t420 < 0) = true := decide_eq_true c78
                    clear c78
                    obtain rfl := Option.some.inj H
                    obtain ⟨Ao79, co79, eo79⟩ := Kd.R_slice HO_9.out
                    subst eo79
                    go_wp2_with (first | ((with_reducible refine gate_callee (f := 25) rfl ?_); refine goesL_ (some 81) rfl rfl Try.func25 (by kernel_rfl) rfl #[.slice Ao79 t403.length co79, .int .i64 1] rfl (by (try simp only [map_toArray, map_cons, map_nil]); first | done | rfl | (simp only [length_drop, length_take]; rfl)) ?_; (with_reducible refine (laws_markTwigS.calls kj46 (fun k_ => some k_ = (.slice Ao79 t403.length co79 : Value).ownBlock) (.slice Ao79 t403.length co79) t403 1 t418 t419 w _ ?side1 ?side2 A76.out).mono ?_); (case side1 => repeat (first | (with_reducible first | exact HB.out | apply below_alloc | apply pw_below_drewN | apply below_drew1 | refine below_set ?_ GE396.out | refine below_set ?_ GE407.out) | exact HB.out)); (case side2 => exact Kd.R_tight rfl HO_9.out); rintro e w80 ⟨rfl, hy0, hb, hkp⟩; refine ⟨_, rfl, ?_⟩; have n0_ := Aside0.mk (Kd.R_mono (ok' := fun k_ => some k_ ≠ (.slice Ao79 t403.length co79 : Value).ownBlock ∧ k_ ≠ gb396 ∧ k_ ≠ gb407) (Kd.R_keptB (HO_5.out) hkp (fun k_ hk_ hs_ => (hk_.1) hs_)) (fun k_ hk_ => ⟨hk_.1.1, hk_.1.2.1, hk_.1.2.2⟩)); have n1_ := Aside0.mk (Kd.R_reok rfl hy0 (fun k_ e_ => HO_9.out.1 k_ e_)); have n2_ := Aside0.mk (blk_kept (by (with_reducible repeat (first | refine blk_drewN ?_ _ | refine blk_drew ?_ | refine blk_alloc ?_ _)); exact BK396.out) hkp (fun hs_ => (fun e_ => (Kd.R_away HO_9.out (fun _ hk => hk.2.1)) e_) hs_)); have n3_ := Aside0.mk (blk_kept (by (with_reducible repeat (first | refine blk_drewN ?_ _ | refine blk_drew ?_ | refine blk_alloc ?_ _)); exact BK407.out) hkp (fun hs_ => (fun e_ => (Kd.R_away HO_9.out (fun _ hk => hk.2.2)) e_) hs_)); have n4_ := Aside0.mk (hb); clear HO_5; clear HO_9; clear BK396; clear BK407; clear HB; have HO_5 := n0_; have HO_9 := n1_; have BK396 := n2_; have BK407 := n3_; have HB := n4_; clear n0_ n1_ n2_ n3_ n4_; (try clear hb); (try clear hkp); (try clear hy0)) | ((with_reducible refine gate_callee (f := 26) rfl ?_); refine goesL_ (some 84) rfl rfl Try.func26 (by kernel_rfl) rfl #[.slice Ao79 t419.length co79, .int .i64 1] rfl (by (try simp only [map_toArray, map_cons, map_nil]); first | done | (rw [show t419.length = t403.length from (R_reads' HO_9.out).1.symm] <;> rfl) | rfl | (simp only [length_drop, length_take]; rfl)) ?_; (with_reducible refine (laws_heldTwigS.calls kj46 _ _ t419 1 t420 _ ?side1 ?side2 A77.out).mono ?_); (case side1 => repeat (first | exact (R_reads' HO_9.out).2.2 | (with_reducible refine C_alloc ?_ _) | (with_reducible refine C_drewN ?_ _) | (with_reducible refine C_drew ?_))); (case side2 => rw [show t419.length = t403.length from (R_reads' HO_9.out).1.symm]; exact (R_reads' HO_9.out).2.1); rintro e w' ⟨rfl, ⟨nd, rfl⟩⟩; refine ⟨_, rfl, ?_⟩))
                    go_ret
                    exact ⟨by first | rfl | (simp [errW_none, errW_some] <;> rfl) | (simp [*, errW_none, errW_some] <;> rfl), by repeat (first | (with_reducible first | exact HB.out | apply below_alloc | apply pw_below_drewN | apply below_drew1 | refine below_set ?_ GE396.out | refine below_set ?_ GE407.out) | exact HB.out)⟩
                  · rw [if_neg c78] at H
                    have c78b0 : decide (t420 < 0) = false := decide_eq_false c78
                    clear c78
                    by_cases c81 : t420 = t418
                    · rw [if_pos c81] at H
                      have c81b0 : (t420 == t418) = true := beq_iff_eq.mpr c81
                      have c81b1 : (t420 != t418) = false := bne_eq_false_iff_eq.mpr c81
                      clear c81
                      replace H := bind_eq_some_iff.mp H
                      obtain ⟨t421, A820, H⟩ := H
                      replace H : ((impl_Shifted.f kj46 t421).bind fun bt424 => ((laws_eqTwig.f bt424.1 bt424.2.1 bt424.2.2.1 t389 t390 t391).bind fun t432 => (if t432 = true then ((laws_eqTwigS.f kj46 bt424.2.2.2.1 t392).bind fun t433 => (if t433 = true then (laws_FnExactShifted.j2 kj46 t419 t418 (bt424.2.2.2.2 != t395)) else (laws_FnExactShifted.j2 kj46 t419 t418 true))) else (laws_FnExactShifted.j2 kj46 t419 t418 true)))) = some r := H
                      have A82 := Aside0.mk A820
                      clear A820
                      replace H := bind_eq_some_iff.mp H
                      obtain ⟨⟨t424, t425, t426, t427, t430⟩, A830, H⟩ := H
                      replace H : ((laws_eqTwig.f t424 t425 t426 t389 t390 t391).bind fun t432 => (if t432 = true then ((laws_eqTwigS.f kj46 t427 t392).bind fun t433 => (if t433 = true then (laws_FnExactShifted.j2 kj46 t419 t418 (t430 != t395)) else (laws_FnExactShifted.j2 kj46 t419 t418 true))) else (laws_FnExactShifted.j2 kj46 t419 t418 true))) = some r := H
                      have A83 := Aside0.mk A830
                      clear A830
                      have HC84 := Aside0.mk H
                      clear H
                      obtain ⟨Ao85, co85, eo85⟩ := Kd.R_slice HO_9.out
                      subst eo85
                      go_upto_region 25 with (first | ((with_reducible refine gate_callee (f := 25) rfl ?_); refine goesL_ (some 81) rfl rfl Try.func25 (by kernel_rfl) rfl #[.slice Ao85 t403.length co85, .int .i64 1] rfl (by (try simp only [map_toArray, map_cons, map_nil]); first | done | rfl | (simp only [length_drop, length_take]; rfl)) ?_; (with_reducible refine (laws_markTwigS.calls kj46 (fun k_ => some k_ = (.slice Ao85 t403.length co85 : Value).ownBlock) (.slice Ao85 t403.length co85) t403 1 t418 t419 w _ ?side1 ?side2 A76.out).mono ?_); (case side1 => repeat (first | (with_reducible first | exact HB.out | apply below_alloc | apply pw_below_drewN | apply below_drew1 | refine below_set ?_ GE396.out | refine below_set ?_ GE407.out) | exact HB.out)); (case side2 => exact Kd.R_tight rfl HO_9.out); rintro e w86 ⟨rfl, hy0, hb, hkp⟩; refine ⟨_, rfl, ?_⟩; have n0_ := Aside0.mk (Kd.R_mono (ok' := fun k_ => some k_ ≠ (.slice Ao85 t403.length co85 : Value).ownBlock ∧ k_ ≠ gb396 ∧ k_ ≠ gb407) (Kd.R_keptB (HO_5.out) hkp (fun k_ hk_ hs_ => (hk_.1) hs_)) (fun k_ hk_ => ⟨hk_.1.1, hk_.1.2.1, hk_.1.2.2⟩)); have n1_ := Aside0.mk (Kd.R_reok rfl hy0 (fun k_ e_ => HO_9.out.1 k_ e_)); have n2_ := Aside0.mk (blk_kept (by (with_reducible repeat (first | refine blk_drewN ?_ _ | refine blk_drew ?_ | refine blk_alloc ?_ _)); exact BK396.out) hkp (fun hs_ => (fun e_ => (Kd.R_away HO_9.out (fun _ hk => hk.2.1)) e_) hs_)); have n3_ := Aside0.mk (blk_kept (by (with_reducible repeat (first | refine blk_drewN ?_ _ | refine blk_drew ?_ | refine blk_alloc ?_ _)); exact BK407.out) hkp (fun hs_ => (fun e_ => (Kd.R_away HO_9.out (fun _ hk => hk.2.2)) e_) hs_)); have n4_ := Aside0.mk (hb); clear HO_5; clear HO_9; clear BK396; clear BK407; clear HB; have HO_5 := n0_; have HO_9 := n1_; have BK396 := n2_; have BK407 := n3_; have HB := n4_; clear n0_ n1_ n2_ n3_ n4_; (try clear hb); (try clear hkp); (try clear hy0)) | ((with_reducible refine gate_callee (f := 26) rfl ?_); refine goesL_ (some 84) rfl rfl Try.func26 (by kernel_rfl) rfl #[.slice Ao85 t419.length co85, .int .i64 1] rfl (by (try simp only [map_toArray, map_cons, map_nil]); first | done | (rw [show t419.length = t403.length from (R_reads' HO_9.out).1.symm] <;> rfl) | rfl | (simp only [length_drop, length_take]; rfl)) ?_; (with_reducible refine (laws_heldTwigS.calls kj46 _ _ t419 1 t420 _ ?side1 ?side2 A77.out).mono ?_); (case side1 => repeat (first | exact (R_reads' HO_9.out).2.2 | (with_reducible refine C_alloc ?_ _) | (with_reducible refine C_drewN ?_ _) | (with_reducible refine C_drew ?_))); (case side2 => rw [show t419.length = t403.length from (R_reads' HO_9.out).1.symm]; exact (R_reads' HO_9.out).2.1); rintro e w' ⟨rfl, ⟨nd, rfl⟩⟩; refine ⟨_, rfl, ?_⟩; (try (rw [drewN_self w86]; generalize hq_ : World.drewN w86 _ = w86; have n0_ : Aside0 (Kd.R k31 31 w86 w.heap.size (fun k_ => some k_ ≠ (.slice Ao85 t403.length co85 : Value).ownBlock ∧ k_ ≠ gb396 ∧ k_ ≠ gb407) v393 t392) := ⟨by rw [← hq_]; exact (by (with_reducible repeat (first | apply R_alloc | apply R_drewN | apply R_drew)); exact HO_5.out)⟩; have n1_ : Aside0 (Kd.R k31 31 w86 w.heap.size (fun k_ => some k_ ≠ (v393 : Value).ownBlock ∧ k_ ≠ gb396 ∧ k_ ≠ gb407) (.slice Ao85 t403.length co85) t419) := ⟨by rw [← hq_]; exact (by (with_reducible repeat (first | apply R_alloc | apply R_drewN | apply R_drew)); exact HO_9.out)⟩; have n2_ : Aside0 (w86.heap[gb396]? = some (.cells #[.int .i64 t389, .int .i64 t390, .int .i64 t391] 31 (0, 0))) := ⟨by rw [← hq_]; exact (by (with_reducible repeat (first | refine blk_drewN ?_ _ | refine blk_drew ?_ | refine blk_alloc ?_ _)); exact BK396.out)⟩; have n3_ : Aside0 (w86.heap[gb407]? = some (.cells #[.int .i64 t400, .int .i64 t401, .int .i64 t402] 31 (0, 0))) := ⟨by rw [← hq_]; exact (by (with_reducible repeat (first | refine blk_drewN ?_ _ | refine blk_drew ?_ | refine blk_alloc ?_ _)); exact BK407.out)⟩; have n4_ : Aside0 (Below w.heap.size w w86) := ⟨by rw [← hq_]; exact (by repeat (first | (with_reducible first | exact HB.out | apply below_alloc | apply pw_below_drewN | apply below_drew1 | refine below_set ?_ GE396.out | refine below_set ?_ GE407.out) | exact HB.out))⟩; clear HO_5 HO_9 BK396 BK407 HB hq_; have HO_5 := n0_; have HO_9 := n1_; have BK396 := n2_; have BK407 := n3_; have HB := n4_; clear n0_ n1_ n2_ n3_ n4_; have hcr396_0 : w86.cell? ⟨gb396, 0, none⟩ = some (.int .i64 t389) := (blk_cell BK396.out 0).trans rfl; have hfr396_0 := blk_frozen BK396.out 0; have hcr396_1 : w86.cell? ⟨gb396, 1, none⟩ = some (.int .i64 t390) := (blk_cell BK396.out 1).trans rfl; have hfr396_1 := blk_frozen BK396.out 1; have hcr396_2 : w86.cell? ⟨gb396, 2, none⟩ = some (.int .i64 t391) := (blk_cell BK396.out 2).trans rfl; have hfr396_2 := blk_frozen BK396.out 2; have hcr407_0 : w86.cell? ⟨gb407, 0, none⟩ = some (.int .i64 t400) := (blk_cell BK407.out 0).trans rfl; have hfr407_0 := blk_frozen BK407.out 0; have hcr407_1 : w86.cell? ⟨gb407, 1, none⟩ = some (.int .i64 t401) := (blk_cell BK407.out 1).trans rfl; have hfr407_1 := blk_frozen BK407.out 1; have hcr407_2 : w86.cell? ⟨gb407, 2, none⟩ = some (.int .i64 t402) := (blk_cell BK407.out 2).trans rfl; have hfr407_2 := blk_frozen BK407.out 2))) | ((with_reducible refine gate_callee (f := 17) rfl ?_); refine goesL_ (some 92) rfl rfl Try.func17 (by kernel_rfl) rfl #[.slice A0 l0.length c0] rfl (by (try simp only [map_toArray, map_cons, map_nil]); first | done | rfl | (simp only [length_drop, length_take]; rfl)) ?_; (with_reducible refine (laws_toTwigS.calls kj46 _ _ l0 t421 _ ?side1 ?side2 A82.out).mono ?_); (case side1 => repeat (first | exact (C_below HR0.out HB.out) | (with_reducible refine C_alloc ?_ _) | (with_reducible refine C_drewN ?_ _) | (with_reducible refine C_drew ?_))); (case side2 => exact HC0.out); rintro e w87 ⟨v422, rfl, ho0, hb⟩; refine ⟨_, rfl, ?_⟩; have n0_ := Aside0.mk (Kd.R_elder' (by (with_reducible repeat (first | apply R_alloc | apply R_drewN | apply R_drew)); exact HO_5.out) (Kd.R_base ho0) hb); have n1_ := Aside0.mk (Kd.R_elder' (by (with_reducible repeat (first | apply R_alloc | apply R_drewN | apply R_drew)); exact HO_9.out) (Kd.R_base ho0) hb); have n2_ := Aside0.mk (Kd.R_lower (Kd.R_newB (Kd.R_newB (Kd.R_new' (Kd.R_new' ho0 (Kd.R_lt (by (with_reducible repeat (first | apply R_alloc | apply R_drewN | apply R_drew)); exact HO_5.out))) (Kd.R_lt (by (with_reducible repeat (first | apply R_alloc | apply R_drewN | apply R_drew)); exact HO_9.out))) (g := gb396) (o := .cells #[.int .i64 t389, .int .i64 t390, .int .i64 t391] 31 (0, 0)) (by (with_reducible repeat (first | refine blk_drewN ?_ _ | refine blk_drew ?_ | refine blk_alloc ?_ _)); exact BK396.out)) (g := gb407) (o := .cells #[.int .i64 t400, .int .i64 t401, .int .i64 t402] 31 (0, 0)) (by (with_reducible repeat (first | refine blk_drewN ?_ _ | refine blk_drew ?_ | refine blk_alloc ?_ _)); exact BK407.out)) (below_size (by repeat (first | (with_reducible first | exact HB.out | apply below_alloc | apply pw_below_drewN | apply below_drew1 | refine below_set ?_ GE396.out | refine below_set ?_ GE407.out) | exact HB.out)))); have n3_ := Aside0.mk (blk_below (g := gb396) (o := .cells #[.int .i64 t389, .int .i64 t390, .int .i64 t391] 31 (0, 0)) (by (with_reducible repeat (first | refine blk_drewN ?_ _ | refine blk_drew ?_ | refine blk_alloc ?_ _)); exact BK396.out) hb); have n4_ := Aside0.mk (blk_below (g := gb407) (o := .cells #[.int .i64 t400, .int .i64 t401, .int .i64 t402] 31 (0, 0)) (by (with_reducible repeat (first | refine blk_drewN ?_ _ | refine blk_drew ?_ | refine blk_alloc ?_ _)); exact BK407.out) hb); have n5_ := Aside0.mk (below_step (by repeat (first | (with_reducible first | exact HB.out | apply below_alloc | apply pw_below_drewN | apply below_drew1 | refine below_set ?_ GE396.out | refine below_set ?_ GE407.out) | exact HB.out)) hb); clear HO_5; clear HO_9; clear BK396; clear BK407; clear HB; have HO_5 := n0_; have HO_9 := n1_; have HO423 := n2_; have BK396 := n3_; have BK407 := n4_; have HB := n5_; clear n0_ n1_ n2_ n3_ n4_ n5_; (try clear hb); (try clear hb2); (try clear hk); (try clear hi); (try clear ho0); obtain ⟨Ao88, co88, eo88⟩ := Kd.R_slice HO423.out; subst eo88) | ((with_reducible refine gate_callee (f := 23) rfl ?_); refine goesL_ (some 93) rfl rfl Try.func23 (by kernel_rfl) rfl #[.slice Ao88 t421.length co88] rfl (by (try simp only [map_toArray, map_cons, map_nil]); first | done | rfl | (simp only [length_drop, length_take]; rfl)) ?_; (with_reducible refine (impl_Shifted.calls kj46 _ _ t421 t424 t425 t426 t427 t430 _ ?side1 ?side2 A83.out).mono ?_); (case side1 => repeat (first | exact (R_reads' HO423.out).2.2 | (with_reducible refine C_alloc ?_ _) | (with_reducible refine C_drewN ?_ _) | (with_reducible refine C_drew ?_))); (case side2 => exact (R_reads' HO423.out).2.1); rintro e w89 ⟨v428, rfl, ho0, hb⟩; refine ⟨_, rfl, ?_⟩; have n0_ := Aside0.mk (Kd.R_elder' (by (with_reducible repeat (first | apply R_alloc | apply R_drewN | apply R_drew)); exact HO_5.out) (Kd.R_base ho0) hb); have n1_ := Aside0.mk (Kd.R_elder' (by (with_reducible repeat (first | apply R_alloc | apply R_drewN | apply R_drew)); exact HO_9.out) (Kd.R_base ho0) hb); have n2_ := Aside0.mk (Kd.R_elder' (by (with_reducible repeat (first | apply R_alloc | apply R_drewN | apply R_drew)); exact HO423.out) (Kd.R_base ho0) hb); have n3_ := Aside0.mk (Kd.R_lower (Kd.R_newB (Kd.R_newB (Kd.R_new' (Kd.R_new' (Kd.R_new' ho0 (Kd.R_lt (by (with_reducible repeat (first | apply R_alloc | apply R_drewN | apply R_drew)); exact HO_5.out))) (Kd.R_lt (by (with_reducible repeat (first | apply R_alloc | apply R_drewN | apply R_drew)); exact HO_9.out))) (Kd.R_lt (by (with_reducible repeat (first | apply R_alloc | apply R_drewN | apply R_drew)); exact HO423.out))) (g := gb396) (o := .cells #[.int .i64 t389, .int .i64 t390, .int .i64 t391] 31 (0, 0)) (by (with_reducible repeat (first | refine blk_drewN ?_ _ | refine blk_drew ?_ | refine blk_alloc ?_ _)); exact BK396.out)) (g := gb407) (o := .cells #[.int .i64 t400, .int .i64 t401, .int .i64 t402] 31 (0, 0)) (by (with_reducible repeat (first | refine blk_drewN ?_ _ | refine blk_drew ?_ | refine blk_alloc ?_ _)); exact BK407.out)) (below_size (by repeat (first | (with_reducible first | exact HB.out | apply below_alloc | apply pw_below_drewN | apply below_drew1 | refine below_set ?_ GE396.out | refine below_set ?_ GE407.out) | exact HB.out)))); have n4_ := Aside0.mk (blk_below (g := gb396) (o := .cells #[.int .i64 t389, .int .i64 t390, .int .i64 t391] 31 (0, 0)) (by (with_reducible repeat (first | refine blk_drewN ?_ _ | refine blk_drew ?_ | refine blk_alloc ?_ _)); exact BK396.out) hb); have n5_ := Aside0.mk (blk_below (g := gb407) (o := .cells #[.int .i64 t400, .int .i64 t401, .int .i64 t402] 31 (0, 0)) (by (with_reducible repeat (first | refine blk_drewN ?_ _ | refine blk_drew ?_ | refine blk_alloc ?_ _)); exact BK407.out) hb); have n6_ := Aside0.mk (below_step (by repeat (first | (with_reducible first | exact HB.out | apply below_alloc | apply pw_below_drewN | apply below_drew1 | refine below_set ?_ GE396.out | refine below_set ?_ GE407.out) | exact HB.out)) hb); clear HO_5; clear HO_9; clear HO423; clear BK396; clear BK407; clear HB; have HO_5 := n0_; have HO_9 := n1_; have HO423 := n2_; have HO429 := n3_; have BK396 := n4_; have BK407 := n5_; have HB := n6_; clear n0_ n1_ n2_ n3_ n4_ n5_ n6_; (try clear hb); (try clear hb2); (try clear hk); (try clear hi); (try clear ho0)) | ((with_reducible refine gate_dst (N := 14) rfl ?_); refine box_event ?hg (N := 14) ?hd (cs := #[.int .i64 0, .int .i64 0, .int .i64 0]) (t := 31) ?hr ?_; (case hd => rfl); (case hg => rfl); (case hr => first | (go_simp; done) | (go_simp; rfl)); intro gb431 hg w90 hbox hb; have n0_ := Aside0.mk (R_below (Kd.R_elderB (by (with_reducible repeat (first | apply R_alloc | apply R_drewN | apply R_drew)); exact HO_5.out) gb431 (Nat.le_of_eq hg.symm)) hb); have n1_ := Aside0.mk (R_below (Kd.R_elderB (by (with_reducible repeat (first | apply R_alloc | apply R_drewN | apply R_drew)); exact HO_9.out) gb431 (Nat.le_of_eq hg.symm)) hb); have n2_ := Aside0.mk (R_below (Kd.R_elderB (by (with_reducible repeat (first | apply R_alloc | apply R_drewN | apply R_drew)); exact HO423.out) gb431 (Nat.le_of_eq hg.symm)) hb); have n3_ := Aside0.mk (R_below (Kd.R_elderB (by (with_reducible repeat (first | apply R_alloc | apply R_drewN | apply R_drew)); exact HO429.out) gb431 (Nat.le_of_eq hg.symm)) hb); have n4_ := Aside0.mk (blk_below (g := gb396) (o := .cells #[.int .i64 t389, .int .i64 t390, .int .i64 t391] 31 (0, 0)) (by (with_reducible repeat (first | refine blk_drewN ?_ _ | refine blk_drew ?_ | refine blk_alloc ?_ _)); exact BK396.out) hb); have n5_ := Aside0.mk (blk_below (g := gb407) (o := .cells #[.int .i64 t400, .int .i64 t401, .int .i64 t402] 31 (0, 0)) (by (with_reducible repeat (first | refine blk_drewN ?_ _ | refine blk_drew ?_ | refine blk_alloc ?_ _)); exact BK407.out) hb); have n6_ := Aside0.mk (below_step (by repeat (first | (with_reducible first | exact HB.out | apply below_alloc | apply pw_below_drewN | apply below_drew1 | refine below_set ?_ GE396.out | refine below_set ?_ GE407.out) | exact HB.out)) hb); have n7_ := Aside0.mk (hbox); have n8_ := Aside0.mk ((by rw [hg]; exact (below_size (by repeat (first | (with_reducible first | exact HB.out | apply below_alloc | apply pw_below_drewN | apply below_drew1 | refine below_set ?_ GE396.out | refine below_set ?_ GE407.out) | exact HB.out))) : w.heap.size ≤ gb431)); have n9_ := Aside0.mk ((by rw [hg]; exact (below_size (by repeat (first | (with_reducible first | exact HB.out | apply below_alloc | apply pw_below_drewN | apply below_drew1 | refine below_set ?_ GE396.out | refine below_set ?_ GE407.out) | exact HB.out))) : w.heap.size ≤ gb431)); have n10_ := Aside0.mk ((by rw [hg]; exact Nat.ne_of_lt (blk_lt (g := gb396) (o := .cells #[.int .i64 t389, .int .i64 t390, .int .i64 t391] 31 (0, 0)) (by (with_reducible repeat (first | refine blk_drewN ?_ _ | refine blk_drew ?_ | refine blk_alloc ?_ _)); exact BK396.out)) : gb396 ≠ gb431)); have n11_ := Aside0.mk ((by rw [hg]; exact Nat.ne_of_gt (blk_lt (g := gb396) (o := .cells #[.int .i64 t389, .int .i64 t390, .int .i64 t391] 31 (0, 0)) (by (with_reducible repeat (first | refine blk_drewN ?_ _ | refine blk_drew ?_ | refine blk_alloc ?_ _)); exact BK396.out)) : gb431 ≠ gb396)); have n12_ := Aside0.mk ((by rw [hg]; exact Nat.ne_of_lt (blk_lt (g := gb407) (o := .cells #[.int .i64 t400, .int .i64 t401, .int .i64 t402] 31 (0, 0)) (by (with_reducible repeat (first | refine blk_drewN ?_ _ | refine blk_drew ?_ | refine blk_alloc ?_ _)); exact BK407.out)) : gb407 ≠ gb431)); have n13_ := Aside0.mk ((by rw [hg]; exact Nat.ne_of_gt (blk_lt (g := gb407) (o := .cells #[.int .i64 t400, .int .i64 t401, .int .i64 t402] 31 (0, 0)) (by (with_reducible repeat (first | refine blk_drewN ?_ _ | refine blk_drew ?_ | refine blk_alloc ?_ _)); exact BK407.out)) : gb431 ≠ gb407)); clear HO_5; clear HO_9; clear HO423; clear HO429; clear BK396; clear BK407; clear HB; have HO_5 := n0_; have HO_9 := n1_; have HO423 := n2_; have HO429 := n3_; have BK396 := n4_; have BK407 := n5_; have HB := n6_; have BK431 := n7_; have GW431 := n8_; have GE431 := n9_; have NB396_431 := n10_; have NB431_396 := n11_; have NB407_431 := n12_; have NB431_407 := n13_; clear n0_ n1_ n2_ n3_ n4_ n5_ n6_ n7_ n8_ n9_ n10_ n11_ n12_ n13_; clear hb hbox hg; have hnb91 := NB431_396.out; have hnc91 := NB396_431.out; have hnb92 := NB431_407.out; have hnc92 := NB407_431.out; have hcz93_0 : w90.cell? ⟨gb431, 0, none⟩ = some (.int .i64 0) := (blk_cell BK431.out 0).trans rfl; have hcz93_1 : w90.cell? ⟨gb431, 1, none⟩ = some (.int .i64 0) := (blk_cell BK431.out 1).trans rfl; have hcz93_2 : w90.cell? ⟨gb431, 2, none⟩ = some (.int .i64 0) := (blk_cell BK431.out 2).trans rfl; have hfz93_0 := blk_frozen BK431.out 0; have hfz93_1 := blk_frozen BK431.out 1; have hfz93_2 := blk_frozen BK431.out 2))
                      (try simp only [Act.put, setIfInBounds_toArray, set_cons_zero, set_cons_succ])
                      go_cut [111] (fun v111 wc => ∃ (kq : Nat) (x111_83 : Bool), v111 = .bool x111_83 ∧ Aside0 (laws_FnExactShifted.j2 kq t419 t418 x111_83 = some r) ∧ Aside0 (kq ≤ kj46) ∧ Aside0 (Kd.R k31 31 wc w.heap.size (fun k_ => k_ ≠ gb396 ∧ k_ ≠ gb407 ∧ k_ ≠ gb431) (.slice Ao85 t403.length co85) t419) ∧ Aside0 (wc.heap[gb396]? = some (.cells #[.int .i64 t389, .int .i64 t390, .int .i64 t391] 31 (0, 0))) ∧ Aside0 (wc.heap[gb407]? = some (.cells #[.int .i64 t400, .int .i64 t401, .int .i64 t402] 31 (0, 0))) ∧ Aside0 (wc.heap[gb431]? = some (.cells #[.int .i64 t424, .int .i64 t425, .int .i64 t426] 31 (0, 0))) ∧ Aside0 (Below w.heap.size w wc))
                      case first =>
                        have H := HC84.out
                        clear HC84
                        replace H := bind_eq_some_iff.mp H
                        obtain ⟨t432, A940, H⟩ := H
                        replace H : (if t432 = true then ((laws_eqTwigS.f kj46 t427 t392).bind fun t433 => (if t433 = true then (laws_FnExactShifted.j2 kj46 t419 t418 (t430 != t395)) else (laws_FnExactShifted.j2 kj46 t419 t418 true))) else (laws_FnExactShifted.j2 kj46 t419 t418 true)) = some r := H
                        have A94 := Aside0.mk A940
                        clear A940
                        by_cases c95 : t432 = true
                        · subst c95
                          have H1 : ((laws_eqTwigS.f kj46 t427 t392).bind fun t433 => (if t433 = true then (laws_FnExactShifted.j2 kj46 t419 t418 (t430 != t395)) else (laws_FnExactShifted.j2 kj46 t419 t418 true))) = some r := by rw [if_pos rfl] at H; exact H
                          clear H
                          have H := H1
                          clear H1
                          replace H := bind_eq_some_iff.mp H
                          obtain ⟨t433, A960, H⟩ := H
                          replace H : (if t433 = true then (laws_FnExactShifted.j2 kj46 t419 t418 (t430 != t395)) else (laws_FnExactShifted.j2 kj46 t419 t418 true)) = some r := H
                          have A96 := Aside0.mk A960
                          clear A960
                          by_cases c97 : t433 = true
                          · subst c97
                            have H1 : (laws_FnExactShifted.j2 kj46 t419 t418 (t430 != t395)) = some r := by rw [if_pos rfl] at H; exact H
                            clear H
                            have H := H1
                            clear H1
                            have H' := Aside0.mk H
                            clear H
                            have hnb98 := NB431_396.out
                            have hnc98 := NB396_431.out
                            have hnb99 := NB431_407.out
                            have hnc99 := NB407_431.out
                            have hcz100_0 : w90.cell? ⟨gb431, 0, none⟩ = some (.int .i64 0) := (blk_cell BK431.out 0).trans rfl
                            have hcz100_1 : w90.cell? ⟨gb431, 1, none⟩ = some (.int .i64 0) := (blk_cell BK431.out 1).trans rfl
                            have hcz100_2 : w90.cell? ⟨gb431, 2, none⟩ = some (.int .i64 0) := (blk_cell BK431.out 2).trans rfl
                            have hfz100_0 := blk_frozen BK431.out 0
                            have hfz100_1 := blk_frozen BK431.out 1
                            have hfz100_2 := blk_frozen BK431.out 2
                            have hnb101 := NB396_407.out
                            have hnc101 := NB407_396.out
                            have hcz102_0 : w90.cell? ⟨gb396, 0, none⟩ = some (.int .i64 t389) := (blk_cell BK396.out 0).trans rfl
                            have hcz102_1 : w90.cell? ⟨gb396, 1, none⟩ = some (.int .i64 t390) := (blk_cell BK396.out 1).trans rfl
                            have hcz102_2 : w90.cell? ⟨gb396, 2, none⟩ = some (.int .i64 t391) := (blk_cell BK396.out 2).trans rfl
                            have hfz102_0 := blk_frozen BK396.out 0
                            have hfz102_1 := blk_frozen BK396.out 1
                            have hfz102_2 := blk_frozen BK396.out 2
                            go_wp2_with (first | ((with_reducible refine gate_callee (f := 24) rfl ?_); refine goesL_ (some 99) rfl rfl Try.func24 (by kernel_rfl) rfl #[.agg #[.int .i64 t424, .int .i64 t425, .int .i64 t426], .agg #[.int .i64 t389, .int .i64 t390, .int .i64 t391]] rfl (by (try simp only [map_toArray, map_cons, map_nil]); first | done | rfl | (simp only [length_drop, length_take]; rfl)) ?_; (with_reducible refine (laws_eqTwig.calls t424 t425 t426 t389 t390 t391 true _ A94.out).mono ?_); rintro e w103 ⟨rfl, hb⟩; refine ⟨_, rfl, ?_⟩; have n0_ := Aside0.mk (R_below (by (with_reducible repeat (first | apply R_alloc | apply R_drewN | apply R_drew)); exact (Kd.R_mono (Kd.R_far (p := ⟨gb431, 2, none⟩) (Kd.R_far (p := ⟨gb431, 1, none⟩) (Kd.R_far (p := ⟨gb431, 0, none⟩) (Kd.R_mono HO_5.out (fun k_ hk => (⟨hk, hk.2⟩ : _ ∧ k_ ≠ gb431))) (fun _ hk => hk.2) (.int .i64 t424)) (fun _ hk => hk.2) (.int .i64 t425)) (fun _ hk => hk.2) (.int .i64 t426)) (fun _ h_ => h_.1))) hb); have n1_ := Aside0.mk (R_below (by (with_reducible repeat (first | apply R_alloc | apply R_drewN | apply R_drew)); exact (Kd.R_mono (Kd.R_far (p := ⟨gb431, 2, none⟩) (Kd.R_far (p := ⟨gb431, 1, none⟩) (Kd.R_far (p := ⟨gb431, 0, none⟩) (Kd.R_mono HO_9.out (fun k_ hk => (⟨hk, hk.2⟩ : _ ∧ k_ ≠ gb431))) (fun _ hk => hk.2) (.int .i64 t424)) (fun _ hk => hk.2) (.int .i64 t425)) (fun _ hk => hk.2) (.int .i64 t426)) (fun _ h_ => h_.1))) hb); have n2_ := Aside0.mk (R_below (by (with_reducible repeat (first | apply R_alloc | apply R_drewN | apply R_drew)); exact (Kd.R_mono (Kd.R_far (p := ⟨gb431, 2, none⟩) (Kd.R_far (p := ⟨gb431, 1, none⟩) (Kd.R_far (p := ⟨gb431, 0, none⟩) (Kd.R_mono HO423.out (fun k_ hk => (⟨hk, hk.2⟩ : _ ∧ k_ ≠ gb431))) (fun _ hk => hk.2) (.int .i64 t424)) (fun _ hk => hk.2) (.int .i64 t425)) (fun _ hk => hk.2) (.int .i64 t426)) (fun _ h_ => h_.1))) hb); have n3_ := Aside0.mk (R_below (by (with_reducible repeat (first | apply R_alloc | apply R_drewN | apply R_drew)); exact (Kd.R_mono (Kd.R_far (p := ⟨gb431, 2, none⟩) (Kd.R_far (p := ⟨gb431, 1, none⟩) (Kd.R_far (p := ⟨gb431, 0, none⟩) (Kd.R_mono HO429.out (fun k_ hk => (⟨hk, hk.2⟩ : _ ∧ k_ ≠ gb431))) (fun _ hk => hk.2) (.int .i64 t424)) (fun _ hk => hk.2) (.int .i64 t425)) (fun _ hk => hk.2) (.int .i64 t426)) (fun _ h_ => h_.1))) hb); have n4_ := Aside0.mk (blk_below (g := gb396) (o := .cells #[.int .i64 t389, .int .i64 t390, .int .i64 t391] 31 (0, 0)) (by (with_reducible repeat (first | refine blk_drewN ?_ _ | refine blk_drew ?_ | refine blk_alloc ?_ _)); refine blk_far ?_ NB396_431.out _; (with_reducible repeat (first | refine blk_drewN ?_ _ | refine blk_drew ?_ | refine blk_alloc ?_ _)); refine blk_far ?_ NB396_431.out _; (with_reducible repeat (first | refine blk_drewN ?_ _ | refine blk_drew ?_ | refine blk_alloc ?_ _)); refine blk_far ?_ NB396_431.out _; (with_reducible repeat (first | refine blk_drewN ?_ _ | refine blk_drew ?_ | refine blk_alloc ?_ _)); exact BK396.out) hb); have n5_ := Aside0.mk (blk_below (g := gb407) (o := .cells #[.int .i64 t400, .int .i64 t401, .int .i64 t402] 31 (0, 0)) (by (with_reducible repeat (first | refine blk_drewN ?_ _ | refine blk_drew ?_ | refine blk_alloc ?_ _)); refine blk_far ?_ NB407_431.out _; (with_reducible repeat (first | refine blk_drewN ?_ _ | refine blk_drew ?_ | refine blk_alloc ?_ _)); refine blk_far ?_ NB407_431.out _; (with_reducible repeat (first | refine blk_drewN ?_ _ | refine blk_drew ?_ | refine blk_alloc ?_ _)); refine blk_far ?_ NB407_431.out _; (with_reducible repeat (first | refine blk_drewN ?_ _ | refine blk_drew ?_ | refine blk_alloc ?_ _)); exact BK407.out) hb); have n6_ := Aside0.mk (blk_below (g := gb431) (o := .cells #[.int .i64 t424, .int .i64 t425, .int .i64 t426] 31 (0, 0)) (by (with_reducible repeat (first | refine blk_drewN ?_ _ | refine blk_drew ?_ | refine blk_alloc ?_ _)); refine blk_put (cs := #[.int .i64 t424, .int .i64 t425, .int .i64 0]) ?_ 2 _ rfl; (with_reducible repeat (first | refine blk_drewN ?_ _ | refine blk_drew ?_ | refine blk_alloc ?_ _)); refine blk_put (cs := #[.int .i64 t424, .int .i64 0, .int .i64 0]) ?_ 1 _ rfl; (with_reducible repeat (first | refine blk_drewN ?_ _ | refine blk_drew ?_ | refine blk_alloc ?_ _)); refine blk_put (cs := #[.int .i64 0, .int .i64 0, .int .i64 0]) ?_ 0 _ rfl; (with_reducible repeat (first | refine blk_drewN ?_ _ | refine blk_drew ?_ | refine blk_alloc ?_ _)); exact BK431.out) hb); have n7_ := Aside0.mk (below_step (by repeat (first | (with_reducible first | exact HB.out | apply below_alloc | apply pw_below_drewN | apply below_drew1 | refine below_set ?_ GE396.out | refine below_set ?_ GE407.out | refine below_set ?_ GE431.out) | exact HB.out)) hb); clear HO_5; clear HO_9; clear HO423; clear HO429; clear BK396; clear BK407; clear BK431; clear HB; have HO_5 := n0_; have HO_9 := n1_; have HO423 := n2_; have HO429 := n3_; have BK396 := n4_; have BK407 := n5_; have BK431 := n6_; have HB := n7_; clear n0_ n1_ n2_ n3_ n4_ n5_ n6_ n7_; (try clear hb); (try clear hb2); (try clear hk); (try clear hi); obtain ⟨Ao104, co104, eo104⟩ := Kd.R_slice HO429.out; subst eo104; obtain ⟨Ao105, co105, eo105⟩ := Kd.R_slice HO_5.out; subst eo105) | (go_at_call 19; (with_reducible refine (laws_eqTwigS.calls kj46 _ _ t427 _ _ t392 true _ ?side1 ?side2 ?side3 ?side4 A96.out).mono ?_); (case side1 => repeat (first | exact (R_reads' HO429.out).2.2 | (with_reducible refine C_alloc ?_ _) | (with_reducible refine C_drewN ?_ _) | (with_reducible refine C_drew ?_))); (case side2 => exact (R_reads' HO429.out).2.1); (case side3 => repeat (first | exact (R_reads' HO_5.out).2.2 | (with_reducible refine C_alloc ?_ _) | (with_reducible refine C_drewN ?_ _) | (with_reducible refine C_drew ?_))); (case side4 => exact (R_reads' HO_5.out).2.1); rintro e w106 ⟨rfl, hb⟩; have n0_ := Aside0.mk (R_below (by (with_reducible repeat (first | apply R_alloc | apply R_drewN | apply R_drew)); exact HO_5.out) hb); have n1_ := Aside0.mk (R_below (by (with_reducible repeat (first | apply R_alloc | apply R_drewN | apply R_drew)); exact HO_9.out) hb); have n2_ := Aside0.mk (R_below (by (with_reducible repeat (first | apply R_alloc | apply R_drewN | apply R_drew)); exact HO423.out) hb); have n3_ := Aside0.mk (R_below (by (with_reducible repeat (first | apply R_alloc | apply R_drewN | apply R_drew)); exact HO429.out) hb); have n4_ := Aside0.mk (blk_below (g := gb396) (o := .cells #[.int .i64 t389, .int .i64 t390, .int .i64 t391] 31 (0, 0)) (by (with_reducible repeat (first | refine blk_drewN ?_ _ | refine blk_drew ?_ | refine blk_alloc ?_ _)); exact BK396.out) hb); have n5_ := Aside0.mk (blk_below (g := gb407) (o := .cells #[.int .i64 t400, .int .i64 t401, .int .i64 t402] 31 (0, 0)) (by (with_reducible repeat (first | refine blk_drewN ?_ _ | refine blk_drew ?_ | refine blk_alloc ?_ _)); exact BK407.out) hb); have n6_ := Aside0.mk (blk_below (g := gb431) (o := .cells #[.int .i64 t424, .int .i64 t425, .int .i64 t426] 31 (0, 0)) (by (with_reducible repeat (first | refine blk_drewN ?_ _ | refine blk_drew ?_ | refine blk_alloc ?_ _)); exact BK431.out) hb); have n7_ := Aside0.mk (below_step (by repeat (first | (with_reducible first | exact HB.out | apply below_alloc | apply pw_below_drewN | apply below_drew1 | refine below_set ?_ GE396.out | refine below_set ?_ GE407.out | refine below_set ?_ GE431.out) | exact HB.out)) hb); clear HO_5; clear HO_9; clear HO423; clear HO429; clear BK396; clear BK407; clear BK431; clear HB; have HO_5 := n0_; have HO_9 := n1_; have HO423 := n2_; have HO429 := n3_; have BK396 := n4_; have BK407 := n5_; have BK431 := n6_; have HB := n7_; clear n0_ n1_ n2_ n3_ n4_ n5_ n6_ n7_; (try clear hb); (try clear hb2); (try clear hk); (try clear hi)))
                            go_meet
                            case rel => exact ⟨_, ((t430 != t395)), (by first | rfl | (simp; done) | (simp [*]; done)), H', ⟨by have := HJ7.out; have := HJ46.out; first | omega | exact Nat.le_refl _⟩, ⟨by (with_reducible repeat (first | apply R_alloc | apply R_drewN | apply R_drew)); exact Kd.R_mono HO_9.out (fun _ hk => ⟨hk.1.1.1.2.1, ⟨hk.1.1.1.2.2, hk.2⟩⟩)⟩, ⟨by (with_reducible repeat (first | refine blk_drewN ?_ _ | refine blk_drew ?_ | refine blk_alloc ?_ _)); exact BK396.out⟩, ⟨by (with_reducible repeat (first | refine blk_drewN ?_ _ | refine blk_drew ?_ | refine blk_alloc ?_ _)); exact BK407.out⟩, ⟨by (with_reducible repeat (first | refine blk_drewN ?_ _ | refine blk_drew ?_ | refine blk_alloc ?_ _)); exact BK431.out⟩, ⟨by repeat (first | (with_reducible first | exact HB.out | apply below_alloc | apply pw_below_drewN | apply below_drew1 | refine below_set ?_ GE396.out | refine below_set ?_ GE407.out | refine below_set ?_ GE431.out) | exact HB.out)⟩⟩
                          · replace c97 := Bool.eq_false_iff.mpr c97
                            subst c97
                            have H1 : (laws_FnExactShifted.j2 kj46 t419 t418 true) = some r := by rw [if_neg (show ¬ (false = true) by decide)] at H; exact H
                            clear H
                            have H := H1
                            clear H1
                            have H' := Aside0.mk H
                            clear H
                            have hnb107 := NB431_396.out
                            have hnc107 := NB396_431.out
                            have hnb108 := NB431_407.out
                            have hnc108 := NB407_431.out
                            have hcz109_0 : w90.cell? ⟨gb431, 0, none⟩ = some (.int .i64 0) := (blk_cell BK431.out 0).trans rfl
                            have hcz109_1 : w90.cell? ⟨gb431, 1, none⟩ = some (.int .i64 0) := (blk_cell BK431.out 1).trans rfl
                            have hcz109_2 : w90.cell? ⟨gb431, 2, none⟩ = some (.int .i64 0) := (blk_cell BK431.out 2).trans rfl
                            have hfz109_0 := blk_frozen BK431.out 0
                            have hfz109_1 := blk_frozen BK431.out 1
                            have hfz109_2 := blk_frozen BK431.out 2
                            have hnb110 := NB396_407.out
                            have hnc110 := NB407_396.out
                            have hcz111_0 : w90.cell? ⟨gb396, 0, none⟩ = some (.int .i64 t389) := (blk_cell BK396.out 0).trans rfl
                            have hcz111_1 : w90.cell? ⟨gb396, 1, none⟩ = some (.int .i64 t390) := (blk_cell BK396.out 1).trans rfl
                            have hcz111_2 : w90.cell? ⟨gb396, 2, none⟩ = some (.int .i64 t391) := (blk_cell BK396.out 2).trans rfl
                            have hfz111_0 := blk_frozen BK396.out 0
                            have hfz111_1 := blk_frozen BK396.out 1
                            have hfz111_2 := blk_frozen BK396.out 2
                            go_wp2_with (first | ((with_reducible refine gate_callee (f := 24) rfl ?_); refine goesL_ (some 99) rfl rfl Try.func24 (by kernel_rfl) rfl #[.agg #[.int .i64 t424, .int .i64 t425, .int .i64 t426], .agg #[.int .i64 t389, .int .i64 t390, .int .i64 t391]] rfl (by (try simp only [map_toArray, map_cons, map_nil]); first | done | rfl | (simp only [length_drop, length_take]; rfl)) ?_; (with_reducible refine (laws_eqTwig.calls t424 t425 t426 t389 t390 t391 true _ A94.out).mono ?_); rintro e w112 ⟨rfl, hb⟩; refine ⟨_, rfl, ?_⟩; have n0_ := Aside0.mk (R_below (by (with_reducible repeat (first | apply R_alloc | apply R_drewN | apply R_drew)); exact (Kd.R_mono (Kd.R_far (p := ⟨gb431, 2, none⟩) (Kd.R_far (p := ⟨gb431, 1, none⟩) (Kd.R_far (p := ⟨gb431, 0, none⟩) (Kd.R_mono HO_5.out (fun k_ hk => (⟨hk, hk.2⟩ : _ ∧ k_ ≠ gb431))) (fun _ hk => hk.2) (.int .i64 t424)) (fun _ hk => hk.2) (.int .i64 t425)) (fun _ hk => hk.2) (.int .i64 t426)) (fun _ h_ => h_.1))) hb); have n1_ := Aside0.mk (R_below (by (with_reducible repeat (first | apply R_alloc | apply R_drewN | apply R_drew)); exact (Kd.R_mono (Kd.R_far (p := ⟨gb431, 2, none⟩) (Kd.R_far (p := ⟨gb431, 1, none⟩) (Kd.R_far (p := ⟨gb431, 0, none⟩) (Kd.R_mono HO_9.out (fun k_ hk => (⟨hk, hk.2⟩ : _ ∧ k_ ≠ gb431))) (fun _ hk => hk.2) (.int .i64 t424)) (fun _ hk => hk.2) (.int .i64 t425)) (fun _ hk => hk.2) (.int .i64 t426)) (fun _ h_ => h_.1))) hb); have n2_ := Aside0.mk (R_below (by (with_reducible repeat (first | apply R_alloc | apply R_drewN | apply R_drew)); exact (Kd.R_mono (Kd.R_far (p := ⟨gb431, 2, none⟩) (Kd.R_far (p := ⟨gb431, 1, none⟩) (Kd.R_far (p := ⟨gb431, 0, none⟩) (Kd.R_mono HO423.out (fun k_ hk => (⟨hk, hk.2⟩ : _ ∧ k_ ≠ gb431))) (fun _ hk => hk.2) (.int .i64 t424)) (fun _ hk => hk.2) (.int .i64 t425)) (fun _ hk => hk.2) (.int .i64 t426)) (fun _ h_ => h_.1))) hb); have n3_ := Aside0.mk (R_below (by (with_reducible repeat (first | apply R_alloc | apply R_drewN | apply R_drew)); exact (Kd.R_mono (Kd.R_far (p := ⟨gb431, 2, none⟩) (Kd.R_far (p := ⟨gb431, 1, none⟩) (Kd.R_far (p := ⟨gb431, 0, none⟩) (Kd.R_mono HO429.out (fun k_ hk => (⟨hk, hk.2⟩ : _ ∧ k_ ≠ gb431))) (fun _ hk => hk.2) (.int .i64 t424)) (fun _ hk => hk.2) (.int .i64 t425)) (fun _ hk => hk.2) (.int .i64 t426)) (fun _ h_ => h_.1))) hb); have n4_ := Aside0.mk (blk_below (g := gb396) (o := .cells #[.int .i64 t389, .int .i64 t390, .int .i64 t391] 31 (0, 0)) (by (with_reducible repeat (first | refine blk_drewN ?_ _ | refine blk_drew ?_ | refine blk_alloc ?_ _)); refine blk_far ?_ NB396_431.out _; (with_reducible repeat (first | refine blk_drewN ?_ _ | refine blk_drew ?_ | refine blk_alloc ?_ _)); refine blk_far ?_ NB396_431.out _; (with_reducible repeat (first | refine blk_drewN ?_ _ | refine blk_drew ?_ | refine blk_alloc ?_ _)); refine blk_far ?_ NB396_431.out _; (with_reducible repeat (first | refine blk_drewN ?_ _ | refine blk_drew ?_ | refine blk_alloc ?_ _)); exact BK396.out) hb); have n5_ := Aside0.mk (blk_below (g := gb407) (o := .cells #[.int .i64 t400, .int .i64 t401, .int .i64 t402] 31 (0, 0)) (by (with_reducible repeat (first | refine blk_drewN ?_ _ | refine blk_drew ?_ | refine blk_alloc ?_ _)); refine blk_far ?_ NB407_431.out _; (with_reducible repeat (first | refine blk_drewN ?_ _ | refine blk_drew ?_ | refine blk_alloc ?_ _)); refine blk_far ?_ NB407_431.out _; (with_reducible repeat (first | refine blk_drewN ?_ _ | refine blk_drew ?_ | refine blk_alloc ?_ _)); refine blk_far ?_ NB407_431.out _; (with_reducible repeat (first | refine blk_drewN ?_ _ | refine blk_drew ?_ | refine blk_alloc ?_ _)); exact BK407.out) hb); have n6_ := Aside0.mk (blk_below (g := gb431) (o := .cells #[.int .i64 t424, .int .i64 t425, .int .i64 t426] 31 (0, 0)) (by (with_reducible repeat (first | refine blk_drewN ?_ _ | refine blk_drew ?_ | refine blk_alloc ?_ _)); refine blk_put (cs := #[.int .i64 t424, .int .i64 t425, .int .i64 0]) ?_ 2 _ rfl; (with_reducible repeat (first | refine blk_drewN ?_ _ | refine blk_drew ?_ | refine blk_alloc ?_ _)); refine blk_put (cs := #[.int .i64 t424, .int .i64 0, .int .i64 0]) ?_ 1 _ rfl; (with_reducible repeat (first | refine blk_drewN ?_ _ | refine blk_drew ?_ | refine blk_alloc ?_ _)); refine blk_put (cs := #[.int .i64 0, .int .i64 0, .int .i64 0]) ?_ 0 _ rfl; (with_reducible repeat (first | refine blk_drewN ?_ _ | refine blk_drew ?_ | refine blk_alloc ?_ _)); exact BK431.out) hb); have n7_ := Aside0.mk (below_step (by repeat (first | (with_reducible first | exact HB.out | apply below_alloc | apply pw_below_drewN | apply below_drew1 | refine below_set ?_ GE396.out | refine below_set ?_ GE407.out | refine below_set ?_ GE431.out) | exact HB.out)) hb); clear HO_5; clear HO_9; clear HO423; clear HO429; clear BK396; clear BK407; clear BK431; clear HB; have HO_5 := n0_; have HO_9 := n1_; have HO423 := n2_; have HO429 := n3_; have BK396 := n4_; have BK407 := n5_; have BK431 := n6_; have HB := n7_; clear n0_ n1_ n2_ n3_ n4_ n5_ n6_ n7_; (try clear hb); (try clear hb2); (try clear hk); (try clear hi); obtain ⟨Ao113, co113, eo113⟩ := Kd.R_slice HO429.out; subst eo113; obtain ⟨Ao114, co114, eo114⟩ := Kd.R_slice HO_5.out; subst eo114) | (go_at_call 19; (with_reducible refine (laws_eqTwigS.calls kj46 _ _ t427 _ _ t392 false _ ?side1 ?side2 ?side3 ?side4 A96.out).mono ?_); (case side1 => repeat (first | exact (R_reads' HO429.out).2.2 | (with_reducible refine C_alloc ?_ _) | (with_reducible refine C_drewN ?_ _) | (with_reducible refine C_drew ?_))); (case side2 => exact (R_reads' HO429.out).2.1); (case side3 => repeat (first | exact (R_reads' HO_5.out).2.2 | (with_reducible refine C_alloc ?_ _) | (with_reducible refine C_drewN ?_ _) | (with_reducible refine C_drew ?_))); (case side4 => exact (R_reads' HO_5.out).2.1); rintro e w115 ⟨rfl, hb⟩; have n0_ := Aside0.mk (R_below (by (with_reducible repeat (first | apply R_alloc | apply R_drewN | apply R_drew)); exact HO_5.out) hb); have n1_ := Aside0.mk (R_below (by (with_reducible repeat (first | apply R_alloc | apply R_drewN | apply R_drew)); exact HO_9.out) hb); have n2_ := Aside0.mk (R_below (by (with_reducible repeat (first | apply R_alloc | apply R_drewN | apply R_drew)); exact HO423.out) hb); have n3_ := Aside0.mk (R_below (by (with_reducible repeat (first | apply R_alloc | apply R_drewN | apply R_drew)); exact HO429.out) hb); have n4_ := Aside0.mk (blk_below (g := gb396) (o := .cells #[.int .i64 t389, .int .i64 t390, .int .i64 t391] 31 (0, 0)) (by (with_reducible repeat (first | refine blk_drewN ?_ _ | refine blk_drew ?_ | refine blk_alloc ?_ _)); exact BK396.out) hb); have n5_ := Aside0.mk (blk_below (g := gb407) (o := .cells #[.int .i64 t400, .int .i64 t401, .int .i64 t402] 31 (0, 0)) (by (with_reducible repeat (first | refine blk_drewN ?_ _ | refine blk_drew ?_ | refine blk_alloc ?_ _)); exact BK407.out) hb); have n6_ := Aside0.mk (blk_below (g := gb431) (o := .cells #[.int .i64 t424, .int .i64 t425, .int .i64 t426] 31 (0, 0)) (by (with_reducible repeat (first | refine blk_drewN ?_ _ | refine blk_drew ?_ | refine blk_alloc ?_ _)); exact BK431.out) hb); have n7_ := Aside0.mk (below_step (by repeat (first | (with_reducible first | exact HB.out | apply below_alloc | apply pw_below_drewN | apply below_drew1 | refine below_set ?_ GE396.out | refine below_set ?_ GE407.out | refine below_set ?_ GE431.out) | exact HB.out)) hb); clear HO_5; clear HO_9; clear HO423; clear HO429; clear BK396; clear BK407; clear BK431; clear HB; have HO_5 := n0_; have HO_9 := n1_; have HO423 := n2_; have HO429 := n3_; have BK396 := n4_; have BK407 := n5_; have BK431 := n6_; have HB := n7_; clear n0_ n1_ n2_ n3_ n4_ n5_ n6_ n7_; (try clear hb); (try clear hb2); (try clear hk); (try clear hi)))
                            go_meet
                            case rel => exact ⟨_, (true), (by first | rfl | (simp; done) | (simp [*]; done)), H', ⟨by have := HJ7.out; have := HJ46.out; first | omega | exact Nat.le_refl _⟩, ⟨by (with_reducible repeat (first | apply R_alloc | apply R_drewN | apply R_drew)); exact Kd.R_mono HO_9.out (fun _ hk => ⟨hk.1.1.1.2.1, ⟨hk.1.1.1.2.2, hk.2⟩⟩)⟩, ⟨by (with_reducible repeat (first | refine blk_drewN ?_ _ | refine blk_drew ?_ | refine blk_alloc ?_ _)); exact BK396.out⟩, ⟨by (with_reducible repeat (first | refine blk_drewN ?_ _ | refine blk_drew ?_ | refine blk_alloc ?_ _)); exact BK407.out⟩, ⟨by (with_reducible repeat (first | refine blk_drewN ?_ _ | refine blk_drew ?_ | refine blk_alloc ?_ _)); exact BK431.out⟩, ⟨by repeat (first | (with_reducible first | exact HB.out | apply below_alloc | apply pw_below_drewN | apply below_drew1 | refine below_set ?_ GE396.out | refine below_set ?_ GE407.out | refine below_set ?_ GE431.out) | exact HB.out)⟩⟩
                        · replace c95 := Bool.eq_false_iff.mpr c95
                          subst c95
                          have H1 : (laws_FnExactShifted.j2 kj46 t419 t418 true) = some r := by rw [if_neg (show ¬ (false = true) by decide)] at H; exact H
                          clear H
                          have H := H1
                          clear H1
                          have H' := Aside0.mk H
                          clear H
                          have hnb116 := NB431_396.out
                          have hnc116 := NB396_431.out
                          have hnb117 := NB431_407.out
                          have hnc117 := NB407_431.out
                          have hcz118_0 : w90.cell? ⟨gb431, 0, none⟩ = some (.int .i64 0) := (blk_cell BK431.out 0).trans rfl
                          have hcz118_1 : w90.cell? ⟨gb431, 1, none⟩ = some (.int .i64 0) := (blk_cell BK431.out 1).trans rfl
                          have hcz118_2 : w90.cell? ⟨gb431, 2, none⟩ = some (.int .i64 0) := (blk_cell BK431.out 2).trans rfl
                          have hfz118_0 := blk_frozen BK431.out 0
                          have hfz118_1 := blk_frozen BK431.out 1
                          have hfz118_2 := blk_frozen BK431.out 2
                          have hnb119 := NB396_407.out
                          have hnc119 := NB407_396.out
                          have hcz120_0 : w90.cell? ⟨gb396, 0, none⟩ = some (.int .i64 t389) := (blk_cell BK396.out 0).trans rfl
                          have hcz120_1 : w90.cell? ⟨gb396, 1, none⟩ = some (.int .i64 t390) := (blk_cell BK396.out 1).trans rfl
                          have hcz120_2 : w90.cell? ⟨gb396, 2, none⟩ = some (.int .i64 t391) := (blk_cell BK396.out 2).trans rfl
                          have hfz120_0 := blk_frozen BK396.out 0
                          have hfz120_1 := blk_frozen BK396.out 1
                          have hfz120_2 := blk_frozen BK396.out 2
                          go_wp2_with (first | ((with_reducible refine gate_callee (f := 24) rfl ?_); refine goesL_ (some 99) rfl rfl Try.func24 (by kernel_rfl) rfl #[.agg #[.int .i64 t424, .int .i64 t425, .int .i64 t426], .agg #[.int .i64 t389, .int .i64 t390, .int .i64 t391]] rfl (by (try simp only [map_toArray, map_cons, map_nil]); first | done | rfl | (simp only [length_drop, length_take]; rfl)) ?_; (with_reducible refine (laws_eqTwig.calls t424 t425 t426 t389 t390 t391 false _ A94.out).mono ?_); rintro e w121 ⟨rfl, hb⟩; refine ⟨_, rfl, ?_⟩; have n0_ := Aside0.mk (R_below (by (with_reducible repeat (first | apply R_alloc | apply R_drewN | apply R_drew)); exact (Kd.R_mono (Kd.R_far (p := ⟨gb431, 2, none⟩) (Kd.R_far (p := ⟨gb431, 1, none⟩) (Kd.R_far (p := ⟨gb431, 0, none⟩) (Kd.R_mono HO_5.out (fun k_ hk => (⟨hk, hk.2⟩ : _ ∧ k_ ≠ gb431))) (fun _ hk => hk.2) (.int .i64 t424)) (fun _ hk => hk.2) (.int .i64 t425)) (fun _ hk => hk.2) (.int .i64 t426)) (fun _ h_ => h_.1))) hb); have n1_ := Aside0.mk (R_below (by (with_reducible repeat (first | apply R_alloc | apply R_drewN | apply R_drew)); exact (Kd.R_mono (Kd.R_far (p := ⟨gb431, 2, none⟩) (Kd.R_far (p := ⟨gb431, 1, none⟩) (Kd.R_far (p := ⟨gb431, 0, none⟩) (Kd.R_mono HO_9.out (fun k_ hk => (⟨hk, hk.2⟩ : _ ∧ k_ ≠ gb431))) (fun _ hk => hk.2) (.int .i64 t424)) (fun _ hk => hk.2) (.int .i64 t425)) (fun _ hk => hk.2) (.int .i64 t426)) (fun _ h_ => h_.1))) hb); have n2_ := Aside0.mk (R_below (by (with_reducible repeat (first | apply R_alloc | apply R_drewN | apply R_drew)); exact (Kd.R_mono (Kd.R_far (p := ⟨gb431, 2, none⟩) (Kd.R_far (p := ⟨gb431, 1, none⟩) (Kd.R_far (p := ⟨gb431, 0, none⟩) (Kd.R_mono HO423.out (fun k_ hk => (⟨hk, hk.2⟩ : _ ∧ k_ ≠ gb431))) (fun _ hk => hk.2) (.int .i64 t424)) (fun _ hk => hk.2) (.int .i64 t425)) (fun _ hk => hk.2) (.int .i64 t426)) (fun _ h_ => h_.1))) hb); have n3_ := Aside0.mk (R_below (by (with_reducible repeat (first | apply R_alloc | apply R_drewN | apply R_drew)); exact (Kd.R_mono (Kd.R_far (p := ⟨gb431, 2, none⟩) (Kd.R_far (p := ⟨gb431, 1, none⟩) (Kd.R_far (p := ⟨gb431, 0, none⟩) (Kd.R_mono HO429.out (fun k_ hk => (⟨hk, hk.2⟩ : _ ∧ k_ ≠ gb431))) (fun _ hk => hk.2) (.int .i64 t424)) (fun _ hk => hk.2) (.int .i64 t425)) (fun _ hk => hk.2) (.int .i64 t426)) (fun _ h_ => h_.1))) hb); have n4_ := Aside0.mk (blk_below (g := gb396) (o := .cells #[.int .i64 t389, .int .i64 t390, .int .i64 t391] 31 (0, 0)) (by (with_reducible repeat (first | refine blk_drewN ?_ _ | refine blk_drew ?_ | refine blk_alloc ?_ _)); refine blk_far ?_ NB396_431.out _; (with_reducible repeat (first | refine blk_drewN ?_ _ | refine blk_drew ?_ | refine blk_alloc ?_ _)); refine blk_far ?_ NB396_431.out _; (with_reducible repeat (first | refine blk_drewN ?_ _ | refine blk_drew ?_ | refine blk_alloc ?_ _)); refine blk_far ?_ NB396_431.out _; (with_reducible repeat (first | refine blk_drewN ?_ _ | refine blk_drew ?_ | refine blk_alloc ?_ _)); exact BK396.out) hb); have n5_ := Aside0.mk (blk_below (g := gb407) (o := .cells #[.int .i64 t400, .int .i64 t401, .int .i64 t402] 31 (0, 0)) (by (with_reducible repeat (first | refine blk_drewN ?_ _ | refine blk_drew ?_ | refine blk_alloc ?_ _)); refine blk_far ?_ NB407_431.out _; (with_reducible repeat (first | refine blk_drewN ?_ _ | refine blk_drew ?_ | refine blk_alloc ?_ _)); refine blk_far ?_ NB407_431.out _; (with_reducible repeat (first | refine blk_drewN ?_ _ | refine blk_drew ?_ | refine blk_alloc ?_ _)); refine blk_far ?_ NB407_431.out _; (with_reducible repeat (first | refine blk_drewN ?_ _ | refine blk_drew ?_ | refine blk_alloc ?_ _)); exact BK407.out) hb); have n6_ := Aside0.mk (blk_below (g := gb431) (o := .cells #[.int .i64 t424, .int .i64 t425, .int .i64 t426] 31 (0, 0)) (by (with_reducible repeat (first | refine blk_drewN ?_ _ | refine blk_drew ?_ | refine blk_alloc ?_ _)); refine blk_put (cs := #[.int .i64 t424, .int .i64 t425, .int .i64 0]) ?_ 2 _ rfl; (with_reducible repeat (first | refine blk_drewN ?_ _ | refine blk_drew ?_ | refine blk_alloc ?_ _)); refine blk_put (cs := #[.int .i64 t424, .int .i64 0, .int .i64 0]) ?_ 1 _ rfl; (with_reducible repeat (first | refine blk_drewN ?_ _ | refine blk_drew ?_ | refine blk_alloc ?_ _)); refine blk_put (cs := #[.int .i64 0, .int .i64 0, .int .i64 0]) ?_ 0 _ rfl; (with_reducible repeat (first | refine blk_drewN ?_ _ | refine blk_drew ?_ | refine blk_alloc ?_ _)); exact BK431.out) hb); have n7_ := Aside0.mk (below_step (by repeat (first | (with_reducible first | exact HB.out | apply below_alloc | apply pw_below_drewN | apply below_drew1 | refine below_set ?_ GE396.out | refine below_set ?_ GE407.out | refine below_set ?_ GE431.out) | exact HB.out)) hb); clear HO_5; clear HO_9; clear HO423; clear HO429; clear BK396; clear BK407; clear BK431; clear HB; have HO_5 := n0_; have HO_9 := n1_; have HO423 := n2_; have HO429 := n3_; have BK396 := n4_; have BK407 := n5_; have BK431 := n6_; have HB := n7_; clear n0_ n1_ n2_ n3_ n4_ n5_ n6_ n7_; (try clear hb); (try clear hb2); (try clear hk); (try clear hi)))
                          go_meet
                          case rel => exact ⟨_, (true), (by first | rfl | (simp; done) | (simp [*]; done)), H', ⟨by have := HJ7.out; have := HJ46.out; first | omega | exact Nat.le_refl _⟩, ⟨by (with_reducible repeat (first | apply R_alloc | apply R_drewN | apply R_drew)); exact Kd.R_mono HO_9.out (fun _ hk => ⟨hk.1.1.1.2.1, ⟨hk.1.1.1.2.2, hk.2⟩⟩)⟩, ⟨by (with_reducible repeat (first | refine blk_drewN ?_ _ | refine blk_drew ?_ | refine blk_alloc ?_ _)); exact BK396.out⟩, ⟨by (with_reducible repeat (first | refine blk_drewN ?_ _ | refine blk_drew ?_ | refine blk_alloc ?_ _)); exact BK407.out⟩, ⟨by (with_reducible repeat (first | refine blk_drewN ?_ _ | refine blk_drew ?_ | refine blk_alloc ?_ _)); exact BK431.out⟩, ⟨by repeat (first | (with_reducible first | exact HB.out | apply below_alloc | apply pw_below_drewN | apply below_drew1 | refine below_set ?_ GE396.out | refine below_set ?_ GE407.out | refine below_set ?_ GE431.out) | exact HB.out)⟩⟩
                      case rest =>
                        clear HC84
                        try clear c1
                        try clear c2
                        try clear p2
                        try clear c3
                        try clear c3b0
                        try clear c4
                        try clear c5
                        try clear c6
                        try clear c7
                        try clear c8
                        try clear c9
                        try clear c10
                        try clear c11
                        try clear c15
                        try clear c17
                        try clear c18
                        try clear c19
                        try clear c21
                        try clear c22
                        try clear c23
                        try clear c24
                        try clear c25
                        try clear c26
                        try clear c31
                        try clear c38
                        try clear c42
                        try clear c45
                        try clear c52
                        try clear c52b0
                        try clear c54
                        try clear c56
                        try clear c57
                        try clear c64
                        try clear c71
                        try clear c75
                        try clear c78
                        try clear c78b0
                        try clear c81
                        try clear c81b0
                        try clear c81b1
                        try clear c91
                        try clear c92
                        try clear c95
                        try clear c97
                        try clear c98
                        try clear c99
                        try clear c101
                        try clear c107
                        try clear c108
                        try clear c110
                        try clear c116
                        try clear c117
                        try clear c119
                        try clear hcz100_0
                        try clear hcz100_1
                        try clear hcz100_2
                        try clear hcz102_0
                        try clear hcz102_1
                        try clear hcz102_2
                        try clear hcz109_0
                        try clear hcz109_1
                        try clear hcz109_2
                        try clear hcz111_0
                        try clear hcz111_1
                        try clear hcz111_2
                        try clear hcz118_0
                        try clear hcz118_1
                        try clear hcz118_2
                        try clear hcz120_0
                        try clear hcz120_1
                        try clear hcz120_2
                        try clear hcz13_0
                        try clear hcz13_1
                        try clear hcz13_2
                        try clear hcz19_0
                        try clear hcz19_1
                        try clear hcz19_2
                        try clear hcz25_0
                        try clear hcz25_1
                        try clear hcz25_2
                        try clear hcz26_0
                        try clear hcz26_1
                        try clear hcz26_2
                        try clear hcz32_0
                        try clear hcz32_1
                        try clear hcz32_2
                        try clear hcz33_0
                        try clear hcz33_1
                        try clear hcz33_2
                        try clear hcz39_0
                        try clear hcz39_1
                        try clear hcz39_2
                        try clear hcz40_0
                        try clear hcz40_1
                        try clear hcz40_2
                        try clear hcz58_0
                        try clear hcz58_1
                        try clear hcz58_2
                        try clear hcz59_0
                        try clear hcz59_1
                        try clear hcz59_2
                        try clear hcz65_0
                        try clear hcz65_1
                        try clear hcz65_2
                        try clear hcz66_0
                        try clear hcz66_1
                        try clear hcz66_2
                        try clear hcz72_0
                        try clear hcz72_1
                        try clear hcz72_2
                        try clear hcz73_0
                        try clear hcz73_1
                        try clear hcz73_2
                        try clear hcz93_0
                        try clear hcz93_1
                        try clear hcz93_2
                        try clear hfz100_0
                        try clear hfz100_1
                        try clear hfz100_2
                        try clear hfz102_0
                        try clear hfz102_1
                        try clear hfz102_2
                        try clear hfz109_0
                        try clear hfz109_1
                        try clear hfz109_2
                        try clear hfz111_0
                        try clear hfz111_1
                        try clear hfz111_2
                        try clear hfz118_0
                        try clear hfz118_1
                        try clear hfz118_2
                        try clear hfz120_0
                        try clear hfz120_1
                        try clear hfz120_2
                        try clear hfz13_0
                        try clear hfz13_1
                        try clear hfz13_2
                        try clear hfz19_0
                        try clear hfz19_1
                        try clear hfz19_2
                        try clear hfz25_0
                        try clear hfz25_1
                        try clear hfz25_2
                        try clear hfz26_0
                        try clear hfz26_1
                        try clear hfz26_2
                        try clear hfz32_0
                        try clear hfz32_1
                        try clear hfz32_2
                        try clear hfz33_0
                        try clear hfz33_1
                        try clear hfz33_2
                        try clear hfz39_0
                        try clear hfz39_1
                        try clear hfz39_2
                        try clear hfz40_0
                        try clear hfz40_1
                        try clear hfz40_2
                        try clear hfz58_0
                        try clear hfz58_1
                        try clear hfz58_2
                        try clear hfz59_0
                        try clear hfz59_1
                        try clear hfz59_2
                        try clear hfz65_0
                        try clear hfz65_1
                        try clear hfz65_2
                        try clear hfz66_0
                        try clear hfz66_1
                        try clear hfz66_2
                        try clear hfz72_0
                        try clear hfz72_1
                        try clear hfz72_2
                        try clear hfz73_0
                        try clear hfz73_1
                        try clear hfz73_2
                        try clear hfz93_0
                        try clear hfz93_1
                        try clear hfz93_2
                        try clear p2
                        obtain ⟨kq, x111_83, rfl, HA, HJ83, HO_9, BK396, BK407, BK431, HB⟩ := hcut
                        have hl9_83 := (R_reads' HO_9.out).1
                        rw [hl9_83] at HO_9
                        (try simp only [hl9_83])
                        (try simp only [hl9_83] at BK396)
                        (try simp only [hl9_83] at BK407)
                        (try simp only [hl9_83] at BK431)
                        cases kq with
                        | zero => exact absurd HA.out (by simp [laws_FnExactShifted.j2])
                        | succ kj83 =>
                          have H := HA.out
                          clear HA
                          simp only [laws_FnExactShifted.j2] at H
                          by_cases c122 : x111_83 = true
                          · subst c122
                            have H1 : (some false) = some r := by rw [if_pos rfl] at H; exact H
                            clear H
                            have H := H1
                            clear H1
                            obtain rfl := Option.some.inj H
                            go_wp2
                            go_ret
                            exact ⟨by first | rfl | (simp [errW_none, errW_some] <;> rfl) | (simp [*, errW_none, errW_some] <;> rfl), by repeat (first | (with_reducible first | exact HB.out | apply below_alloc | apply pw_below_drewN | apply below_drew1 | refine below_set ?_ GE396.out | refine below_set ?_ GE407.out | refine below_set ?_ GE431.out) | exact HB.out)⟩
                          · replace c122 := Bool.eq_false_iff.mpr c122
                            subst c122
                            have H1 : ((laws_heldTwigS.f kj83 t419 1).bind fun t434 => (if t434 < 0 then (some false) else (if t434 = t418 then (some true) else (some false)))) = some r := by rw [if_neg (show ¬ (false = true) by decide)] at H; exact H
                            clear H
                            have H := H1
                            clear H1
                            replace H := bind_eq_some_iff.mp H
                            obtain ⟨t434, A1230, H⟩ := H
                            replace H : (if t434 < 0 then (some false) else (if t434 = t418 then (some true) else (some false))) = some r := H
                            have A123 := Aside0.mk A1230
                            clear A1230
                            by_cases c124 : t434 < 0
                            · rw [if_pos c124] at H
                              have c124b0 : decide (t434 < 0) = true := decide_eq_true c124
                              clear c124
                              obtain rfl := Option.some.inj H
                              go_wp2_with (first | ((with_reducible refine gate_callee (f := 26) rfl ?_); refine goesL_ (some 114) rfl rfl Try.func26 (by kernel_rfl) rfl #[.slice Ao85 t419.length co85, .int .i64 1] rfl (by (try simp only [map_toArray, map_cons, map_nil]); first | done | rfl | (simp only [length_drop, length_take]; rfl)) ?_; (with_reducible refine (laws_heldTwigS.calls kj83 _ _ t419 1 t434 _ ?side1 ?side2 A123.out).mono ?_); (case side1 => repeat (first | exact (R_reads' HO_9.out).2.2 | (with_reducible refine C_alloc ?_ _) | (with_reducible refine C_drewN ?_ _) | (with_reducible refine C_drew ?_))); (case side2 => exact (R_reads' HO_9.out).2.1); rintro e w' ⟨rfl, ⟨nd, rfl⟩⟩; refine ⟨_, rfl, ?_⟩))
                              go_ret
                              exact ⟨by first | rfl | (simp [errW_none, errW_some] <;> rfl) | (simp [*, errW_none, errW_some] <;> rfl), by repeat (first | (with_reducible first | exact HB.out | apply below_alloc | apply pw_below_drewN | apply below_drew1 | refine below_set ?_ GE396.out | refine below_set ?_ GE407.out | refine below_set ?_ GE431.out) | exact HB.out)⟩
                            · rw [if_neg c124] at H
                              have c124b0 : decide (t434 < 0) = false := decide_eq_false c124
                              clear c124
                              by_cases c125 : t434 = t418
                              · rw [if_pos c125] at H
                                have c125b0 : (t434 == t418) = true := beq_iff_eq.mpr c125
                                have c125b1 : (t434 != t418) = false := bne_eq_false_iff_eq.mpr c125
                                clear c125
                                obtain rfl := Option.some.inj H
                                go_wp2_with (first | ((with_reducible refine gate_callee (f := 26) rfl ?_); refine goesL_ (some 114) rfl rfl Try.func26 (by kernel_rfl) rfl #[.slice Ao85 t419.length co85, .int .i64 1] rfl (by (try simp only [map_toArray, map_cons, map_nil]); first | done | rfl | (simp only [length_drop, length_take]; rfl)) ?_; (with_reducible refine (laws_heldTwigS.calls kj83 _ _ t419 1 t434 _ ?side1 ?side2 A123.out).mono ?_); (case side1 => repeat (first | exact (R_reads' HO_9.out).2.2 | (with_reducible refine C_alloc ?_ _) | (with_reducible refine C_drewN ?_ _) | (with_reducible refine C_drew ?_))); (case side2 => exact (R_reads' HO_9.out).2.1); rintro e w' ⟨rfl, ⟨nd, rfl⟩⟩; refine ⟨_, rfl, ?_⟩))
                                go_ret
                                exact ⟨by first | rfl | (simp [errW_none, errW_some] <;> rfl) | (simp [*, errW_none, errW_some] <;> rfl), by repeat (first | (with_reducible first | exact HB.out | apply below_alloc | apply pw_below_drewN | apply below_drew1 | refine below_set ?_ GE396.out | refine below_set ?_ GE407.out | refine below_set ?_ GE431.out) | exact HB.out)⟩
                              · rw [if_neg c125] at H
                                have c125b0 : (t434 == t418) = false := beq_eq_false_iff_ne.mpr c125
                                have c125b1 : (t434 != t418) = true := bne_iff_ne.mpr c125
                                obtain rfl := Option.some.inj H
                                go_wp2_with (first | ((with_reducible refine gate_callee (f := 26) rfl ?_); refine goesL_ (some 114) rfl rfl Try.func26 (by kernel_rfl) rfl #[.slice Ao85 t419.length co85, .int .i64 1] rfl (by (try simp only [map_toArray, map_cons, map_nil]); first | done | rfl | (simp only [length_drop, length_take]; rfl)) ?_; (with_reducible refine (laws_heldTwigS.calls kj83 _ _ t419 1 t434 _ ?side1 ?side2 A123.out).mono ?_); (case side1 => repeat (first | exact (R_reads' HO_9.out).2.2 | (with_reducible refine C_alloc ?_ _) | (with_reducible refine C_drewN ?_ _) | (with_reducible refine C_drew ?_))); (case side2 => exact (R_reads' HO_9.out).2.1); rintro e w' ⟨rfl, ⟨nd, rfl⟩⟩; refine ⟨_, rfl, ?_⟩))
                                go_ret
                                exact ⟨by first | rfl | (simp [errW_none, errW_some] <;> rfl) | (simp [*, errW_none, errW_some] <;> rfl), by repeat (first | (with_reducible first | exact HB.out | apply below_alloc | apply pw_below_drewN | apply below_drew1 | refine below_set ?_ GE396.out | refine below_set ?_ GE407.out | refine below_set ?_ GE431.out) | exact HB.out)⟩
                    · rw [if_neg c81] at H
                      have c81b0 : (t420 == t418) = false := beq_eq_false_iff_ne.mpr c81
                      have c81b1 : (t420 != t418) = true := bne_iff_ne.mpr c81
                      obtain rfl := Option.some.inj H
                      obtain ⟨Ao126, co126, eo126⟩ := Kd.R_slice HO_9.out
                      subst eo126
                      go_wp2_with (first | ((with_reducible refine gate_callee (f := 25) rfl ?_); refine goesL_ (some 81) rfl rfl Try.func25 (by kernel_rfl) rfl #[.slice Ao126 t403.length co126, .int .i64 1] rfl (by (try simp only [map_toArray, map_cons, map_nil]); first | done | rfl | (simp only [length_drop, length_take]; rfl)) ?_; (with_reducible refine (laws_markTwigS.calls kj46 (fun k_ => some k_ = (.slice Ao126 t403.length co126 : Value).ownBlock) (.slice Ao126 t403.length co126) t403 1 t418 t419 w _ ?side1 ?side2 A76.out).mono ?_); (case side1 => repeat (first | (with_reducible first | exact HB.out | apply below_alloc | apply pw_below_drewN | apply below_drew1 | refine below_set ?_ GE396.out | refine below_set ?_ GE407.out) | exact HB.out)); (case side2 => exact Kd.R_tight rfl HO_9.out); rintro e w127 ⟨rfl, hy0, hb, hkp⟩; refine ⟨_, rfl, ?_⟩; have n0_ := Aside0.mk (Kd.R_mono (ok' := fun k_ => some k_ ≠ (.slice Ao126 t403.length co126 : Value).ownBlock ∧ k_ ≠ gb396 ∧ k_ ≠ gb407) (Kd.R_keptB (HO_5.out) hkp (fun k_ hk_ hs_ => (hk_.1) hs_)) (fun k_ hk_ => ⟨hk_.1.1, hk_.1.2.1, hk_.1.2.2⟩)); have n1_ := Aside0.mk (Kd.R_reok rfl hy0 (fun k_ e_ => HO_9.out.1 k_ e_)); have n2_ := Aside0.mk (blk_kept (by (with_reducible repeat (first | refine blk_drewN ?_ _ | refine blk_drew ?_ | refine blk_alloc ?_ _)); exact BK396.out) hkp (fun hs_ => (fun e_ => (Kd.R_away HO_9.out (fun _ hk => hk.2.1)) e_) hs_)); have n3_ := Aside0.mk (blk_kept (by (with_reducible repeat (first | refine blk_drewN ?_ _ | refine blk_drew ?_ | refine blk_alloc ?_ _)); exact BK407.out) hkp (fun hs_ => (fun e_ => (Kd.R_away HO_9.out (fun _ hk => hk.2.2)) e_) hs_)); have n4_ := Aside0.mk (hb); clear HO_5; clear HO_9; clear BK396; clear BK407; clear HB; have HO_5 := n0_; have HO_9 := n1_; have BK396 := n2_; have BK407 := n3_; have HB := n4_; clear n0_ n1_ n2_ n3_ n4_; (try clear hb); (try clear hkp); (try clear hy0)) | ((with_reducible refine gate_callee (f := 26) rfl ?_); refine goesL_ (some 84) rfl rfl Try.func26 (by kernel_rfl) rfl #[.slice Ao126 t419.length co126, .int .i64 1] rfl (by (try simp only [map_toArray, map_cons, map_nil]); first | done | (rw [show t419.length = t403.length from (R_reads' HO_9.out).1.symm] <;> rfl) | rfl | (simp only [length_drop, length_take]; rfl)) ?_; (with_reducible refine (laws_heldTwigS.calls kj46 _ _ t419 1 t420 _ ?side1 ?side2 A77.out).mono ?_); (case side1 => repeat (first | exact (R_reads' HO_9.out).2.2 | (with_reducible refine C_alloc ?_ _) | (with_reducible refine C_drewN ?_ _) | (with_reducible refine C_drew ?_))); (case side2 => rw [show t419.length = t403.length from (R_reads' HO_9.out).1.symm]; exact (R_reads' HO_9.out).2.1); rintro e w' ⟨rfl, ⟨nd, rfl⟩⟩; refine ⟨_, rfl, ?_⟩))
                      go_ret
                      exact ⟨by first | rfl | (simp [errW_none, errW_some] <;> rfl) | (simp [*, errW_none, errW_some] <;> rfl), by repeat (first | (with_reducible first | exact HB.out | apply below_alloc | apply pw_below_drewN | apply below_drew1 | refine below_set ?_ GE396.out | refine below_set ?_ GE407.out) | exact HB.out)⟩
          · replace c45 := Bool.eq_false_iff.mpr c45
            subst c45
            have H1 : (some false) = some r := by rw [if_neg (show ¬ (false = true) by decide)] at H; exact H
            clear H
            have H := H1
            clear H1
            obtain rfl := Option.some.inj H
            go_wp2_with (first | ((with_reducible refine gate_callee (f := 17) rfl ?_); refine goesL_ (some 54) rfl rfl Try.func17 (by kernel_rfl) rfl #[.slice A0 l0.length c0] rfl (by (try simp only [map_toArray, map_cons, map_nil]); first | done | rfl | (simp only [length_drop, length_take]; rfl)) ?_; (with_reducible refine (laws_toTwigS.calls kj7 _ _ l0 t410 _ ?side1 ?side2 A43.out).mono ?_); (case side1 => repeat (first | exact (C_below HR0.out HB.out) | (with_reducible refine C_alloc ?_ _) | (with_reducible refine C_drewN ?_ _) | (with_reducible refine C_drew ?_))); (case side2 => exact HC0.out); rintro e w128 ⟨v411, rfl, ho0, hb⟩; refine ⟨_, rfl, ?_⟩; have n0_ := Aside0.mk (Kd.R_elder' (by (with_reducible repeat (first | apply R_alloc | apply R_drewN | apply R_drew)); exact HO_5.out) (Kd.R_base ho0) hb); have n1_ := Aside0.mk (Kd.R_elder' (by (with_reducible repeat (first | apply R_alloc | apply R_drewN | apply R_drew)); exact HO_7.out) (Kd.R_base ho0) hb); have n2_ := Aside0.mk (Kd.R_elder' (by (with_reducible repeat (first | apply R_alloc | apply R_drewN | apply R_drew)); exact HO_9.out) (Kd.R_base ho0) hb); have n3_ := Aside0.mk (Kd.R_lower (Kd.R_newB (Kd.R_newB (Kd.R_new' (Kd.R_new' (Kd.R_new' ho0 (Kd.R_lt (by (with_reducible repeat (first | apply R_alloc | apply R_drewN | apply R_drew)); exact HO_5.out))) (Kd.R_lt (by (with_reducible repeat (first | apply R_alloc | apply R_drewN | apply R_drew)); exact HO_7.out))) (Kd.R_lt (by (with_reducible repeat (first | apply R_alloc | apply R_drewN | apply R_drew)); exact HO_9.out))) (g := gb396) (o := .cells #[.int .i64 t389, .int .i64 t390, .int .i64 t391] 31 (0, 0)) (by (with_reducible repeat (first | refine blk_drewN ?_ _ | refine blk_drew ?_ | refine blk_alloc ?_ _)); exact BK396.out)) (g := gb407) (o := .cells #[.int .i64 t400, .int .i64 t401, .int .i64 t402] 31 (0, 0)) (by (with_reducible repeat (first | refine blk_drewN ?_ _ | refine blk_drew ?_ | refine blk_alloc ?_ _)); exact BK407.out)) (below_size (by repeat (first | (with_reducible first | exact HB.out | apply below_alloc | apply pw_below_drewN | apply below_drew1 | refine below_set ?_ GE396.out | refine below_set ?_ GE407.out) | exact HB.out)))); have n4_ := Aside0.mk (blk_below (g := gb396) (o := .cells #[.int .i64 t389, .int .i64 t390, .int .i64 t391] 31 (0, 0)) (by (with_reducible repeat (first | refine blk_drewN ?_ _ | refine blk_drew ?_ | refine blk_alloc ?_ _)); exact BK396.out) hb); have n5_ := Aside0.mk (blk_below (g := gb407) (o := .cells #[.int .i64 t400, .int .i64 t401, .int .i64 t402] 31 (0, 0)) (by (with_reducible repeat (first | refine blk_drewN ?_ _ | refine blk_drew ?_ | refine blk_alloc ?_ _)); exact BK407.out) hb); have n6_ := Aside0.mk (below_step (by repeat (first | (with_reducible first | exact HB.out | apply below_alloc | apply pw_below_drewN | apply below_drew1 | refine below_set ?_ GE396.out | refine below_set ?_ GE407.out) | exact HB.out)) hb); clear HO_5; clear HO_7; clear HO_9; clear BK396; clear BK407; clear HB; have HO_5 := n0_; have HO_7 := n1_; have HO_9 := n2_; have HO412 := n3_; have BK396 := n4_; have BK407 := n5_; have HB := n6_; clear n0_ n1_ n2_ n3_ n4_ n5_ n6_; (try clear hb); (try clear hb2); (try clear hk); (try clear hi); (try clear ho0); obtain ⟨Ao129, co129, eo129⟩ := Kd.R_slice HO412.out; subst eo129) | ((with_reducible refine gate_callee (f := 19) rfl ?_); refine goesL_ (some 55) rfl rfl Try.func19 (by kernel_rfl) rfl #[.slice Ao15 t397.length co15, .slice Ao129 t410.length co129] rfl (by (try simp only [map_toArray, map_cons, map_nil]); first | done | rfl | (simp only [length_drop, length_take]; rfl)) ?_; (with_reducible refine (laws_eqTwigS.calls kj7 _ _ t397 _ _ t410 false _ ?side1 ?side2 ?side3 ?side4 A44.out).mono ?_); (case side1 => repeat (first | exact (R_reads' HO_7.out).2.2 | (with_reducible refine C_alloc ?_ _) | (with_reducible refine C_drewN ?_ _) | (with_reducible refine C_drew ?_))); (case side2 => exact (R_reads' HO_7.out).2.1); (case side3 => repeat (first | exact (R_reads' HO412.out).2.2 | (with_reducible refine C_alloc ?_ _) | (with_reducible refine C_drewN ?_ _) | (with_reducible refine C_drew ?_))); (case side4 => exact (R_reads' HO412.out).2.1); rintro e w130 ⟨rfl, hb⟩; refine ⟨_, rfl, ?_⟩; have n0_ := Aside0.mk (R_below (by (with_reducible repeat (first | apply R_alloc | apply R_drewN | apply R_drew)); exact HO_5.out) hb); have n1_ := Aside0.mk (R_below (by (with_reducible repeat (first | apply R_alloc | apply R_drewN | apply R_drew)); exact HO_7.out) hb); have n2_ := Aside0.mk (R_below (by (with_reducible repeat (first | apply R_alloc | apply R_drewN | apply R_drew)); exact HO_9.out) hb); have n3_ := Aside0.mk (R_below (by (with_reducible repeat (first | apply R_alloc | apply R_drewN | apply R_drew)); exact HO412.out) hb); have n4_ := Aside0.mk (blk_below (g := gb396) (o := .cells #[.int .i64 t389, .int .i64 t390, .int .i64 t391] 31 (0, 0)) (by (with_reducible repeat (first | refine blk_drewN ?_ _ | refine blk_drew ?_ | refine blk_alloc ?_ _)); exact BK396.out) hb); have n5_ := Aside0.mk (blk_below (g := gb407) (o := .cells #[.int .i64 t400, .int .i64 t401, .int .i64 t402] 31 (0, 0)) (by (with_reducible repeat (first | refine blk_drewN ?_ _ | refine blk_drew ?_ | refine blk_alloc ?_ _)); exact BK407.out) hb); have n6_ := Aside0.mk (below_step (by repeat (first | (with_reducible first | exact HB.out | apply below_alloc | apply pw_below_drewN | apply below_drew1 | refine below_set ?_ GE396.out | refine below_set ?_ GE407.out) | exact HB.out)) hb); clear HO_5; clear HO_7; clear HO_9; clear HO412; clear BK396; clear BK407; clear HB; have HO_5 := n0_; have HO_7 := n1_; have HO_9 := n2_; have HO412 := n3_; have BK396 := n4_; have BK407 := n5_; have HB := n6_; clear n0_ n1_ n2_ n3_ n4_ n5_ n6_; (try clear hb); (try clear hb2); (try clear hk); (try clear hi)))
            go_ret
            exact ⟨by first | rfl | (simp [errW_none, errW_some] <;> rfl) | (simp [*, errW_none, errW_some] <;> rfl), by repeat (first | (with_reducible first | exact HB.out | apply below_alloc | apply pw_below_drewN | apply below_drew1 | refine below_set ?_ GE396.out | refine below_set ?_ GE407.out) | exact HB.out)⟩
end Go.Proofs.Ytljfflhbabkbgaa.PFnExactShifted
