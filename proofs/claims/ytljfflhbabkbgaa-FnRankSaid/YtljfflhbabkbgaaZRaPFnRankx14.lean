/- Texts of the claim of the law FnRank, made smaller by a program of this session: what the claim does not use is left out. No condition. -/
import Derived.Test.YtljfflhbabkbgaaZRaPFnRankx0
import Derived.Test.YtljfflhbabkbgaaZRaPFnRankx1
import Derived.Test.YtljfflhbabkbgaaZRaPFnRankx4
import Derived.Test.YtljfflhbabkbgaaZRaPFnRankx7
import Derived.Test.YtljfflhbabkbgaaZRaPFnRankx9
import Derived.Test.YtljfflhbabkbgaaZRaPFnRankx11
import Derived.Test.YtljfflhbabkbgaaZRaPFnRankx13
namespace Go.Proofs.Ytljfflhbabkbgaa.PFnRank
open Go.RowKit Go.Proofs.YtljfflhbabkbgaaW.PrintWords Go.Proofs.YtljfflhbabkbgaaW.PrintLast Go.Proofs.YtljfflhbabkbgaaW.PrintMore
open List (length_drop)
open Option (bind_eq_some_iff)
open Go.World (drewN_drewN)
open Kd (R_drew R_drewN R_alloc C_drewN C_drew C_alloc R_reads' R_below)
attribute [local go_sem] max2_int min2_int max_two min_two max_three min_three max_four min_four   -- for this text's walks alone
set_option linter.unusedVariables false
set_option linter.unusedSimpArgs false
attribute [local go_sem high] eqA31
mutual
def laws_FnRank.l0 : Nat → List (S31) → List (S31) → List (S31) → Int → Int → Option (Bool)
 | 0, _, _, _, _, _ => none
 | k + 1, x3, x4, x5, x9, x10 => if x10 > 0 then (laws_FnRank.l0 k x3 x4 x5 (wrap64 (x9 * 2)) (wrap64 (x10 - 1))) else (if (x5.length : Int) = (wrap64 ((x3.length : Int) + (x4.length : Int))) then (if (x5.length : Int) < (wrap64 (x9 - 1)) then (laws_FnRank.j1 k x3 x4 x5 true) else ((spec_HeapOk.f k x5).bind fun t555 => (if t555 = true then ((impl_RankOf.f k x5).bind fun t556 => (laws_FnRank.j1 k x3 x4 x5 (decide (t556 < 0)))) else (laws_FnRank.j1 k x3 x4 x5 true)))) else (laws_FnRank.j1 k x3 x4 x5 true))
def laws_FnRank.j1 : Nat → List (S31) → List (S31) → List (S31) → Bool → Option (Bool)
 | 0, _, _, _, _ => none
 | k + 1, x3, x4, x5, x71 => if x71 = true then (some false) else ((impl_Sorted.f k x5).bind fun t557 => ((impl_Sorted.f k x3).bind fun t560 => ((impl_Sorted.f k x4).bind fun t563 => (laws_FnRank.l1 k t557 t560 t563 0))))
def laws_FnRank.l1 : Nat → List (S31) → List (S31) → List (S31) → Int → Option (Bool)
 | 0, _, _, _, _ => none
 | k + 1, x11, x12, x13, x14 => if x14 < (x11.length : Int) then (if (x12.length : Int) > 0 then (if 0 < (x12.length : Int) then (if 0 ≤ x14 then (laws_FnRank.j3 k x11 x12 x13 x14 (((rd_T31 x12 0).f0) == ((rd_T31 x11 x14).f0) && (((rd_T31 x12 0).f1) == ((rd_T31 x11 x14).f1) && (((rd_T31 x12 0).f2) == ((rd_T31 x11 x14).f2))))) else (none)) else (none)) else (laws_FnRank.j3 k x11 x12 x13 x14 false)) else (if (x12.length : Int) = 0 then (some ((x13.length : Int) == 0)) else (some false))
def laws_FnRank.j3 : Nat → List (S31) → List (S31) → List (S31) → Int → Bool → Option (Bool)
 | 0, _, _, _, _, _ => none
 | k + 1, x11, x12, x13, x14, x96 => if x96 = true then (if 1 ≤ (x12.length : Int) then (laws_FnRank.l1 k x11 (x12.drop (1 : Int).toNat) x13 (wrap64 (x14 + 1))) else (none)) else (if (x13.length : Int) > 0 then (if 0 < (x13.length : Int) then (if 0 ≤ x14 then (if x14 < (x11.length : Int) then (if (((rd_T31 x13 0).f0) == ((rd_T31 x11 x14).f0) && (((rd_T31 x13 0).f1) == ((rd_T31 x11 x14).f1) && (((rd_T31 x13 0).f2) == ((rd_T31 x11 x14).f2)))) = true then (if 1 ≤ (x13.length : Int) then (laws_FnRank.l1 k x11 x12 (x13.drop (1 : Int).toNat) (wrap64 (x14 + 1))) else (none)) else (some false)) else (none)) else (none)) else (none)) else (some false))
end
def laws_FnRank.f (k : Nat) (l0 : List Int) : Option (Bool) := (laws_big.f l0).bind fun t539 => (if t539 = true then (some true) else ((spec_DrawMerged.f k l0).bind fun bt540 => ((impl_Merged.f k bt540.1 bt540.2).bind fun bt546 => ((spec_Merged.f k bt540.1 bt540.2).bind fun bt550 => (if (bt546.2 != bt550.2) = true then (some false) else (if bt546.2 = true then ((impl_RankOf.f k bt546.1).bind fun t554 => (laws_FnRank.l0 k bt540.1 bt540.2 bt546.1 1 t554)) else (some true)))))))
set_option maxHeartbeats 8000000 in
set_option maxRecDepth 100000 in
theorem laws_FnRank.calls (k : Nat) (A0 : Option Addr) (c0 : Nat) (l0 : List Int) (r : Bool) (w : World) (hr0 : Kd.C (Kd.int .u8) w A0 l0.length l0) (hc0 : l0.length ≤ c0) (h : laws_FnRank.f k l0 = some r) :
  Calls Try.prog 13 #[.slice A0 l0.length c0] w fun e w' => e = .returned (.bool r) ∧ Below w.heap.size w w' := by
 have hu31 := Try.underlying31
 have HR0 := Aside0.mk hr0
 have HC0 := Aside0.mk hc0
 clear hr0 hc0
 have HB := Aside0.mk (Below.refl w.heap.size w)
 have H : ((laws_big.f l0).bind fun t539 => (if t539 = true then (some true) else ((spec_DrawMerged.f k l0).bind fun bt540 => ((impl_Merged.f k bt540.1 bt540.2).bind fun bt546 => ((spec_Merged.f k bt540.1 bt540.2).bind fun bt550 => (if (bt546.2 != bt550.2) = true then (some false) else (if bt546.2 = true then ((impl_RankOf.f k bt546.1).bind fun t554 => (laws_FnRank.l0 k bt540.1 bt540.2 bt546.1 1 t554)) else (some true)))))))) = some r := h
 clear h
 replace H := bind_eq_some_iff.mp H
 obtain ⟨t539, A20, H⟩ := H
 replace H : (if t539 = true then (some true) else ((spec_DrawMerged.f k l0).bind fun bt540 => ((impl_Merged.f k bt540.1 bt540.2).bind fun bt546 => ((spec_Merged.f k bt540.1 bt540.2).bind fun bt550 => (if (bt546.2 != bt550.2) = true then (some false) else (if bt546.2 = true then ((impl_RankOf.f k bt546.1).bind fun t554 => (laws_FnRank.l0 k bt540.1 bt540.2 bt546.1 1 t554)) else (some true))))))) = some r := H
 have A2 := Aside0.mk A20
 clear A20
 by_cases c3 : t539 = true
 ·subst c3
  have H1 : (some true) = some r := by rw [if_pos rfl] at H; exact H
  clear H
  have H := H1
  clear H1
  obtain rfl := Option.some.inj H
  go_enter Try.func13, Try.ntmps13
  go_wp2_with (first | (go_at_call 42; (with_reducible refine (laws_big.calls _ _ l0 true _ ?side1 ?side2 A2.out).mono ?_); (case side1 => repeat (first | exact HR0.out | (with_reducible refine C_alloc ?_ _) | (with_reducible refine C_drewN ?_ _) | (with_reducible refine C_drew ?_))); (case side2 => exact HC0.out); rintro e w' ⟨rfl, ⟨nd, rfl⟩⟩; (try first | exact ⟨rfl, _, drewN_drewN _ _ _⟩ | exact ⟨rfl, _, Eq.trans (drewN_drewN _ _ _) (congrArg (World.drewN _) (Nat.add_assoc _ _ _))⟩)))
  repeat (go_quiet (first | (go_at_call 42; (with_reducible refine (laws_big.calls _ _ l0 true _ ?side1 ?side2 A2.out).mono ?_); (case side1 => repeat (first | exact HR0.out | (with_reducible refine C_alloc ?_ _) | (with_reducible refine C_drewN ?_ _) | (with_reducible refine C_drew ?_))); (case side2 => exact HC0.out); rintro e w' ⟨rfl, ⟨nd, rfl⟩⟩; (try first | exact ⟨rfl, _, drewN_drewN _ _ _⟩ | exact ⟨rfl, _, Eq.trans (drewN_drewN _ _ _) (congrArg (World.drewN _) (Nat.add_assoc _ _ _))⟩))); try go_wp2_with (first | (go_at_call 42; (with_reducible refine (laws_big.calls _ _ l0 true _ ?side1 ?side2 A2.out).mono ?_); (case side1 => repeat (first | exact HR0.out | (with_reducible refine C_alloc ?_ _) | (with_reducible refine C_drewN ?_ _) | (with_reducible refine C_drew ?_))); (case side2 => exact HC0.out); rintro e w' ⟨rfl, ⟨nd, rfl⟩⟩; (try first | exact ⟨rfl, _, drewN_drewN _ _ _⟩ | exact ⟨rfl, _, Eq.trans (drewN_drewN _ _ _) (congrArg (World.drewN _) (Nat.add_assoc _ _ _))⟩))))
  go_ret
  exact ⟨by first | rfl | (simp [errW_none, errW_some] <;> rfl) | (simp [*, errW_none, errW_some] <;> rfl), by repeat (first | (with_reducible first | exact HB.out | apply bwA | apply bwN | apply bw1) | exact HB.out)⟩
 ·replace c3 := Bool.eq_false_iff.mpr c3
  subst c3
  have H1 : ((spec_DrawMerged.f k l0).bind fun bt540 => ((impl_Merged.f k bt540.1 bt540.2).bind fun bt546 => ((spec_Merged.f k bt540.1 bt540.2).bind fun bt550 => (if (bt546.2 != bt550.2) = true then (some false) else (if bt546.2 = true then ((impl_RankOf.f k bt546.1).bind fun t554 => (laws_FnRank.l0 k bt540.1 bt540.2 bt546.1 1 t554)) else (some true)))))) = some r := by rw [if_neg (show ¬ (false = true) by decide)] at H; exact H
  clear H
  have H := H1
  clear H1
  replace H := bind_eq_some_iff.mp H
  obtain ⟨⟨t540, t541⟩, A40, H⟩ := H
  replace H : ((impl_Merged.f k t540 t541).bind fun bt546 => ((spec_Merged.f k t540 t541).bind fun bt550 => (if (bt546.2 != bt550.2) = true then (some false) else (if bt546.2 = true then ((impl_RankOf.f k bt546.1).bind fun t554 => (laws_FnRank.l0 k t540 t541 bt546.1 1 t554)) else (some true))))) = some r := H
  have A4 := Aside0.mk A40
  clear A40
  replace H := bind_eq_some_iff.mp H
  obtain ⟨⟨t546, t547⟩, A50, H⟩ := H
  replace H : ((spec_Merged.f k t540 t541).bind fun bt550 => (if (t547 != bt550.2) = true then (some false) else (if t547 = true then ((impl_RankOf.f k t546).bind fun t554 => (laws_FnRank.l0 k t540 t541 t546 1 t554)) else (some true)))) = some r := H
  have A5 := Aside0.mk A50
  clear A50
  replace H := bind_eq_some_iff.mp H
  obtain ⟨⟨t550, t551⟩, A60, H⟩ := H
  replace H : (if (t547 != t551) = true then (some false) else (if t547 = true then ((impl_RankOf.f k t546).bind fun t554 => (laws_FnRank.l0 k t540 t541 t546 1 t554)) else (some true))) = some r := H
  have A6 := Aside0.mk A60
  clear A60
  by_cases c7 : (t547 != t551) = true
  ·rw [if_pos c7] at H
   have c7b0 : (t547 != t551) = true := c7
   (try (have c7b1 : decide (t547 = t551) = false := by simpa using c7))
   (try (have c7b2 : (t547 == t551) = false := by simpa using c7))
   (try (have c7b3 : ¬ (t547 = t551) := by simpa using c7))
   clear c7
   obtain rfl := Option.some.inj H
   go_enter Try.func13, Try.ntmps13
   go_wp2_with (first | (go_at_call 42; (with_reducible refine (laws_big.calls _ _ l0 false _ ?side1 ?side2 A2.out).mono ?_); (case side1 => repeat (first | exact HR0.out | (with_reducible refine C_alloc ?_ _) | (with_reducible refine C_drewN ?_ _) | (with_reducible refine C_drew ?_))); (case side2 => exact HC0.out); rintro e w' ⟨rfl, ⟨nd, rfl⟩⟩; (try first | exact ⟨rfl, _, drewN_drewN _ _ _⟩ | exact ⟨rfl, _, Eq.trans (drewN_drewN _ _ _) (congrArg (World.drewN _) (Nat.add_assoc _ _ _))⟩)) | (go_at_call 46; (with_reducible refine (spec_DrawMerged.calls k _ _ l0 t540 t541 _ ?side1 ?side2 A4.out).mono ?_); (case side1 => repeat (first | exact HR0.out | (with_reducible refine C_alloc ?_ _) | (with_reducible refine C_drewN ?_ _) | (with_reducible refine C_drew ?_))); (case side2 => exact HC0.out); rintro e w8 ⟨v542, v544, rfl, ho0, ho1, hb⟩; have n0_ := Aside0.mk (Kd.R_lower ho0 (below_size (by repeat (first | (with_reducible first | exact HB.out | apply bwA | apply bwN | apply bw1) | exact HB.out)))); have n1_ := Aside0.mk (Kd.R_lower ho1 (below_size (by repeat (first | (with_reducible first | exact HB.out | apply bwA | apply bwN | apply bw1) | exact HB.out)))); have n2_ := Aside0.mk (below_step (by repeat (first | (with_reducible first | exact HB.out | apply bwA | apply bwN | apply bw1) | exact HB.out)) hb); clear HB; have HO543 := n0_; have HO545 := n1_; have HB := n2_; clear n0_ n1_ n2_; (try clear hb); (try clear hb2); (try clear hk); (try clear hi); (try clear ho0); (try clear ho1); obtain ⟨Ao9, co9, eo9⟩ := Kd.R_slice HO543.out; subst eo9; obtain ⟨Ao10, co10, eo10⟩ := Kd.R_slice HO545.out; subst eo10) | (go_at_call 28; (with_reducible refine (impl_Merged.calls k _ _ t540 _ _ t541 t546 t547 _ ?side1 ?side2 ?side3 ?side4 A5.out).mono ?_); (case side1 => repeat (first | exact (R_reads' HO543.out).2.2 | (with_reducible refine C_alloc ?_ _) | (with_reducible refine C_drewN ?_ _) | (with_reducible refine C_drew ?_))); (case side2 => exact (R_reads' HO543.out).2.1); (case side3 => repeat (first | exact (R_reads' HO545.out).2.2 | (with_reducible refine C_alloc ?_ _) | (with_reducible refine C_drewN ?_ _) | (with_reducible refine C_drew ?_))); (case side4 => exact (R_reads' HO545.out).2.1); rintro e w11 ⟨v548, rfl, ho0, hb⟩; have n0_ := Aside0.mk (Kd.R_elder' (by (with_reducible repeat (first | apply R_alloc | apply R_drewN | apply R_drew)); exact HO543.out) (Kd.R_base ho0) hb); have n1_ := Aside0.mk (Kd.R_elder' (by (with_reducible repeat (first | apply R_alloc | apply R_drewN | apply R_drew)); exact HO545.out) (Kd.R_base ho0) hb); have n2_ := Aside0.mk (Kd.R_lower (Kd.R_new' (Kd.R_new' ho0 (Kd.R_lt (by (with_reducible repeat (first | apply R_alloc | apply R_drewN | apply R_drew)); exact HO543.out))) (Kd.R_lt (by (with_reducible repeat (first | apply R_alloc | apply R_drewN | apply R_drew)); exact HO545.out))) (below_size (by repeat (first | (with_reducible first | exact HB.out | apply bwA | apply bwN | apply bw1) | exact HB.out)))); have n3_ := Aside0.mk (below_step (by repeat (first | (with_reducible first | exact HB.out | apply bwA | apply bwN | apply bw1) | exact HB.out)) hb); clear HO543; clear HO545; clear HB; have HO543 := n0_; have HO545 := n1_; have HO549 := n2_; have HB := n3_; clear n0_ n1_ n2_ n3_; (try clear hb); (try clear hb2); (try clear hk); (try clear hi); (try clear ho0)) | (go_at_call 27; (with_reducible refine (spec_Merged.calls k _ _ t540 _ _ t541 t550 t551 _ ?side1 ?side2 ?side3 ?side4 A6.out).mono ?_); (case side1 => repeat (first | exact (R_reads' HO543.out).2.2 | (with_reducible refine C_alloc ?_ _) | (with_reducible refine C_drewN ?_ _) | (with_reducible refine C_drew ?_))); (case side2 => exact (R_reads' HO543.out).2.1); (case side3 => repeat (first | exact (R_reads' HO545.out).2.2 | (with_reducible refine C_alloc ?_ _) | (with_reducible refine C_drewN ?_ _) | (with_reducible refine C_drew ?_))); (case side4 => exact (R_reads' HO545.out).2.1); rintro e w12 ⟨v552, rfl, ho0, hb⟩; have n0_ := Aside0.mk (Kd.R_elder' (by (with_reducible repeat (first | apply R_alloc | apply R_drewN | apply R_drew)); exact HO543.out) (Kd.R_base ho0) hb); have n1_ := Aside0.mk (Kd.R_elder' (by (with_reducible repeat (first | apply R_alloc | apply R_drewN | apply R_drew)); exact HO545.out) (Kd.R_base ho0) hb); have n2_ := Aside0.mk (Kd.R_elder' (by (with_reducible repeat (first | apply R_alloc | apply R_drewN | apply R_drew)); exact HO549.out) (Kd.R_base ho0) hb); have n3_ := Aside0.mk (Kd.R_lower (Kd.R_new' (Kd.R_new' (Kd.R_new' ho0 (Kd.R_lt (by (with_reducible repeat (first | apply R_alloc | apply R_drewN | apply R_drew)); exact HO543.out))) (Kd.R_lt (by (with_reducible repeat (first | apply R_alloc | apply R_drewN | apply R_drew)); exact HO545.out))) (Kd.R_lt (by (with_reducible repeat (first | apply R_alloc | apply R_drewN | apply R_drew)); exact HO549.out))) (below_size (by repeat (first | (with_reducible first | exact HB.out | apply bwA | apply bwN | apply bw1) | exact HB.out)))); have n4_ := Aside0.mk (below_step (by repeat (first | (with_reducible first | exact HB.out | apply bwA | apply bwN | apply bw1) | exact HB.out)) hb); clear HO543; clear HO545; clear HO549; clear HB; have HO543 := n0_; have HO545 := n1_; have HO549 := n2_; have HO553 := n3_; have HB := n4_; clear n0_ n1_ n2_ n3_ n4_; (try clear hb); (try clear hb2); (try clear hk); (try clear hi); (try clear ho0)))
   repeat (go_quiet (first | (go_at_call 42; (with_reducible refine (laws_big.calls _ _ l0 false _ ?side1 ?side2 A2.out).mono ?_); (case side1 => repeat (first | exact HR0.out | (with_reducible refine C_alloc ?_ _) | (with_reducible refine C_drewN ?_ _) | (with_reducible refine C_drew ?_))); (case side2 => exact HC0.out); rintro e w' ⟨rfl, ⟨nd, rfl⟩⟩; (try first | exact ⟨rfl, _, drewN_drewN _ _ _⟩ | exact ⟨rfl, _, Eq.trans (drewN_drewN _ _ _) (congrArg (World.drewN _) (Nat.add_assoc _ _ _))⟩)) | (go_at_call 46; (with_reducible refine (spec_DrawMerged.calls k _ _ l0 t540 t541 _ ?side1 ?side2 A4.out).mono ?_); (case side1 => repeat (first | exact HR0.out | (with_reducible refine C_alloc ?_ _) | (with_reducible refine C_drewN ?_ _) | (with_reducible refine C_drew ?_))); (case side2 => exact HC0.out); rintro e w8 ⟨v542, v544, rfl, ho0, ho1, hb⟩; have n0_ := Aside0.mk (Kd.R_lower ho0 (below_size (by repeat (first | (with_reducible first | exact HB.out | apply bwA | apply bwN | apply bw1) | exact HB.out)))); have n1_ := Aside0.mk (Kd.R_lower ho1 (below_size (by repeat (first | (with_reducible first | exact HB.out | apply bwA | apply bwN | apply bw1) | exact HB.out)))); have n2_ := Aside0.mk (below_step (by repeat (first | (with_reducible first | exact HB.out | apply bwA | apply bwN | apply bw1) | exact HB.out)) hb); clear HB; have HO543 := n0_; have HO545 := n1_; have HB := n2_; clear n0_ n1_ n2_; (try clear hb); (try clear hb2); (try clear hk); (try clear hi); (try clear ho0); (try clear ho1); obtain ⟨Ao9, co9, eo9⟩ := Kd.R_slice HO543.out; subst eo9; obtain ⟨Ao10, co10, eo10⟩ := Kd.R_slice HO545.out; subst eo10) | (go_at_call 28; (with_reducible refine (impl_Merged.calls k _ _ t540 _ _ t541 t546 t547 _ ?side1 ?side2 ?side3 ?side4 A5.out).mono ?_); (case side1 => repeat (first | exact (R_reads' HO543.out).2.2 | (with_reducible refine C_alloc ?_ _) | (with_reducible refine C_drewN ?_ _) | (with_reducible refine C_drew ?_))); (case side2 => exact (R_reads' HO543.out).2.1); (case side3 => repeat (first | exact (R_reads' HO545.out).2.2 | (with_reducible refine C_alloc ?_ _) | (with_reducible refine C_drewN ?_ _) | (with_reducible refine C_drew ?_))); (case side4 => exact (R_reads' HO545.out).2.1); rintro e w11 ⟨v548, rfl, ho0, hb⟩; have n0_ := Aside0.mk (Kd.R_elder' (by (with_reducible repeat (first | apply R_alloc | apply R_drewN | apply R_drew)); exact HO543.out) (Kd.R_base ho0) hb); have n1_ := Aside0.mk (Kd.R_elder' (by (with_reducible repeat (first | apply R_alloc | apply R_drewN | apply R_drew)); exact HO545.out) (Kd.R_base ho0) hb); have n2_ := Aside0.mk (Kd.R_lower (Kd.R_new' (Kd.R_new' ho0 (Kd.R_lt (by (with_reducible repeat (first | apply R_alloc | apply R_drewN | apply R_drew)); exact HO543.out))) (Kd.R_lt (by (with_reducible repeat (first | apply R_alloc | apply R_drewN | apply R_drew)); exact HO545.out))) (below_size (by repeat (first | (with_reducible first | exact HB.out | apply bwA | apply bwN | apply bw1) | exact HB.out)))); have n3_ := Aside0.mk (below_step (by repeat (first | (with_reducible first | exact HB.out | apply bwA | apply bwN | apply bw1) | exact HB.out)) hb); clear HO543; clear HO545; clear HB; have HO543 := n0_; have HO545 := n1_; have HO549 := n2_; have HB := n3_; clear n0_ n1_ n2_ n3_; (try clear hb); (try clear hb2); (try clear hk); (try clear hi); (try clear ho0)) | (go_at_call 27; (with_reducible refine (spec_Merged.calls k _ _ t540 _ _ t541 t550 t551 _ ?side1 ?side2 ?side3 ?side4 A6.out).mono ?_); (case side1 => repeat (first | exact (R_reads' HO543.out).2.2 | (with_reducible refine C_alloc ?_ _) | (with_reducible refine C_drewN ?_ _) | (with_reducible refine C_drew ?_))); (case side2 => exact (R_reads' HO543.out).2.1); (case side3 => repeat (first | exact (R_reads' HO545.out).2.2 | (with_reducible refine C_alloc ?_ _) | (with_reducible refine C_drewN ?_ _) | (with_reducible refine C_drew ?_))); (case side4 => exact (R_reads' HO545.out).2.1); rintro e w12 ⟨v552, rfl, ho0, hb⟩; have n0_ := Aside0.mk (Kd.R_elder' (by (with_reducible repeat (first | apply R_alloc | apply R_drewN | apply R_drew)); exact HO543.out) (Kd.R_base ho0) hb); have n1_ := Aside0.mk (Kd.R_elder' (by (with_reducible repeat (first | apply R_alloc | apply R_drewN | apply R_drew)); exact HO545.out) (Kd.R_base ho0) hb); have n2_ := Aside0.mk (Kd.R_elder' (by (with_reducible repeat (first | apply R_alloc | apply R_drewN | apply R_drew)); exact HO549.out) (Kd.R_base ho0) hb); have n3_ := Aside0.mk (Kd.R_lower (Kd.R_new' (Kd.R_new' (Kd.R_new' ho0 (Kd.R_lt (by (with_reducible repeat (first | apply R_alloc | apply R_drewN | apply R_drew)); exact HO543.out))) (Kd.R_lt (by (with_reducible repeat (first | apply R_alloc | apply R_drewN | apply R_drew)); exact HO545.out))) (Kd.R_lt (by (with_reducible repeat (first | apply R_alloc | apply R_drewN | apply R_drew)); exact HO549.out))) (below_size (by repeat (first | (with_reducible first | exact HB.out | apply bwA | apply bwN | apply bw1) | exact HB.out)))); have n4_ := Aside0.mk (below_step (by repeat (first | (with_reducible first | exact HB.out | apply bwA | apply bwN | apply bw1) | exact HB.out)) hb); clear HO543; clear HO545; clear HO549; clear HB; have HO543 := n0_; have HO545 := n1_; have HO549 := n2_; have HO553 := n3_; have HB := n4_; clear n0_ n1_ n2_ n3_ n4_; (try clear hb); (try clear hb2); (try clear hk); (try clear hi); (try clear ho0))); try go_wp2_with (first | (go_at_call 42; (with_reducible refine (laws_big.calls _ _ l0 false _ ?side1 ?side2 A2.out).mono ?_); (case side1 => repeat (first | exact HR0.out | (with_reducible refine C_alloc ?_ _) | (with_reducible refine C_drewN ?_ _) | (with_reducible refine C_drew ?_))); (case side2 => exact HC0.out); rintro e w' ⟨rfl, ⟨nd, rfl⟩⟩; (try first | exact ⟨rfl, _, drewN_drewN _ _ _⟩ | exact ⟨rfl, _, Eq.trans (drewN_drewN _ _ _) (congrArg (World.drewN _) (Nat.add_assoc _ _ _))⟩)) | (go_at_call 46; (with_reducible refine (spec_DrawMerged.calls k _ _ l0 t540 t541 _ ?side1 ?side2 A4.out).mono ?_); (case side1 => repeat (first | exact HR0.out | (with_reducible refine C_alloc ?_ _) | (with_reducible refine C_drewN ?_ _) | (with_reducible refine C_drew ?_))); (case side2 => exact HC0.out); rintro e w8 ⟨v542, v544, rfl, ho0, ho1, hb⟩; have n0_ := Aside0.mk (Kd.R_lower ho0 (below_size (by repeat (first | (with_reducible first | exact HB.out | apply bwA | apply bwN | apply bw1) | exact HB.out)))); have n1_ := Aside0.mk (Kd.R_lower ho1 (below_size (by repeat (first | (with_reducible first | exact HB.out | apply bwA | apply bwN | apply bw1) | exact HB.out)))); have n2_ := Aside0.mk (below_step (by repeat (first | (with_reducible first | exact HB.out | apply bwA | apply bwN | apply bw1) | exact HB.out)) hb); clear HB; have HO543 := n0_; have HO545 := n1_; have HB := n2_; clear n0_ n1_ n2_; (try clear hb); (try clear hb2); (try clear hk); (try clear hi); (try clear ho0); (try clear ho1); obtain ⟨Ao9, co9, eo9⟩ := Kd.R_slice HO543.out; subst eo9; obtain ⟨Ao10, co10, eo10⟩ := Kd.R_slice HO545.out; subst eo10) | (go_at_call 28; (with_reducible refine (impl_Merged.calls k _ _ t540 _ _ t541 t546 t547 _ ?side1 ?side2 ?side3 ?side4 A5.out).mono ?_); (case side1 => repeat (first | exact (R_reads' HO543.out).2.2 | (with_reducible refine C_alloc ?_ _) | (with_reducible refine C_drewN ?_ _) | (with_reducible refine C_drew ?_))); (case side2 => exact (R_reads' HO543.out).2.1); (case side3 => repeat (first | exact (R_reads' HO545.out).2.2 | (with_reducible refine C_alloc ?_ _) | (with_reducible refine C_drewN ?_ _) | (with_reducible refine C_drew ?_))); (case side4 => exact (R_reads' HO545.out).2.1); rintro e w11 ⟨v548, rfl, ho0, hb⟩; have n0_ := Aside0.mk (Kd.R_elder' (by (with_reducible repeat (first | apply R_alloc | apply R_drewN | apply R_drew)); exact HO543.out) (Kd.R_base ho0) hb); have n1_ := Aside0.mk (Kd.R_elder' (by (with_reducible repeat (first | apply R_alloc | apply R_drewN | apply R_drew)); exact HO545.out) (Kd.R_base ho0) hb); have n2_ := Aside0.mk (Kd.R_lower (Kd.R_new' (Kd.R_new' ho0 (Kd.R_lt (by (with_reducible repeat (first | apply R_alloc | apply R_drewN | apply R_drew)); exact HO543.out))) (Kd.R_lt (by (with_reducible repeat (first | apply R_alloc | apply R_drewN | apply R_drew)); exact HO545.out))) (below_size (by repeat (first | (with_reducible first | exact HB.out | apply bwA | apply bwN | apply bw1) | exact HB.out)))); have n3_ := Aside0.mk (below_step (by repeat (first | (with_reducible first | exact HB.out | apply bwA | apply bwN | apply bw1) | exact HB.out)) hb); clear HO543; clear HO545; clear HB; have HO543 := n0_; have HO545 := n1_; have HO549 := n2_; have HB := n3_; clear n0_ n1_ n2_ n3_; (try clear hb); (try clear hb2); (try clear hk); (try clear hi); (try clear ho0)) | (go_at_call 27; (with_reducible refine (spec_Merged.calls k _ _ t540 _ _ t541 t550 t551 _ ?side1 ?side2 ?side3 ?side4 A6.out).mono ?_); (case side1 => repeat (first | exact (R_reads' HO543.out).2.2 | (with_reducible refine C_alloc ?_ _) | (with_reducible refine C_drewN ?_ _) | (with_reducible refine C_drew ?_))); (case side2 => exact (R_reads' HO543.out).2.1); (case side3 => repeat (first | exact (R_reads' HO545.out).2.2 | (with_reducible refine C_alloc ?_ _) | (with_reducible refine C_drewN ?_ _) | (with_reducible refine C_drew ?_))); (case side4 => exact (R_reads' HO545.out).2.1); rintro e w12 ⟨v552, rfl, ho0, hb⟩; have n0_ := Aside0.mk (Kd.R_elder' (by (with_reducible repeat (first | apply R_alloc | apply R_drewN | apply R_drew)); exact HO543.out) (Kd.R_base ho0) hb); have n1_ := Aside0.mk (Kd.R_elder' (by (with_reducible repeat (first | apply R_alloc | apply R_drewN | apply R_drew)); exact HO545.out) (Kd.R_base ho0) hb); have n2_ := Aside0.mk (Kd.R_elder' (by (with_reducible repeat (first | apply R_alloc | apply R_drewN | apply R_drew)); exact HO549.out) (Kd.R_base ho0) hb); have n3_ := Aside0.mk (Kd.R_lower (Kd.R_new' (Kd.R_new' (Kd.R_new' ho0 (Kd.R_lt (by (with_reducible repeat (first | apply R_alloc | apply R_drewN | apply R_drew)); exact HO543.out))) (Kd.R_lt (by (with_reducible repeat (first | apply R_alloc | apply R_drewN | apply R_drew)); exact HO545.out))) (Kd.R_lt (by (with_reducible repeat (first | apply R_alloc | apply R_drewN | apply R_drew)); exact HO549.out))) (below_size (by repeat (first | (with_reducible first | exact HB.out | apply bwA | apply bwN | apply bw1) | exact HB.out)))); have n4_ := Aside0.mk (below_step (by repeat (first | (with_reducible first | exact HB.out | apply bwA | apply bwN | apply bw1) | exact HB.out)) hb); clear HO543; clear HO545; clear HO549; clear HB; have HO543 := n0_; have HO545 := n1_; have HO549 := n2_; have HO553 := n3_; have HB := n4_; clear n0_ n1_ n2_ n3_ n4_; (try clear hb); (try clear hb2); (try clear hk); (try clear hi); (try clear ho0))))
   go_ret
   exact ⟨by first | rfl | (simp [errW_none, errW_some] <;> rfl) | (simp [*, errW_none, errW_some] <;> rfl), by repeat (first | (with_reducible first | exact HB.out | apply bwA | apply bwN | apply bw1) | exact HB.out)⟩
  ·rw [if_neg c7] at H
   have c7b0 : (t547 != t551) = false := by simpa using c7
   (try (have c7b1 : decide (t547 = t551) = true := by simpa using c7))
   (try (have c7b2 : (t547 == t551) = true := by simpa using c7))
   clear c7
   by_cases c13 : t547 = true
   ·subst c13
    have H1 : ((impl_RankOf.f k t546).bind fun t554 => (laws_FnRank.l0 k t540 t541 t546 1 t554)) = some r := by rw [if_pos rfl] at H; exact H
    clear H
    have H := H1
    clear H1
    replace H := bind_eq_some_iff.mp H
    obtain ⟨t554, A140, H⟩ := H
    replace H : (laws_FnRank.l0 k t540 t541 t546 1 t554) = some r := H
    have A14 := Aside0.mk A140
    clear A140
    have H' := Aside0.mk H
    clear H
    go_enter Try.func13, Try.ntmps13
    go_wp2_with (first | (go_at_call 42; (with_reducible refine (laws_big.calls _ _ l0 false _ ?side1 ?side2 A2.out).mono ?_); (case side1 => repeat (first | exact HR0.out | (with_reducible refine C_alloc ?_ _) | (with_reducible refine C_drewN ?_ _) | (with_reducible refine C_drew ?_))); (case side2 => exact HC0.out); rintro e w' ⟨rfl, ⟨nd, rfl⟩⟩; (try first | exact ⟨rfl, _, drewN_drewN _ _ _⟩ | exact ⟨rfl, _, Eq.trans (drewN_drewN _ _ _) (congrArg (World.drewN _) (Nat.add_assoc _ _ _))⟩)) | (go_at_call 46; (with_reducible refine (spec_DrawMerged.calls k _ _ l0 t540 t541 _ ?side1 ?side2 A4.out).mono ?_); (case side1 => repeat (first | exact HR0.out | (with_reducible refine C_alloc ?_ _) | (with_reducible refine C_drewN ?_ _) | (with_reducible refine C_drew ?_))); (case side2 => exact HC0.out); rintro e w15 ⟨v542, v544, rfl, ho0, ho1, hb⟩; have n0_ := Aside0.mk (Kd.R_lower ho0 (below_size (by repeat (first | (with_reducible first | exact HB.out | apply bwA | apply bwN | apply bw1) | exact HB.out)))); have n1_ := Aside0.mk (Kd.R_lower ho1 (below_size (by repeat (first | (with_reducible first | exact HB.out | apply bwA | apply bwN | apply bw1) | exact HB.out)))); have n2_ := Aside0.mk (below_step (by repeat (first | (with_reducible first | exact HB.out | apply bwA | apply bwN | apply bw1) | exact HB.out)) hb); clear HB; have HO543 := n0_; have HO545 := n1_; have HB := n2_; clear n0_ n1_ n2_; (try clear hb); (try clear hb2); (try clear hk); (try clear hi); (try clear ho0); (try clear ho1); obtain ⟨Ao16, co16, eo16⟩ := Kd.R_slice HO543.out; subst eo16; obtain ⟨Ao17, co17, eo17⟩ := Kd.R_slice HO545.out; subst eo17) | (go_at_call 28; (with_reducible refine (impl_Merged.calls k _ _ t540 _ _ t541 t546 true _ ?side1 ?side2 ?side3 ?side4 A5.out).mono ?_); (case side1 => repeat (first | exact (R_reads' HO543.out).2.2 | (with_reducible refine C_alloc ?_ _) | (with_reducible refine C_drewN ?_ _) | (with_reducible refine C_drew ?_))); (case side2 => exact (R_reads' HO543.out).2.1); (case side3 => repeat (first | exact (R_reads' HO545.out).2.2 | (with_reducible refine C_alloc ?_ _) | (with_reducible refine C_drewN ?_ _) | (with_reducible refine C_drew ?_))); (case side4 => exact (R_reads' HO545.out).2.1); rintro e w18 ⟨v548, rfl, ho0, hb⟩; have n0_ := Aside0.mk (Kd.R_elder' (by (with_reducible repeat (first | apply R_alloc | apply R_drewN | apply R_drew)); exact HO543.out) (Kd.R_base ho0) hb); have n1_ := Aside0.mk (Kd.R_elder' (by (with_reducible repeat (first | apply R_alloc | apply R_drewN | apply R_drew)); exact HO545.out) (Kd.R_base ho0) hb); have n2_ := Aside0.mk (Kd.R_lower (Kd.R_new' (Kd.R_new' ho0 (Kd.R_lt (by (with_reducible repeat (first | apply R_alloc | apply R_drewN | apply R_drew)); exact HO543.out))) (Kd.R_lt (by (with_reducible repeat (first | apply R_alloc | apply R_drewN | apply R_drew)); exact HO545.out))) (below_size (by repeat (first | (with_reducible first | exact HB.out | apply bwA | apply bwN | apply bw1) | exact HB.out)))); have n3_ := Aside0.mk (below_step (by repeat (first | (with_reducible first | exact HB.out | apply bwA | apply bwN | apply bw1) | exact HB.out)) hb); clear HO543; clear HO545; clear HB; have HO543 := n0_; have HO545 := n1_; have HO549 := n2_; have HB := n3_; clear n0_ n1_ n2_ n3_; (try clear hb); (try clear hb2); (try clear hk); (try clear hi); (try clear ho0)) | (go_at_call 27; (with_reducible refine (spec_Merged.calls k _ _ t540 _ _ t541 t550 t551 _ ?side1 ?side2 ?side3 ?side4 A6.out).mono ?_); (case side1 => repeat (first | exact (R_reads' HO543.out).2.2 | (with_reducible refine C_alloc ?_ _) | (with_reducible refine C_drewN ?_ _) | (with_reducible refine C_drew ?_))); (case side2 => exact (R_reads' HO543.out).2.1); (case side3 => repeat (first | exact (R_reads' HO545.out).2.2 | (with_reducible refine C_alloc ?_ _) | (with_reducible refine C_drewN ?_ _) | (with_reducible refine C_drew ?_))); (case side4 => exact (R_reads' HO545.out).2.1); rintro e w19 ⟨v552, rfl, ho0, hb⟩; have n0_ := Aside0.mk (Kd.R_elder' (by (with_reducible repeat (first | apply R_alloc | apply R_drewN | apply R_drew)); exact HO543.out) (Kd.R_base ho0) hb); have n1_ := Aside0.mk (Kd.R_elder' (by (with_reducible repeat (first | apply R_alloc | apply R_drewN | apply R_drew)); exact HO545.out) (Kd.R_base ho0) hb); have n2_ := Aside0.mk (Kd.R_elder' (by (with_reducible repeat (first | apply R_alloc | apply R_drewN | apply R_drew)); exact HO549.out) (Kd.R_base ho0) hb); have n3_ := Aside0.mk (Kd.R_lower (Kd.R_new' (Kd.R_new' (Kd.R_new' ho0 (Kd.R_lt (by (with_reducible repeat (first | apply R_alloc | apply R_drewN | apply R_drew)); exact HO543.out))) (Kd.R_lt (by (with_reducible repeat (first | apply R_alloc | apply R_drewN | apply R_drew)); exact HO545.out))) (Kd.R_lt (by (with_reducible repeat (first | apply R_alloc | apply R_drewN | apply R_drew)); exact HO549.out))) (below_size (by repeat (first | (with_reducible first | exact HB.out | apply bwA | apply bwN | apply bw1) | exact HB.out)))); have n4_ := Aside0.mk (below_step (by repeat (first | (with_reducible first | exact HB.out | apply bwA | apply bwN | apply bw1) | exact HB.out)) hb); clear HO543; clear HO545; clear HO549; clear HB; have HO543 := n0_; have HO545 := n1_; have HO549 := n2_; have HO553 := n3_; have HB := n4_; clear n0_ n1_ n2_ n3_ n4_; (try clear hb); (try clear hb2); (try clear hk); (try clear hi); (try clear ho0); obtain ⟨Ao20, co20, eo20⟩ := Kd.R_slice HO549.out; subst eo20) | (go_at_call 21; (with_reducible refine (impl_RankOf.calls k _ _ t546 t554 _ ?side1 ?side2 A14.out).mono ?_); (case side1 => repeat (first | exact (R_reads' HO549.out).2.2 | (with_reducible refine C_alloc ?_ _) | (with_reducible refine C_drewN ?_ _) | (with_reducible refine C_drew ?_))); (case side2 => exact (R_reads' HO549.out).2.1); rintro e w21 ⟨rfl, hb⟩; have n0_ := Aside0.mk (R_below (by (with_reducible repeat (first | apply R_alloc | apply R_drewN | apply R_drew)); exact HO543.out) hb); have n1_ := Aside0.mk (R_below (by (with_reducible repeat (first | apply R_alloc | apply R_drewN | apply R_drew)); exact HO545.out) hb); have n2_ := Aside0.mk (R_below (by (with_reducible repeat (first | apply R_alloc | apply R_drewN | apply R_drew)); exact HO549.out) hb); have n3_ := Aside0.mk (R_below (by (with_reducible repeat (first | apply R_alloc | apply R_drewN | apply R_drew)); exact HO553.out) hb); have n4_ := Aside0.mk (below_step (by repeat (first | (with_reducible first | exact HB.out | apply bwA | apply bwN | apply bw1) | exact HB.out)) hb); clear HO543; clear HO545; clear HO549; clear HO553; clear HB; have HO543 := n0_; have HO545 := n1_; have HO549 := n2_; have HO553 := n3_; have HB := n4_; clear n0_ n1_ n2_ n3_ n4_; (try clear hb); (try clear hb2); (try clear hk); (try clear hi)))
    repeat (go_quiet (first | (go_at_call 42; (with_reducible refine (laws_big.calls _ _ l0 false _ ?side1 ?side2 A2.out).mono ?_); (case side1 => repeat (first | exact HR0.out | (with_reducible refine C_alloc ?_ _) | (with_reducible refine C_drewN ?_ _) | (with_reducible refine C_drew ?_))); (case side2 => exact HC0.out); rintro e w' ⟨rfl, ⟨nd, rfl⟩⟩; (try first | exact ⟨rfl, _, drewN_drewN _ _ _⟩ | exact ⟨rfl, _, Eq.trans (drewN_drewN _ _ _) (congrArg (World.drewN _) (Nat.add_assoc _ _ _))⟩)) | (go_at_call 46; (with_reducible refine (spec_DrawMerged.calls k _ _ l0 t540 t541 _ ?side1 ?side2 A4.out).mono ?_); (case side1 => repeat (first | exact HR0.out | (with_reducible refine C_alloc ?_ _) | (with_reducible refine C_drewN ?_ _) | (with_reducible refine C_drew ?_))); (case side2 => exact HC0.out); rintro e w15 ⟨v542, v544, rfl, ho0, ho1, hb⟩; have n0_ := Aside0.mk (Kd.R_lower ho0 (below_size (by repeat (first | (with_reducible first | exact HB.out | apply bwA | apply bwN | apply bw1) | exact HB.out)))); have n1_ := Aside0.mk (Kd.R_lower ho1 (below_size (by repeat (first | (with_reducible first | exact HB.out | apply bwA | apply bwN | apply bw1) | exact HB.out)))); have n2_ := Aside0.mk (below_step (by repeat (first | (with_reducible first | exact HB.out | apply bwA | apply bwN | apply bw1) | exact HB.out)) hb); clear HB; have HO543 := n0_; have HO545 := n1_; have HB := n2_; clear n0_ n1_ n2_; (try clear hb); (try clear hb2); (try clear hk); (try clear hi); (try clear ho0); (try clear ho1); obtain ⟨Ao16, co16, eo16⟩ := Kd.R_slice HO543.out; subst eo16; obtain ⟨Ao17, co17, eo17⟩ := Kd.R_slice HO545.out; subst eo17) | (go_at_call 28; (with_reducible refine (impl_Merged.calls k _ _ t540 _ _ t541 t546 true _ ?side1 ?side2 ?side3 ?side4 A5.out).mono ?_); (case side1 => repeat (first | exact (R_reads' HO543.out).2.2 | (with_reducible refine C_alloc ?_ _) | (with_reducible refine C_drewN ?_ _) | (with_reducible refine C_drew ?_))); (case side2 => exact (R_reads' HO543.out).2.1); (case side3 => repeat (first | exact (R_reads' HO545.out).2.2 | (with_reducible refine C_alloc ?_ _) | (with_reducible refine C_drewN ?_ _) | (with_reducible refine C_drew ?_))); (case side4 => exact (R_reads' HO545.out).2.1); rintro e w18 ⟨v548, rfl, ho0, hb⟩; have n0_ := Aside0.mk (Kd.R_elder' (by (with_reducible repeat (first | apply R_alloc | apply R_drewN | apply R_drew)); exact HO543.out) (Kd.R_base ho0) hb); have n1_ := Aside0.mk (Kd.R_elder' (by (with_reducible repeat (first | apply R_alloc | apply R_drewN | apply R_drew)); exact HO545.out) (Kd.R_base ho0) hb); have n2_ := Aside0.mk (Kd.R_lower (Kd.R_new' (Kd.R_new' ho0 (Kd.R_lt (by (with_reducible repeat (first | apply R_alloc | apply R_drewN | apply R_drew)); exact HO543.out))) (Kd.R_lt (by (with_reducible repeat (first | apply R_alloc | apply R_drewN | apply R_drew)); exact HO545.out))) (below_size (by repeat (first | (with_reducible first | exact HB.out | apply bwA | apply bwN | apply bw1) | exact HB.out)))); have n3_ := Aside0.mk (below_step (by repeat (first | (with_reducible first | exact HB.out | apply bwA | apply bwN | apply bw1) | exact HB.out)) hb); clear HO543; clear HO545; clear HB; have HO543 := n0_; have HO545 := n1_; have HO549 := n2_; have HB := n3_; clear n0_ n1_ n2_ n3_; (try clear hb); (try clear hb2); (try clear hk); (try clear hi); (try clear ho0)) | (go_at_call 27; (with_reducible refine (spec_Merged.calls k _ _ t540 _ _ t541 t550 t551 _ ?side1 ?side2 ?side3 ?side4 A6.out).mono ?_); (case side1 => repeat (first | exact (R_reads' HO543.out).2.2 | (with_reducible refine C_alloc ?_ _) | (with_reducible refine C_drewN ?_ _) | (with_reducible refine C_drew ?_))); (case side2 => exact (R_reads' HO543.out).2.1); (case side3 => repeat (first | exact (R_reads' HO545.out).2.2 | (with_reducible refine C_alloc ?_ _) | (with_reducible refine C_drewN ?_ _) | (with_reducible refine C_drew ?_))); (case side4 => exact (R_reads' HO545.out).2.1); rintro e w19 ⟨v552, rfl, ho0, hb⟩; have n0_ := Aside0.mk (Kd.R_elder' (by (with_reducible repeat (first | apply R_alloc | apply R_drewN | apply R_drew)); exact HO543.out) (Kd.R_base ho0) hb); have n1_ := Aside0.mk (Kd.R_elder' (by (with_reducible repeat (first | apply R_alloc | apply R_drewN | apply R_drew)); exact HO545.out) (Kd.R_base ho0) hb); have n2_ := Aside0.mk (Kd.R_elder' (by (with_reducible repeat (first | apply R_alloc | apply R_drewN | apply R_drew)); exact HO549.out) (Kd.R_base ho0) hb); have n3_ := Aside0.mk (Kd.R_lower (Kd.R_new' (Kd.R_new' (Kd.R_new' ho0 (Kd.R_lt (by (with_reducible repeat (first | apply R_alloc | apply R_drewN | apply R_drew)); exact HO543.out))) (Kd.R_lt (by (with_reducible repeat (first | apply R_alloc | apply R_drewN | apply R_drew)); exact HO545.out))) (Kd.R_lt (by (with_reducible repeat (first | apply R_alloc | apply R_drewN | apply R_drew)); exact HO549.out))) (below_size (by repeat (first | (with_reducible first | exact HB.out | apply bwA | apply bwN | apply bw1) | exact HB.out)))); have n4_ := Aside0.mk (below_step (by repeat (first | (with_reducible first | exact HB.out | apply bwA | apply bwN | apply bw1) | exact HB.out)) hb); clear HO543; clear HO545; clear HO549; clear HB; have HO543 := n0_; have HO545 := n1_; have HO549 := n2_; have HO553 := n3_; have HB := n4_; clear n0_ n1_ n2_ n3_ n4_; (try clear hb); (try clear hb2); (try clear hk); (try clear hi); (try clear ho0); obtain ⟨Ao20, co20, eo20⟩ := Kd.R_slice HO549.out; subst eo20) | (go_at_call 21; (with_reducible refine (impl_RankOf.calls k _ _ t546 t554 _ ?side1 ?side2 A14.out).mono ?_); (case side1 => repeat (first | exact (R_reads' HO549.out).2.2 | (with_reducible refine C_alloc ?_ _) | (with_reducible refine C_drewN ?_ _) | (with_reducible refine C_drew ?_))); (case side2 => exact (R_reads' HO549.out).2.1); rintro e w21 ⟨rfl, hb⟩; have n0_ := Aside0.mk (R_below (by (with_reducible repeat (first | apply R_alloc | apply R_drewN | apply R_drew)); exact HO543.out) hb); have n1_ := Aside0.mk (R_below (by (with_reducible repeat (first | apply R_alloc | apply R_drewN | apply R_drew)); exact HO545.out) hb); have n2_ := Aside0.mk (R_below (by (with_reducible repeat (first | apply R_alloc | apply R_drewN | apply R_drew)); exact HO549.out) hb); have n3_ := Aside0.mk (R_below (by (with_reducible repeat (first | apply R_alloc | apply R_drewN | apply R_drew)); exact HO553.out) hb); have n4_ := Aside0.mk (below_step (by repeat (first | (with_reducible first | exact HB.out | apply bwA | apply bwN | apply bw1) | exact HB.out)) hb); clear HO543; clear HO545; clear HO549; clear HO553; clear HB; have HO543 := n0_; have HO545 := n1_; have HO549 := n2_; have HO553 := n3_; have HB := n4_; clear n0_ n1_ n2_ n3_ n4_; (try clear hb); (try clear hb2); (try clear hk); (try clear hi))); try go_wp2_with (first | (go_at_call 42; (with_reducible refine (laws_big.calls _ _ l0 false _ ?side1 ?side2 A2.out).mono ?_); (case side1 => repeat (first | exact HR0.out | (with_reducible refine C_alloc ?_ _) | (with_reducible refine C_drewN ?_ _) | (with_reducible refine C_drew ?_))); (case side2 => exact HC0.out); rintro e w' ⟨rfl, ⟨nd, rfl⟩⟩; (try first | exact ⟨rfl, _, drewN_drewN _ _ _⟩ | exact ⟨rfl, _, Eq.trans (drewN_drewN _ _ _) (congrArg (World.drewN _) (Nat.add_assoc _ _ _))⟩)) | (go_at_call 46; (with_reducible refine (spec_DrawMerged.calls k _ _ l0 t540 t541 _ ?side1 ?side2 A4.out).mono ?_); (case side1 => repeat (first | exact HR0.out | (with_reducible refine C_alloc ?_ _) | (with_reducible refine C_drewN ?_ _) | (with_reducible refine C_drew ?_))); (case side2 => exact HC0.out); rintro e w15 ⟨v542, v544, rfl, ho0, ho1, hb⟩; have n0_ := Aside0.mk (Kd.R_lower ho0 (below_size (by repeat (first | (with_reducible first | exact HB.out | apply bwA | apply bwN | apply bw1) | exact HB.out)))); have n1_ := Aside0.mk (Kd.R_lower ho1 (below_size (by repeat (first | (with_reducible first | exact HB.out | apply bwA | apply bwN | apply bw1) | exact HB.out)))); have n2_ := Aside0.mk (below_step (by repeat (first | (with_reducible first | exact HB.out | apply bwA | apply bwN | apply bw1) | exact HB.out)) hb); clear HB; have HO543 := n0_; have HO545 := n1_; have HB := n2_; clear n0_ n1_ n2_; (try clear hb); (try clear hb2); (try clear hk); (try clear hi); (try clear ho0); (try clear ho1); obtain ⟨Ao16, co16, eo16⟩ := Kd.R_slice HO543.out; subst eo16; obtain ⟨Ao17, co17, eo17⟩ := Kd.R_slice HO545.out; subst eo17) | (go_at_call 28; (with_reducible refine (impl_Merged.calls k _ _ t540 _ _ t541 t546 true _ ?side1 ?side2 ?side3 ?side4 A5.out).mono ?_); (case side1 => repeat (first | exact (R_reads' HO543.out).2.2 | (with_reducible refine C_alloc ?_ _) | (with_reducible refine C_drewN ?_ _) | (with_reducible refine C_drew ?_))); (case side2 => exact (R_reads' HO543.out).2.1); (case side3 => repeat (first | exact (R_reads' HO545.out).2.2 | (with_reducible refine C_alloc ?_ _) | (with_reducible refine C_drewN ?_ _) | (with_reducible refine C_drew ?_))); (case side4 => exact (R_reads' HO545.out).2.1); rintro e w18 ⟨v548, rfl, ho0, hb⟩; have n0_ := Aside0.mk (Kd.R_elder' (by (with_reducible repeat (first | apply R_alloc | apply R_drewN | apply R_drew)); exact HO543.out) (Kd.R_base ho0) hb); have n1_ := Aside0.mk (Kd.R_elder' (by (with_reducible repeat (first | apply R_alloc | apply R_drewN | apply R_drew)); exact HO545.out) (Kd.R_base ho0) hb); have n2_ := Aside0.mk (Kd.R_lower (Kd.R_new' (Kd.R_new' ho0 (Kd.R_lt (by (with_reducible repeat (first | apply R_alloc | apply R_drewN | apply R_drew)); exact HO543.out))) (Kd.R_lt (by (with_reducible repeat (first | apply R_alloc | apply R_drewN | apply R_drew)); exact HO545.out))) (below_size (by repeat (first | (with_reducible first | exact HB.out | apply bwA | apply bwN | apply bw1) | exact HB.out)))); have n3_ := Aside0.mk (below_step (by repeat (first | (with_reducible first | exact HB.out | apply bwA | apply bwN | apply bw1) | exact HB.out)) hb); clear HO543; clear HO545; clear HB; have HO543 := n0_; have HO545 := n1_; have HO549 := n2_; have HB := n3_; clear n0_ n1_ n2_ n3_; (try clear hb); (try clear hb2); (try clear hk); (try clear hi); (try clear ho0)) | (go_at_call 27; (with_reducible refine (spec_Merged.calls k _ _ t540 _ _ t541 t550 t551 _ ?side1 ?side2 ?side3 ?side4 A6.out).mono ?_); (case side1 => repeat (first | exact (R_reads' HO543.out).2.2 | (with_reducible refine C_alloc ?_ _) | (with_reducible refine C_drewN ?_ _) | (with_reducible refine C_drew ?_))); (case side2 => exact (R_reads' HO543.out).2.1); (case side3 => repeat (first | exact (R_reads' HO545.out).2.2 | (with_reducible refine C_alloc ?_ _) | (with_reducible refine C_drewN ?_ _) | (with_reducible refine C_drew ?_))); (case side4 => exact (R_reads' HO545.out).2.1); rintro e w19 ⟨v552, rfl, ho0, hb⟩; have n0_ := Aside0.mk (Kd.R_elder' (by (with_reducible repeat (first | apply R_alloc | apply R_drewN | apply R_drew)); exact HO543.out) (Kd.R_base ho0) hb); have n1_ := Aside0.mk (Kd.R_elder' (by (with_reducible repeat (first | apply R_alloc | apply R_drewN | apply R_drew)); exact HO545.out) (Kd.R_base ho0) hb); have n2_ := Aside0.mk (Kd.R_elder' (by (with_reducible repeat (first | apply R_alloc | apply R_drewN | apply R_drew)); exact HO549.out) (Kd.R_base ho0) hb); have n3_ := Aside0.mk (Kd.R_lower (Kd.R_new' (Kd.R_new' (Kd.R_new' ho0 (Kd.R_lt (by (with_reducible repeat (first | apply R_alloc | apply R_drewN | apply R_drew)); exact HO543.out))) (Kd.R_lt (by (with_reducible repeat (first | apply R_alloc | apply R_drewN | apply R_drew)); exact HO545.out))) (Kd.R_lt (by (with_reducible repeat (first | apply R_alloc | apply R_drewN | apply R_drew)); exact HO549.out))) (below_size (by repeat (first | (with_reducible first | exact HB.out | apply bwA | apply bwN | apply bw1) | exact HB.out)))); have n4_ := Aside0.mk (below_step (by repeat (first | (with_reducible first | exact HB.out | apply bwA | apply bwN | apply bw1) | exact HB.out)) hb); clear HO543; clear HO545; clear HO549; clear HB; have HO543 := n0_; have HO545 := n1_; have HO549 := n2_; have HO553 := n3_; have HB := n4_; clear n0_ n1_ n2_ n3_ n4_; (try clear hb); (try clear hb2); (try clear hk); (try clear hi); (try clear ho0); obtain ⟨Ao20, co20, eo20⟩ := Kd.R_slice HO549.out; subst eo20) | (go_at_call 21; (with_reducible refine (impl_RankOf.calls k _ _ t546 t554 _ ?side1 ?side2 A14.out).mono ?_); (case side1 => repeat (first | exact (R_reads' HO549.out).2.2 | (with_reducible refine C_alloc ?_ _) | (with_reducible refine C_drewN ?_ _) | (with_reducible refine C_drew ?_))); (case side2 => exact (R_reads' HO549.out).2.1); rintro e w21 ⟨rfl, hb⟩; have n0_ := Aside0.mk (R_below (by (with_reducible repeat (first | apply R_alloc | apply R_drewN | apply R_drew)); exact HO543.out) hb); have n1_ := Aside0.mk (R_below (by (with_reducible repeat (first | apply R_alloc | apply R_drewN | apply R_drew)); exact HO545.out) hb); have n2_ := Aside0.mk (R_below (by (with_reducible repeat (first | apply R_alloc | apply R_drewN | apply R_drew)); exact HO549.out) hb); have n3_ := Aside0.mk (R_below (by (with_reducible repeat (first | apply R_alloc | apply R_drewN | apply R_drew)); exact HO553.out) hb); have n4_ := Aside0.mk (below_step (by repeat (first | (with_reducible first | exact HB.out | apply bwA | apply bwN | apply bw1) | exact HB.out)) hb); clear HO543; clear HO545; clear HO549; clear HO553; clear HB; have HO543 := n0_; have HO545 := n1_; have HO549 := n2_; have HO553 := n3_; have HB := n4_; clear n0_ n1_ n2_ n3_ n4_; (try clear hb); (try clear hb2); (try clear hk); (try clear hi))))
    go_loopg [9, 10] k (fun kq v9 v10 w' => ∃ (x9_1 : Int) (x10_1 : Int), v9 = .int .i64 x9_1 ∧ v10 = .int .i64 x10_1 ∧ Aside0 (laws_FnRank.l0 kq t540 t541 t546 x9_1 x10_1 = some r) ∧ Aside0 (kq ≤ k) ∧ Aside0 (Kd.R k31 31 w' w.heap.size (fun k_ => some k_ ≠ ((.slice Ao17 t541.length co17) : Value).ownBlock ∧ some k_ ≠ ((.slice Ao20 t546.length co20) : Value).ownBlock) (.slice Ao16 t540.length co16) t540) ∧ Aside0 (Kd.R k31 31 w' w.heap.size (fun k_ => some k_ ≠ ((.slice Ao16 t540.length co16) : Value).ownBlock ∧ some k_ ≠ ((.slice Ao20 t546.length co20) : Value).ownBlock) (.slice Ao17 t541.length co17) t541) ∧ Aside0 (Kd.R k31 31 w' w.heap.size (fun k_ => some k_ ≠ ((.slice Ao16 t540.length co16) : Value).ownBlock ∧ some k_ ≠ ((.slice Ao17 t541.length co17) : Value).ownBlock) (.slice Ao20 t546.length co20) t546) ∧ Aside0 (Below w.heap.size w w'))
    case atStart => exact ⟨(1), (t554), (by first | rfl | (simp; done) | (simp [*]; done)), (by first | rfl | (simp; done) | (simp [*]; done)), H', ⟨Nat.le_refl _⟩, ⟨by (with_reducible repeat (first | apply R_alloc | apply R_drewN | apply R_drew)); exact Kd.R_mono HO543.out (fun _ hk => ⟨hk.1.1, hk.1.2⟩)⟩, ⟨by (with_reducible repeat (first | apply R_alloc | apply R_drewN | apply R_drew)); exact Kd.R_mono HO545.out (fun _ hk => ⟨hk.1.1, hk.1.2⟩)⟩, ⟨by (with_reducible repeat (first | apply R_alloc | apply R_drewN | apply R_drew)); exact Kd.R_mono HO549.out (fun _ hk => ⟨hk.1.1.2, hk.1.2⟩)⟩, ⟨by repeat (first | (with_reducible first | exact HB.out | apply bwA | apply bwN | apply bw1) | exact HB.out)⟩⟩
    case round =>
     clear H'
     try clear c1
     try clear p2
     try clear c3
     try clear c7
     try clear c7b0
     try clear c7b1
     try clear c7b2
     try clear c13
     obtain ⟨x9_1, x10_1, rfl, rfl, HA, HK1, HO_3, HO_4, HO_5, HB⟩ := hrel
     cases gk with
     | zero => exact absurd HA.out (by simp [laws_FnRank.l0])
     | succ k1 =>
      have H := HA.out
      clear HA
      simp only [laws_FnRank.l0] at H
      by_cases c22 : x10_1 > 0
      ·rw [if_pos c22] at H
       have c22b0 : decide (0 < x10_1) = true := decide_eq_true c22
       clear c22
       have H' := Aside0.mk H
       clear H
       go_wp2
       repeat (go_quiet (fail); try go_wp2)
       go_roundg k1
       case measure => have := HK1.out; omega
       case rel => exact ⟨(wrap64 (x9_1 * 2)), (wrap64 (x10_1 - 1)), (by first | rfl | (simp; done) | (simp [*]; done)), (by first | rfl | (simp; done) | (simp [*]; done)), H', ⟨by have := HK1.out; omega⟩, ⟨by (with_reducible repeat (first | apply R_alloc | apply R_drewN | apply R_drew)); exact HO_3.out⟩, ⟨by (with_reducible repeat (first | apply R_alloc | apply R_drewN | apply R_drew)); exact HO_4.out⟩, ⟨by (with_reducible repeat (first | apply R_alloc | apply R_drewN | apply R_drew)); exact HO_5.out⟩, ⟨by repeat (first | (with_reducible first | exact HB.out | apply bwA | apply bwN | apply bw1) | exact HB.out)⟩⟩
      ·rw [if_neg c22] at H
       have c22b0 : decide (0 < x10_1) = false := decide_eq_false c22
       clear c22
       have HC23 := Aside0.mk H
       clear H
       go_upto_region 15 with (fail)
       repeat (go_quiet (fail); go_upto_region 15 with (fail))
       go_cut [71] (fun v71 wc => ∃ (kq : Nat) (x71_22 : Bool), v71 = .bool x71_22 ∧ Aside0 (laws_FnRank.j1 kq t540 t541 t546 x71_22 = some r) ∧ Aside0 (kq ≤ k1) ∧ Aside0 (Kd.R k31 31 wc w.heap.size (fun k_ => some k_ ≠ ((.slice Ao17 t541.length co17) : Value).ownBlock ∧ some k_ ≠ ((.slice Ao20 t546.length co20) : Value).ownBlock) (.slice Ao16 t540.length co16) t540) ∧ Aside0 (Kd.R k31 31 wc w.heap.size (fun k_ => some k_ ≠ ((.slice Ao16 t540.length co16) : Value).ownBlock ∧ some k_ ≠ ((.slice Ao20 t546.length co20) : Value).ownBlock) (.slice Ao17 t541.length co17) t541) ∧ Aside0 (Kd.R k31 31 wc w.heap.size (fun k_ => some k_ ≠ ((.slice Ao16 t540.length co16) : Value).ownBlock ∧ some k_ ≠ ((.slice Ao17 t541.length co17) : Value).ownBlock) (.slice Ao20 t546.length co20) t546) ∧ Aside0 (Below w.heap.size w wc))
       case first =>
        have H := HC23.out
        clear HC23
        by_cases c24 : (t546.length : Int) = (wrap64 ((t540.length : Int) + (t541.length : Int)))
        ·rw [if_pos c24] at H
         have c24b0 : ((t546.length : Int) == (wrap64 ((t540.length : Int) + (t541.length : Int)))) = true := beq_iff_eq.mpr c24
         have c24b1 : ((t546.length : Int) != (wrap64 ((t540.length : Int) + (t541.length : Int)))) = false := bne_eq_false_iff_eq.mpr c24
         clear c24
         (first | rw [c24b0] | (simp only [i64_w, i32_w]; rw [c24b0]) | skip)
         by_cases c25 : (t546.length : Int) < (wrap64 (x9_1 - 1))
         ·rw [if_pos c25] at H
          have c25b0 : decide ((t546.length : Int) < (wrap64 (x9_1 - 1))) = true := decide_eq_true c25
          clear c25
          have H' := Aside0.mk H
          clear H
          go_wp2
          repeat (go_quiet (fail); try go_wp2)
          go_meet
          case rel => exact ⟨_, (true), (by first | rfl | (simp; done) | (simp [*]; done)), H', ⟨by have := HK1.out; first | omega | exact Nat.le_refl _⟩, ⟨by (with_reducible repeat (first | apply R_alloc | apply R_drewN | apply R_drew)); exact HO_3.out⟩, ⟨by (with_reducible repeat (first | apply R_alloc | apply R_drewN | apply R_drew)); exact HO_4.out⟩, ⟨by (with_reducible repeat (first | apply R_alloc | apply R_drewN | apply R_drew)); exact HO_5.out⟩, ⟨by repeat (first | (with_reducible first | exact HB.out | apply bwA | apply bwN | apply bw1) | exact HB.out)⟩⟩
         ·rw [if_neg c25] at H
          have c25b0 : decide ((t546.length : Int) < (wrap64 (x9_1 - 1))) = false := decide_eq_false c25
          clear c25
          replace H := bind_eq_some_iff.mp H
          obtain ⟨t555, A260, H⟩ := H
          replace H : (if t555 = true then ((impl_RankOf.f k1 t546).bind fun t556 => (laws_FnRank.j1 k1 t540 t541 t546 (decide (t556 < 0)))) else (laws_FnRank.j1 k1 t540 t541 t546 true)) = some r := H
          have A26 := Aside0.mk A260
          clear A260
          by_cases c27 : t555 = true
          ·subst c27
           have H1 : ((impl_RankOf.f k1 t546).bind fun t556 => (laws_FnRank.j1 k1 t540 t541 t546 (decide (t556 < 0)))) = some r := by rw [if_pos rfl] at H; exact H
           clear H
           have H := H1
           clear H1
           replace H := bind_eq_some_iff.mp H
           obtain ⟨t556, A280, H⟩ := H
           replace H : (laws_FnRank.j1 k1 t540 t541 t546 (decide (t556 < 0))) = some r := H
           have A28 := Aside0.mk A280
           clear A280
           have H' := Aside0.mk H
           clear H
           go_wp2_with (first | (go_at_call 16; (with_reducible refine (spec_HeapOk.calls k1 _ _ t546 true _ ?side1 ?side2 A26.out).mono ?_); (case side1 => repeat (first | exact (R_reads' HO_5.out).2.2 | (with_reducible refine C_alloc ?_ _) | (with_reducible refine C_drewN ?_ _) | (with_reducible refine C_drew ?_))); (case side2 => exact (R_reads' HO_5.out).2.1); rintro e w29 ⟨rfl, hb⟩; have n0_ := Aside0.mk (R_below (by (with_reducible repeat (first | apply R_alloc | apply R_drewN | apply R_drew)); exact HO_3.out) hb); have n1_ := Aside0.mk (R_below (by (with_reducible repeat (first | apply R_alloc | apply R_drewN | apply R_drew)); exact HO_4.out) hb); have n2_ := Aside0.mk (R_below (by (with_reducible repeat (first | apply R_alloc | apply R_drewN | apply R_drew)); exact HO_5.out) hb); have n3_ := Aside0.mk (below_step (by repeat (first | (with_reducible first | exact HB.out | apply bwA | apply bwN | apply bw1) | exact HB.out)) hb); clear HO_3; clear HO_4; clear HO_5; clear HB; have HO_3 := n0_; have HO_4 := n1_; have HO_5 := n2_; have HB := n3_; clear n0_ n1_ n2_ n3_; (try clear hb); (try clear hb2); (try clear hk); (try clear hi)) | (go_at_call 21; (with_reducible refine (impl_RankOf.calls k1 _ _ t546 t556 _ ?side1 ?side2 A28.out).mono ?_); (case side1 => repeat (first | exact (R_reads' HO_5.out).2.2 | (with_reducible refine C_alloc ?_ _) | (with_reducible refine C_drewN ?_ _) | (with_reducible refine C_drew ?_))); (case side2 => exact (R_reads' HO_5.out).2.1); rintro e w30 ⟨rfl, hb⟩; have n0_ := Aside0.mk (R_below (by (with_reducible repeat (first | apply R_alloc | apply R_drewN | apply R_drew)); exact HO_3.out) hb); have n1_ := Aside0.mk (R_below (by (with_reducible repeat (first | apply R_alloc | apply R_drewN | apply R_drew)); exact HO_4.out) hb); have n2_ := Aside0.mk (R_below (by (with_reducible repeat (first | apply R_alloc | apply R_drewN | apply R_drew)); exact HO_5.out) hb); have n3_ := Aside0.mk (below_step (by repeat (first | (with_reducible first | exact HB.out | apply bwA | apply bwN | apply bw1) | exact HB.out)) hb); clear HO_3; clear HO_4; clear HO_5; clear HB; have HO_3 := n0_; have HO_4 := n1_; have HO_5 := n2_; have HB := n3_; clear n0_ n1_ n2_ n3_; (try clear hb); (try clear hb2); (try clear hk); (try clear hi)))
           repeat (go_quiet (first | (go_at_call 16; (with_reducible refine (spec_HeapOk.calls k1 _ _ t546 true _ ?side1 ?side2 A26.out).mono ?_); (case side1 => repeat (first | exact (R_reads' HO_5.out).2.2 | (with_reducible refine C_alloc ?_ _) | (with_reducible refine C_drewN ?_ _) | (with_reducible refine C_drew ?_))); (case side2 => exact (R_reads' HO_5.out).2.1); rintro e w29 ⟨rfl, hb⟩; have n0_ := Aside0.mk (R_below (by (with_reducible repeat (first | apply R_alloc | apply R_drewN | apply R_drew)); exact HO_3.out) hb); have n1_ := Aside0.mk (R_below (by (with_reducible repeat (first | apply R_alloc | apply R_drewN | apply R_drew)); exact HO_4.out) hb); have n2_ := Aside0.mk (R_below (by (with_reducible repeat (first | apply R_alloc | apply R_drewN | apply R_drew)); exact HO_5.out) hb); have n3_ := Aside0.mk (below_step (by repeat (first | (with_reducible first | exact HB.out | apply bwA | apply bwN | apply bw1) | exact HB.out)) hb); clear HO_3; clear HO_4; clear HO_5; clear HB; have HO_3 := n0_; have HO_4 := n1_; have HO_5 := n2_; have HB := n3_; clear n0_ n1_ n2_ n3_; (try clear hb); (try clear hb2); (try clear hk); (try clear hi)) | (go_at_call 21; (with_reducible refine (impl_RankOf.calls k1 _ _ t546 t556 _ ?side1 ?side2 A28.out).mono ?_); (case side1 => repeat (first | exact (R_reads' HO_5.out).2.2 | (with_reducible refine C_alloc ?_ _) | (with_reducible refine C_drewN ?_ _) | (with_reducible refine C_drew ?_))); (case side2 => exact (R_reads' HO_5.out).2.1); rintro e w30 ⟨rfl, hb⟩; have n0_ := Aside0.mk (R_below (by (with_reducible repeat (first | apply R_alloc | apply R_drewN | apply R_drew)); exact HO_3.out) hb); have n1_ := Aside0.mk (R_below (by (with_reducible repeat (first | apply R_alloc | apply R_drewN | apply R_drew)); exact HO_4.out) hb); have n2_ := Aside0.mk (R_below (by (with_reducible repeat (first | apply R_alloc | apply R_drewN | apply R_drew)); exact HO_5.out) hb); have n3_ := Aside0.mk (below_step (by repeat (first | (with_reducible first | exact HB.out | apply bwA | apply bwN | apply bw1) | exact HB.out)) hb); clear HO_3; clear HO_4; clear HO_5; clear HB; have HO_3 := n0_; have HO_4 := n1_; have HO_5 := n2_; have HB := n3_; clear n0_ n1_ n2_ n3_; (try clear hb); (try clear hb2); (try clear hk); (try clear hi))); try go_wp2_with (first | (go_at_call 16; (with_reducible refine (spec_HeapOk.calls k1 _ _ t546 true _ ?side1 ?side2 A26.out).mono ?_); (case side1 => repeat (first | exact (R_reads' HO_5.out).2.2 | (with_reducible refine C_alloc ?_ _) | (with_reducible refine C_drewN ?_ _) | (with_reducible refine C_drew ?_))); (case side2 => exact (R_reads' HO_5.out).2.1); rintro e w29 ⟨rfl, hb⟩; have n0_ := Aside0.mk (R_below (by (with_reducible repeat (first | apply R_alloc | apply R_drewN | apply R_drew)); exact HO_3.out) hb); have n1_ := Aside0.mk (R_below (by (with_reducible repeat (first | apply R_alloc | apply R_drewN | apply R_drew)); exact HO_4.out) hb); have n2_ := Aside0.mk (R_below (by (with_reducible repeat (first | apply R_alloc | apply R_drewN | apply R_drew)); exact HO_5.out) hb); have n3_ := Aside0.mk (below_step (by repeat (first | (with_reducible first | exact HB.out | apply bwA | apply bwN | apply bw1) | exact HB.out)) hb); clear HO_3; clear HO_4; clear HO_5; clear HB; have HO_3 := n0_; have HO_4 := n1_; have HO_5 := n2_; have HB := n3_; clear n0_ n1_ n2_ n3_; (try clear hb); (try clear hb2); (try clear hk); (try clear hi)) | (go_at_call 21; (with_reducible refine (impl_RankOf.calls k1 _ _ t546 t556 _ ?side1 ?side2 A28.out).mono ?_); (case side1 => repeat (first | exact (R_reads' HO_5.out).2.2 | (with_reducible refine C_alloc ?_ _) | (with_reducible refine C_drewN ?_ _) | (with_reducible refine C_drew ?_))); (case side2 => exact (R_reads' HO_5.out).2.1); rintro e w30 ⟨rfl, hb⟩; have n0_ := Aside0.mk (R_below (by (with_reducible repeat (first | apply R_alloc | apply R_drewN | apply R_drew)); exact HO_3.out) hb); have n1_ := Aside0.mk (R_below (by (with_reducible repeat (first | apply R_alloc | apply R_drewN | apply R_drew)); exact HO_4.out) hb); have n2_ := Aside0.mk (R_below (by (with_reducible repeat (first | apply R_alloc | apply R_drewN | apply R_drew)); exact HO_5.out) hb); have n3_ := Aside0.mk (below_step (by repeat (first | (with_reducible first | exact HB.out | apply bwA | apply bwN | apply bw1) | exact HB.out)) hb); clear HO_3; clear HO_4; clear HO_5; clear HB; have HO_3 := n0_; have HO_4 := n1_; have HO_5 := n2_; have HB := n3_; clear n0_ n1_ n2_ n3_; (try clear hb); (try clear hb2); (try clear hk); (try clear hi))))
           go_meet
           case rel => exact ⟨_, (decide (t556 < 0)), (by first | rfl | (simp; done) | (simp [*]; done)), H', ⟨by have := HK1.out; first | omega | exact Nat.le_refl _⟩, ⟨by (with_reducible repeat (first | apply R_alloc | apply R_drewN | apply R_drew)); exact HO_3.out⟩, ⟨by (with_reducible repeat (first | apply R_alloc | apply R_drewN | apply R_drew)); exact HO_4.out⟩, ⟨by (with_reducible repeat (first | apply R_alloc | apply R_drewN | apply R_drew)); exact HO_5.out⟩, ⟨by repeat (first | (with_reducible first | exact HB.out | apply bwA | apply bwN | apply bw1) | exact HB.out)⟩⟩
          ·replace c27 := Bool.eq_false_iff.mpr c27
           subst c27
           have H1 : (laws_FnRank.j1 k1 t540 t541 t546 true) = some r := by rw [if_neg (show ¬ (false = true) by decide)] at H; exact H
           clear H
           have H := H1
           clear H1
           have H' := Aside0.mk H
           clear H
           go_wp2_with (first | (go_at_call 16; (with_reducible refine (spec_HeapOk.calls k1 _ _ t546 false _ ?side1 ?side2 A26.out).mono ?_); (case side1 => repeat (first | exact (R_reads' HO_5.out).2.2 | (with_reducible refine C_alloc ?_ _) | (with_reducible refine C_drewN ?_ _) | (with_reducible refine C_drew ?_))); (case side2 => exact (R_reads' HO_5.out).2.1); rintro e w31 ⟨rfl, hb⟩; have n0_ := Aside0.mk (R_below (by (with_reducible repeat (first | apply R_alloc | apply R_drewN | apply R_drew)); exact HO_3.out) hb); have n1_ := Aside0.mk (R_below (by (with_reducible repeat (first | apply R_alloc | apply R_drewN | apply R_drew)); exact HO_4.out) hb); have n2_ := Aside0.mk (R_below (by (with_reducible repeat (first | apply R_alloc | apply R_drewN | apply R_drew)); exact HO_5.out) hb); have n3_ := Aside0.mk (below_step (by repeat (first | (with_reducible first | exact HB.out | apply bwA | apply bwN | apply bw1) | exact HB.out)) hb); clear HO_3; clear HO_4; clear HO_5; clear HB; have HO_3 := n0_; have HO_4 := n1_; have HO_5 := n2_; have HB := n3_; clear n0_ n1_ n2_ n3_; (try clear hb); (try clear hb2); (try clear hk); (try clear hi)))
           repeat (go_quiet (first | (go_at_call 16; (with_reducible refine (spec_HeapOk.calls k1 _ _ t546 false _ ?side1 ?side2 A26.out).mono ?_); (case side1 => repeat (first | exact (R_reads' HO_5.out).2.2 | (with_reducible refine C_alloc ?_ _) | (with_reducible refine C_drewN ?_ _) | (with_reducible refine C_drew ?_))); (case side2 => exact (R_reads' HO_5.out).2.1); rintro e w31 ⟨rfl, hb⟩; have n0_ := Aside0.mk (R_below (by (with_reducible repeat (first | apply R_alloc | apply R_drewN | apply R_drew)); exact HO_3.out) hb); have n1_ := Aside0.mk (R_below (by (with_reducible repeat (first | apply R_alloc | apply R_drewN | apply R_drew)); exact HO_4.out) hb); have n2_ := Aside0.mk (R_below (by (with_reducible repeat (first | apply R_alloc | apply R_drewN | apply R_drew)); exact HO_5.out) hb); have n3_ := Aside0.mk (below_step (by repeat (first | (with_reducible first | exact HB.out | apply bwA | apply bwN | apply bw1) | exact HB.out)) hb); clear HO_3; clear HO_4; clear HO_5; clear HB; have HO_3 := n0_; have HO_4 := n1_; have HO_5 := n2_; have HB := n3_; clear n0_ n1_ n2_ n3_; (try clear hb); (try clear hb2); (try clear hk); (try clear hi))); try go_wp2_with (first | (go_at_call 16; (with_reducible refine (spec_HeapOk.calls k1 _ _ t546 false _ ?side1 ?side2 A26.out).mono ?_); (case side1 => repeat (first | exact (R_reads' HO_5.out).2.2 | (with_reducible refine C_alloc ?_ _) | (with_reducible refine C_drewN ?_ _) | (with_reducible refine C_drew ?_))); (case side2 => exact (R_reads' HO_5.out).2.1); rintro e w31 ⟨rfl, hb⟩; have n0_ := Aside0.mk (R_below (by (with_reducible repeat (first | apply R_alloc | apply R_drewN | apply R_drew)); exact HO_3.out) hb); have n1_ := Aside0.mk (R_below (by (with_reducible repeat (first | apply R_alloc | apply R_drewN | apply R_drew)); exact HO_4.out) hb); have n2_ := Aside0.mk (R_below (by (with_reducible repeat (first | apply R_alloc | apply R_drewN | apply R_drew)); exact HO_5.out) hb); have n3_ := Aside0.mk (below_step (by repeat (first | (with_reducible first | exact HB.out | apply bwA | apply bwN | apply bw1) | exact HB.out)) hb); clear HO_3; clear HO_4; clear HO_5; clear HB; have HO_3 := n0_; have HO_4 := n1_; have HO_5 := n2_; have HB := n3_; clear n0_ n1_ n2_ n3_; (try clear hb); (try clear hb2); (try clear hk); (try clear hi))))
           go_meet
           case rel => exact ⟨_, (true), (by first | rfl | (simp; done) | (simp [*]; done)), H', ⟨by have := HK1.out; first | omega | exact Nat.le_refl _⟩, ⟨by (with_reducible repeat (first | apply R_alloc | apply R_drewN | apply R_drew)); exact HO_3.out⟩, ⟨by (with_reducible repeat (first | apply R_alloc | apply R_drewN | apply R_drew)); exact HO_4.out⟩, ⟨by (with_reducible repeat (first | apply R_alloc | apply R_drewN | apply R_drew)); exact HO_5.out⟩, ⟨by repeat (first | (with_reducible first | exact HB.out | apply bwA | apply bwN | apply bw1) | exact HB.out)⟩⟩
        ·rw [if_neg c24] at H
         have c24b0 : ((t546.length : Int) == (wrap64 ((t540.length : Int) + (t541.length : Int)))) = false := beq_eq_false_iff_ne.mpr c24
         have c24b1 : ((t546.length : Int) != (wrap64 ((t540.length : Int) + (t541.length : Int)))) = true := bne_iff_ne.mpr c24
         (first | rw [c24b0] | (simp only [i64_w, i32_w]; rw [c24b0]) | skip)
         have H' := Aside0.mk H
         clear H
         go_wp2
         repeat (go_quiet (fail); try go_wp2)
         go_meet
         case rel => exact ⟨_, (true), (by first | rfl | (simp; done) | (simp [*]; done)), H', ⟨by have := HK1.out; first | omega | exact Nat.le_refl _⟩, ⟨by (with_reducible repeat (first | apply R_alloc | apply R_drewN | apply R_drew)); exact HO_3.out⟩, ⟨by (with_reducible repeat (first | apply R_alloc | apply R_drewN | apply R_drew)); exact HO_4.out⟩, ⟨by (with_reducible repeat (first | apply R_alloc | apply R_drewN | apply R_drew)); exact HO_5.out⟩, ⟨by repeat (first | (with_reducible first | exact HB.out | apply bwA | apply bwN | apply bw1) | exact HB.out)⟩⟩
       case rest =>
        clear HC23
        try clear c1
        try clear c2
        try clear p2
        try clear c3
        try clear p6
        try clear c7
        try clear c7b0
        try clear c7b1
        try clear c7b2
        try clear c13
        try clear c22
        try clear c22b0
        try clear c24
        try clear c24b0
        try clear c24b1
        try clear c25
        try clear c25b0
        try clear c27
        try clear p2
        obtain ⟨kq, x71_22, rfl, HA, HJ22, HO_3, HO_4, HO_5, HB⟩ := hcut
        cases kq with
        | zero => exact absurd HA.out (by simp [laws_FnRank.j1])
        | succ kj22 =>
         have H := HA.out
         clear HA
         simp only [laws_FnRank.j1] at H
         by_cases c32 : x71_22 = true
         ·subst c32
          have H1 : (some false) = some r := by rw [if_pos rfl] at H; exact H
          clear H
          have H := H1
          clear H1
          obtain rfl := Option.some.inj H
          go_wp2
          repeat (go_quiet (fail); try go_wp2)
          go_ret
          exact ⟨by first | rfl | (simp [errW_none, errW_some] <;> rfl) | (simp [*, errW_none, errW_some] <;> rfl), by repeat (first | (with_reducible first | exact HB.out | apply bwA | apply bwN | apply bw1) | exact HB.out)⟩
         ·replace c32 := Bool.eq_false_iff.mpr c32
          subst c32
          have H1 : ((impl_Sorted.f kj22 t546).bind fun t557 => ((impl_Sorted.f kj22 t540).bind fun t560 => ((impl_Sorted.f kj22 t541).bind fun t563 => (laws_FnRank.l1 kj22 t557 t560 t563 0)))) = some r := by rw [if_neg (show ¬ (false = true) by decide)] at H; exact H
          clear H
          have H := H1
          clear H1
          replace H := bind_eq_some_iff.mp H
          obtain ⟨t557, A330, H⟩ := H
          replace H : ((impl_Sorted.f kj22 t540).bind fun t560 => ((impl_Sorted.f kj22 t541).bind fun t563 => (laws_FnRank.l1 kj22 t557 t560 t563 0))) = some r := H
          have A33 := Aside0.mk A330
          clear A330
          replace H := bind_eq_some_iff.mp H
          obtain ⟨t560, A340, H⟩ := H
          replace H : ((impl_Sorted.f kj22 t541).bind fun t563 => (laws_FnRank.l1 kj22 t557 t560 t563 0)) = some r := H
          have A34 := Aside0.mk A340
          clear A340
          replace H := bind_eq_some_iff.mp H
          obtain ⟨t563, A350, H⟩ := H
          replace H : (laws_FnRank.l1 kj22 t557 t560 t563 0) = some r := H
          have A35 := Aside0.mk A350
          clear A350
          have H' := Aside0.mk H
          clear H
          go_wp2_with (first | (go_at_call 41; (with_reducible refine (impl_Sorted.calls kj22 _ _ t546 t557 _ ?side1 ?side2 A33.out).mono ?_); (case side1 => repeat (first | exact (R_reads' HO_5.out).2.2 | (with_reducible refine C_alloc ?_ _) | (with_reducible refine C_drewN ?_ _) | (with_reducible refine C_drew ?_))); (case side2 => exact (R_reads' HO_5.out).2.1); rintro e w36 ⟨v558, rfl, ho0, hb⟩; have n0_ := Aside0.mk (Kd.R_elder' (by (with_reducible repeat (first | apply R_alloc | apply R_drewN | apply R_drew)); exact HO_3.out) (Kd.R_base ho0) hb); have n1_ := Aside0.mk (Kd.R_elder' (by (with_reducible repeat (first | apply R_alloc | apply R_drewN | apply R_drew)); exact HO_4.out) (Kd.R_base ho0) hb); have n2_ := Aside0.mk (Kd.R_elder' (by (with_reducible repeat (first | apply R_alloc | apply R_drewN | apply R_drew)); exact HO_5.out) (Kd.R_base ho0) hb); have n3_ := Aside0.mk (Kd.R_lower (Kd.R_new' (Kd.R_new' (Kd.R_new' ho0 (Kd.R_lt (by (with_reducible repeat (first | apply R_alloc | apply R_drewN | apply R_drew)); exact HO_3.out))) (Kd.R_lt (by (with_reducible repeat (first | apply R_alloc | apply R_drewN | apply R_drew)); exact HO_4.out))) (Kd.R_lt (by (with_reducible repeat (first | apply R_alloc | apply R_drewN | apply R_drew)); exact HO_5.out))) (below_size (by repeat (first | (with_reducible first | exact HB.out | apply bwA | apply bwN | apply bw1) | exact HB.out)))); have n4_ := Aside0.mk (below_step (by repeat (first | (with_reducible first | exact HB.out | apply bwA | apply bwN | apply bw1) | exact HB.out)) hb); clear HO_3; clear HO_4; clear HO_5; clear HB; have HO_3 := n0_; have HO_4 := n1_; have HO_5 := n2_; have HO559 := n3_; have HB := n4_; clear n0_ n1_ n2_ n3_ n4_; (try clear hb); (try clear hb2); (try clear hk); (try clear hi); (try clear ho0)) | (go_at_call 41; (with_reducible refine (impl_Sorted.calls kj22 _ _ t540 t560 _ ?side1 ?side2 A34.out).mono ?_); (case side1 => repeat (first | exact (R_reads' HO_3.out).2.2 | (with_reducible refine C_alloc ?_ _) | (with_reducible refine C_drewN ?_ _) | (with_reducible refine C_drew ?_))); (case side2 => exact (R_reads' HO_3.out).2.1); rintro e w37 ⟨v561, rfl, ho0, hb⟩; have n0_ := Aside0.mk (Kd.R_elder' (by (with_reducible repeat (first | apply R_alloc | apply R_drewN | apply R_drew)); exact HO_3.out) (Kd.R_base ho0) hb); have n1_ := Aside0.mk (Kd.R_elder' (by (with_reducible repeat (first | apply R_alloc | apply R_drewN | apply R_drew)); exact HO_4.out) (Kd.R_base ho0) hb); have n2_ := Aside0.mk (Kd.R_elder' (by (with_reducible repeat (first | apply R_alloc | apply R_drewN | apply R_drew)); exact HO_5.out) (Kd.R_base ho0) hb); have n3_ := Aside0.mk (Kd.R_elder' (by (with_reducible repeat (first | apply R_alloc | apply R_drewN | apply R_drew)); exact HO559.out) (Kd.R_base ho0) hb); have n4_ := Aside0.mk (Kd.R_lower (Kd.R_new' (Kd.R_new' (Kd.R_new' (Kd.R_new' ho0 (Kd.R_lt (by (with_reducible repeat (first | apply R_alloc | apply R_drewN | apply R_drew)); exact HO_3.out))) (Kd.R_lt (by (with_reducible repeat (first | apply R_alloc | apply R_drewN | apply R_drew)); exact HO_4.out))) (Kd.R_lt (by (with_reducible repeat (first | apply R_alloc | apply R_drewN | apply R_drew)); exact HO_5.out))) (Kd.R_lt (by (with_reducible repeat (first | apply R_alloc | apply R_drewN | apply R_drew)); exact HO559.out))) (below_size (by repeat (first | (with_reducible first | exact HB.out | apply bwA | apply bwN | apply bw1) | exact HB.out)))); have n5_ := Aside0.mk (below_step (by repeat (first | (with_reducible first | exact HB.out | apply bwA | apply bwN | apply bw1) | exact HB.out)) hb); clear HO_3; clear HO_4; clear HO_5; clear HO559; clear HB; have HO_3 := n0_; have HO_4 := n1_; have HO_5 := n2_; have HO559 := n3_; have HO562 := n4_; have HB := n5_; clear n0_ n1_ n2_ n3_ n4_ n5_; (try clear hb); (try clear hb2); (try clear hk); (try clear hi); (try clear ho0)) | (go_at_call 41; (with_reducible refine (impl_Sorted.calls kj22 _ _ t541 t563 _ ?side1 ?side2 A35.out).mono ?_); (case side1 => repeat (first | exact (R_reads' HO_4.out).2.2 | (with_reducible refine C_alloc ?_ _) | (with_reducible refine C_drewN ?_ _) | (with_reducible refine C_drew ?_))); (case side2 => exact (R_reads' HO_4.out).2.1); rintro e w38 ⟨v564, rfl, ho0, hb⟩; have n0_ := Aside0.mk (Kd.R_elder' (by (with_reducible repeat (first | apply R_alloc | apply R_drewN | apply R_drew)); exact HO_3.out) (Kd.R_base ho0) hb); have n1_ := Aside0.mk (Kd.R_elder' (by (with_reducible repeat (first | apply R_alloc | apply R_drewN | apply R_drew)); exact HO_4.out) (Kd.R_base ho0) hb); have n2_ := Aside0.mk (Kd.R_elder' (by (with_reducible repeat (first | apply R_alloc | apply R_drewN | apply R_drew)); exact HO_5.out) (Kd.R_base ho0) hb); have n3_ := Aside0.mk (Kd.R_elder' (by (with_reducible repeat (first | apply R_alloc | apply R_drewN | apply R_drew)); exact HO559.out) (Kd.R_base ho0) hb); have n4_ := Aside0.mk (Kd.R_elder' (by (with_reducible repeat (first | apply R_alloc | apply R_drewN | apply R_drew)); exact HO562.out) (Kd.R_base ho0) hb); have n5_ := Aside0.mk (Kd.R_lower (Kd.R_new' (Kd.R_new' (Kd.R_new' (Kd.R_new' (Kd.R_new' ho0 (Kd.R_lt (by (with_reducible repeat (first | apply R_alloc | apply R_drewN | apply R_drew)); exact HO_3.out))) (Kd.R_lt (by (with_reducible repeat (first | apply R_alloc | apply R_drewN | apply R_drew)); exact HO_4.out))) (Kd.R_lt (by (with_reducible repeat (first | apply R_alloc | apply R_drewN | apply R_drew)); exact HO_5.out))) (Kd.R_lt (by (with_reducible repeat (first | apply R_alloc | apply R_drewN | apply R_drew)); exact HO559.out))) (Kd.R_lt (by (with_reducible repeat (first | apply R_alloc | apply R_drewN | apply R_drew)); exact HO562.out))) (below_size (by repeat (first | (with_reducible first | exact HB.out | apply bwA | apply bwN | apply bw1) | exact HB.out)))); have n6_ := Aside0.mk (below_step (by repeat (first | (with_reducible first | exact HB.out | apply bwA | apply bwN | apply bw1) | exact HB.out)) hb); clear HO_3; clear HO_4; clear HO_5; clear HO559; clear HO562; clear HB; have HO_3 := n0_; have HO_4 := n1_; have HO_5 := n2_; have HO559 := n3_; have HO562 := n4_; have HO565 := n5_; have HB := n6_; clear n0_ n1_ n2_ n3_ n4_ n5_ n6_; (try clear hb); (try clear hb2); (try clear hk); (try clear hi); (try clear ho0)))
          repeat (go_quiet (first | (go_at_call 41; (with_reducible refine (impl_Sorted.calls kj22 _ _ t546 t557 _ ?side1 ?side2 A33.out).mono ?_); (case side1 => repeat (first | exact (R_reads' HO_5.out).2.2 | (with_reducible refine C_alloc ?_ _) | (with_reducible refine C_drewN ?_ _) | (with_reducible refine C_drew ?_))); (case side2 => exact (R_reads' HO_5.out).2.1); rintro e w36 ⟨v558, rfl, ho0, hb⟩; have n0_ := Aside0.mk (Kd.R_elder' (by (with_reducible repeat (first | apply R_alloc | apply R_drewN | apply R_drew)); exact HO_3.out) (Kd.R_base ho0) hb); have n1_ := Aside0.mk (Kd.R_elder' (by (with_reducible repeat (first | apply R_alloc | apply R_drewN | apply R_drew)); exact HO_4.out) (Kd.R_base ho0) hb); have n2_ := Aside0.mk (Kd.R_elder' (by (with_reducible repeat (first | apply R_alloc | apply R_drewN | apply R_drew)); exact HO_5.out) (Kd.R_base ho0) hb); have n3_ := Aside0.mk (Kd.R_lower (Kd.R_new' (Kd.R_new' (Kd.R_new' ho0 (Kd.R_lt (by (with_reducible repeat (first | apply R_alloc | apply R_drewN | apply R_drew)); exact HO_3.out))) (Kd.R_lt (by (with_reducible repeat (first | apply R_alloc | apply R_drewN | apply R_drew)); exact HO_4.out))) (Kd.R_lt (by (with_reducible repeat (first | apply R_alloc | apply R_drewN | apply R_drew)); exact HO_5.out))) (below_size (by repeat (first | (with_reducible first | exact HB.out | apply bwA | apply bwN | apply bw1) | exact HB.out)))); have n4_ := Aside0.mk (below_step (by repeat (first | (with_reducible first | exact HB.out | apply bwA | apply bwN | apply bw1) | exact HB.out)) hb); clear HO_3; clear HO_4; clear HO_5; clear HB; have HO_3 := n0_; have HO_4 := n1_; have HO_5 := n2_; have HO559 := n3_; have HB := n4_; clear n0_ n1_ n2_ n3_ n4_; (try clear hb); (try clear hb2); (try clear hk); (try clear hi); (try clear ho0)) | (go_at_call 41; (with_reducible refine (impl_Sorted.calls kj22 _ _ t540 t560 _ ?side1 ?side2 A34.out).mono ?_); (case side1 => repeat (first | exact (R_reads' HO_3.out).2.2 | (with_reducible refine C_alloc ?_ _) | (with_reducible refine C_drewN ?_ _) | (with_reducible refine C_drew ?_))); (case side2 => exact (R_reads' HO_3.out).2.1); rintro e w37 ⟨v561, rfl, ho0, hb⟩; have n0_ := Aside0.mk (Kd.R_elder' (by (with_reducible repeat (first | apply R_alloc | apply R_drewN | apply R_drew)); exact HO_3.out) (Kd.R_base ho0) hb); have n1_ := Aside0.mk (Kd.R_elder' (by (with_reducible repeat (first | apply R_alloc | apply R_drewN | apply R_drew)); exact HO_4.out) (Kd.R_base ho0) hb); have n2_ := Aside0.mk (Kd.R_elder' (by (with_reducible repeat (first | apply R_alloc | apply R_drewN | apply R_drew)); exact HO_5.out) (Kd.R_base ho0) hb); have n3_ := Aside0.mk (Kd.R_elder' (by (with_reducible repeat (first | apply R_alloc | apply R_drewN | apply R_drew)); exact HO559.out) (Kd.R_base ho0) hb); have n4_ := Aside0.mk (Kd.R_lower (Kd.R_new' (Kd.R_new' (Kd.R_new' (Kd.R_new' ho0 (Kd.R_lt (by (with_reducible repeat (first | apply R_alloc | apply R_drewN | apply R_drew)); exact HO_3.out))) (Kd.R_lt (by (with_reducible repeat (first | apply R_alloc | apply R_drewN | apply R_drew)); exact HO_4.out))) (Kd.R_lt (by (with_reducible repeat (first | apply R_alloc | apply R_drewN | apply R_drew)); exact HO_5.out))) (Kd.R_lt (by (with_reducible repeat (first | apply R_alloc | apply R_drewN | apply R_drew)); exact HO559.out))) (below_size (by repeat (first | (with_reducible first | exact HB.out | apply bwA | apply bwN | apply bw1) | exact HB.out)))); have n5_ := Aside0.mk (below_step (by repeat (first | (with_reducible first | exact HB.out | apply bwA | apply bwN | apply bw1) | exact HB.out)) hb); clear HO_3; clear HO_4; clear HO_5; clear HO559; clear HB; have HO_3 := n0_; have HO_4 := n1_; have HO_5 := n2_; have HO559 := n3_; have HO562 := n4_; have HB := n5_; clear n0_ n1_ n2_ n3_ n4_ n5_; (try clear hb); (try clear hb2); (try clear hk); (try clear hi); (try clear ho0)) | (go_at_call 41; (with_reducible refine (impl_Sorted.calls kj22 _ _ t541 t563 _ ?side1 ?side2 A35.out).mono ?_); (case side1 => repeat (first | exact (R_reads' HO_4.out).2.2 | (with_reducible refine C_alloc ?_ _) | (with_reducible refine C_drewN ?_ _) | (with_reducible refine C_drew ?_))); (case side2 => exact (R_reads' HO_4.out).2.1); rintro e w38 ⟨v564, rfl, ho0, hb⟩; have n0_ := Aside0.mk (Kd.R_elder' (by (with_reducible repeat (first | apply R_alloc | apply R_drewN | apply R_drew)); exact HO_3.out) (Kd.R_base ho0) hb); have n1_ := Aside0.mk (Kd.R_elder' (by (with_reducible repeat (first | apply R_alloc | apply R_drewN | apply R_drew)); exact HO_4.out) (Kd.R_base ho0) hb); have n2_ := Aside0.mk (Kd.R_elder' (by (with_reducible repeat (first | apply R_alloc | apply R_drewN | apply R_drew)); exact HO_5.out) (Kd.R_base ho0) hb); have n3_ := Aside0.mk (Kd.R_elder' (by (with_reducible repeat (first | apply R_alloc | apply R_drewN | apply R_drew)); exact HO559.out) (Kd.R_base ho0) hb); have n4_ := Aside0.mk (Kd.R_elder' (by (with_reducible repeat (first | apply R_alloc | apply R_drewN | apply R_drew)); exact HO562.out) (Kd.R_base ho0) hb); have n5_ := Aside0.mk (Kd.R_lower (Kd.R_new' (Kd.R_new' (Kd.R_new' (Kd.R_new' (Kd.R_new' ho0 (Kd.R_lt (by (with_reducible repeat (first | apply R_alloc | apply R_drewN | apply R_drew)); exact HO_3.out))) (Kd.R_lt (by (with_reducible repeat (first | apply R_alloc | apply R_drewN | apply R_drew)); exact HO_4.out))) (Kd.R_lt (by (with_reducible repeat (first | apply R_alloc | apply R_drewN | apply R_drew)); exact HO_5.out))) (Kd.R_lt (by (with_reducible repeat (first | apply R_alloc | apply R_drewN | apply R_drew)); exact HO559.out))) (Kd.R_lt (by (with_reducible repeat (first | apply R_alloc | apply R_drewN | apply R_drew)); exact HO562.out))) (below_size (by repeat (first | (with_reducible first | exact HB.out | apply bwA | apply bwN | apply bw1) | exact HB.out)))); have n6_ := Aside0.mk (below_step (by repeat (first | (with_reducible first | exact HB.out | apply bwA | apply bwN | apply bw1) | exact HB.out)) hb); clear HO_3; clear HO_4; clear HO_5; clear HO559; clear HO562; clear HB; have HO_3 := n0_; have HO_4 := n1_; have HO_5 := n2_; have HO559 := n3_; have HO562 := n4_; have HO565 := n5_; have HB := n6_; clear n0_ n1_ n2_ n3_ n4_ n5_ n6_; (try clear hb); (try clear hb2); (try clear hk); (try clear hi); (try clear ho0))); try go_wp2_with (first | (go_at_call 41; (with_reducible refine (impl_Sorted.calls kj22 _ _ t546 t557 _ ?side1 ?side2 A33.out).mono ?_); (case side1 => repeat (first | exact (R_reads' HO_5.out).2.2 | (with_reducible refine C_alloc ?_ _) | (with_reducible refine C_drewN ?_ _) | (with_reducible refine C_drew ?_))); (case side2 => exact (R_reads' HO_5.out).2.1); rintro e w36 ⟨v558, rfl, ho0, hb⟩; have n0_ := Aside0.mk (Kd.R_elder' (by (with_reducible repeat (first | apply R_alloc | apply R_drewN | apply R_drew)); exact HO_3.out) (Kd.R_base ho0) hb); have n1_ := Aside0.mk (Kd.R_elder' (by (with_reducible repeat (first | apply R_alloc | apply R_drewN | apply R_drew)); exact HO_4.out) (Kd.R_base ho0) hb); have n2_ := Aside0.mk (Kd.R_elder' (by (with_reducible repeat (first | apply R_alloc | apply R_drewN | apply R_drew)); exact HO_5.out) (Kd.R_base ho0) hb); have n3_ := Aside0.mk (Kd.R_lower (Kd.R_new' (Kd.R_new' (Kd.R_new' ho0 (Kd.R_lt (by (with_reducible repeat (first | apply R_alloc | apply R_drewN | apply R_drew)); exact HO_3.out))) (Kd.R_lt (by (with_reducible repeat (first | apply R_alloc | apply R_drewN | apply R_drew)); exact HO_4.out))) (Kd.R_lt (by (with_reducible repeat (first | apply R_alloc | apply R_drewN | apply R_drew)); exact HO_5.out))) (below_size (by repeat (first | (with_reducible first | exact HB.out | apply bwA | apply bwN | apply bw1) | exact HB.out)))); have n4_ := Aside0.mk (below_step (by repeat (first | (with_reducible first | exact HB.out | apply bwA | apply bwN | apply bw1) | exact HB.out)) hb); clear HO_3; clear HO_4; clear HO_5; clear HB; have HO_3 := n0_; have HO_4 := n1_; have HO_5 := n2_; have HO559 := n3_; have HB := n4_; clear n0_ n1_ n2_ n3_ n4_; (try clear hb); (try clear hb2); (try clear hk); (try clear hi); (try clear ho0)) | (go_at_call 41; (with_reducible refine (impl_Sorted.calls kj22 _ _ t540 t560 _ ?side1 ?side2 A34.out).mono ?_); (case side1 => repeat (first | exact (R_reads' HO_3.out).2.2 | (with_reducible refine C_alloc ?_ _) | (with_reducible refine C_drewN ?_ _) | (with_reducible refine C_drew ?_))); (case side2 => exact (R_reads' HO_3.out).2.1); rintro e w37 ⟨v561, rfl, ho0, hb⟩; have n0_ := Aside0.mk (Kd.R_elder' (by (with_reducible repeat (first | apply R_alloc | apply R_drewN | apply R_drew)); exact HO_3.out) (Kd.R_base ho0) hb); have n1_ := Aside0.mk (Kd.R_elder' (by (with_reducible repeat (first | apply R_alloc | apply R_drewN | apply R_drew)); exact HO_4.out) (Kd.R_base ho0) hb); have n2_ := Aside0.mk (Kd.R_elder' (by (with_reducible repeat (first | apply R_alloc | apply R_drewN | apply R_drew)); exact HO_5.out) (Kd.R_base ho0) hb); have n3_ := Aside0.mk (Kd.R_elder' (by (with_reducible repeat (first | apply R_alloc | apply R_drewN | apply R_drew)); exact HO559.out) (Kd.R_base ho0) hb); have n4_ := Aside0.mk (Kd.R_lower (Kd.R_new' (Kd.R_new' (Kd.R_new' (Kd.R_new' ho0 (Kd.R_lt (by (with_reducible repeat (first | apply R_alloc | apply R_drewN | apply R_drew)); exact HO_3.out))) (Kd.R_lt (by (with_reducible repeat (first | apply R_alloc | apply R_drewN | apply R_drew)); exact HO_4.out))) (Kd.R_lt (by (with_reducible repeat (first | apply R_alloc | apply R_drewN | apply R_drew)); exact HO_5.out))) (Kd.R_lt (by (with_reducible repeat (first | apply R_alloc | apply R_drewN | apply R_drew)); exact HO559.out))) (below_size (by repeat (first | (with_reducible first | exact HB.out | apply bwA | apply bwN | apply bw1) | exact HB.out)))); have n5_ := Aside0.mk (below_step (by repeat (first | (with_reducible first | exact HB.out | apply bwA | apply bwN | apply bw1) | exact HB.out)) hb); clear HO_3; clear HO_4; clear HO_5; clear HO559; clear HB; have HO_3 := n0_; have HO_4 := n1_; have HO_5 := n2_; have HO559 := n3_; have HO562 := n4_; have HB := n5_; clear n0_ n1_ n2_ n3_ n4_ n5_; (try clear hb); (try clear hb2); (try clear hk); (try clear hi); (try clear ho0)) | (go_at_call 41; (with_reducible refine (impl_Sorted.calls kj22 _ _ t541 t563 _ ?side1 ?side2 A35.out).mono ?_); (case side1 => repeat (first | exact (R_reads' HO_4.out).2.2 | (with_reducible refine C_alloc ?_ _) | (with_reducible refine C_drewN ?_ _) | (with_reducible refine C_drew ?_))); (case side2 => exact (R_reads' HO_4.out).2.1); rintro e w38 ⟨v564, rfl, ho0, hb⟩; have n0_ := Aside0.mk (Kd.R_elder' (by (with_reducible repeat (first | apply R_alloc | apply R_drewN | apply R_drew)); exact HO_3.out) (Kd.R_base ho0) hb); have n1_ := Aside0.mk (Kd.R_elder' (by (with_reducible repeat (first | apply R_alloc | apply R_drewN | apply R_drew)); exact HO_4.out) (Kd.R_base ho0) hb); have n2_ := Aside0.mk (Kd.R_elder' (by (with_reducible repeat (first | apply R_alloc | apply R_drewN | apply R_drew)); exact HO_5.out) (Kd.R_base ho0) hb); have n3_ := Aside0.mk (Kd.R_elder' (by (with_reducible repeat (first | apply R_alloc | apply R_drewN | apply R_drew)); exact HO559.out) (Kd.R_base ho0) hb); have n4_ := Aside0.mk (Kd.R_elder' (by (with_reducible repeat (first | apply R_alloc | apply R_drewN | apply R_drew)); exact HO562.out) (Kd.R_base ho0) hb); have n5_ := Aside0.mk (Kd.R_lower (Kd.R_new' (Kd.R_new' (Kd.R_new' (Kd.R_new' (Kd.R_new' ho0 (Kd.R_lt (by (with_reducible repeat (first | apply R_alloc | apply R_drewN | apply R_drew)); exact HO_3.out))) (Kd.R_lt (by (with_reducible repeat (first | apply R_alloc | apply R_drewN | apply R_drew)); exact HO_4.out))) (Kd.R_lt (by (with_reducible repeat (first | apply R_alloc | apply R_drewN | apply R_drew)); exact HO_5.out))) (Kd.R_lt (by (with_reducible repeat (first | apply R_alloc | apply R_drewN | apply R_drew)); exact HO559.out))) (Kd.R_lt (by (with_reducible repeat (first | apply R_alloc | apply R_drewN | apply R_drew)); exact HO562.out))) (below_size (by repeat (first | (with_reducible first | exact HB.out | apply bwA | apply bwN | apply bw1) | exact HB.out)))); have n6_ := Aside0.mk (below_step (by repeat (first | (with_reducible first | exact HB.out | apply bwA | apply bwN | apply bw1) | exact HB.out)) hb); clear HO_3; clear HO_4; clear HO_5; clear HO559; clear HO562; clear HB; have HO_3 := n0_; have HO_4 := n1_; have HO_5 := n2_; have HO559 := n3_; have HO562 := n4_; have HO565 := n5_; have HB := n6_; clear n0_ n1_ n2_ n3_ n4_ n5_ n6_; (try clear hb); (try clear hb2); (try clear hk); (try clear hi); (try clear ho0))))
          go_loopg [12, 13, 14] kj22 (fun kq v12 v13 v14 w' => ∃ (x12_3 : List (S31)) (x13_3 : List (S31)) (x14_3 : Int), v14 = .int .i64 x14_3 ∧ Aside0 (laws_FnRank.l1 kq t557 x12_3 x13_3 x14_3 = some r) ∧ Aside0 (kq ≤ kj22) ∧ Aside0 (Kd.R k31 31 w' w.heap.size (fun k_ => some k_ ≠ (v12 : Value).ownBlock ∧ some k_ ≠ (v13 : Value).ownBlock) v558 t557) ∧ Aside0 (Kd.Q k31 31 w' w.heap.size (fun k_ => some k_ ≠ (v558 : Value).ownBlock ∧ some k_ ≠ (v13 : Value).ownBlock) v12 x12_3) ∧ Aside0 (Kd.Q k31 31 w' w.heap.size (fun k_ => some k_ ≠ (v558 : Value).ownBlock ∧ some k_ ≠ (v12 : Value).ownBlock) v13 x13_3) ∧ Aside0 (Below w.heap.size w w'))
          case atStart => exact ⟨(t560), (t563), (0), (by first | rfl | (simp; done) | (simp [*]; done)), H', ⟨Nat.le_refl _⟩, ⟨by (with_reducible repeat (first | apply R_alloc | apply R_drewN | apply R_drew)); exact Kd.R_mono HO559.out (fun _ hk => ⟨hk.1.2, hk.2⟩)⟩, ⟨Kd.Q_of_R (by (with_reducible repeat (first | apply R_alloc | apply R_drewN | apply R_drew)); exact Kd.R_mono HO562.out (fun _ hk => ⟨hk.1.2, hk.2⟩))⟩, ⟨Kd.Q_of_R (by (with_reducible repeat (first | apply R_alloc | apply R_drewN | apply R_drew)); exact Kd.R_mono HO565.out (fun _ hk => ⟨hk.1.2, hk.2⟩))⟩, ⟨by repeat (first | (with_reducible first | exact HB.out | apply bwA | apply bwN | apply bw1) | exact HB.out)⟩⟩
          case round =>
           clear H'
           try clear c1
           try clear c2
           try clear p2
           try clear c3
           try clear p6
           try clear c7
           try clear c7b0
           try clear c7b1
           try clear c7b2
           try clear c13
           try clear c22
           try clear c22b0
           try clear c24
           try clear c24b0
           try clear c24b1
           try clear c25
           try clear c25b0
           try clear c27
           try clear c32
           try clear p2
           try clear p6
           obtain ⟨x12_3, x13_3, x14_3, rfl, HA, HK3, HO_11, HO_12, HO_13, HB⟩ := hrel
           cases gk with
           | zero => exact absurd HA.out (by simp [laws_FnRank.l1])
           | succ k3 =>
            have H := HA.out
            clear HA
            simp only [laws_FnRank.l1] at H
            by_cases c39 : x14_3 < (t557.length : Int)
            ·rw [if_pos c39] at H
             have c39b0 : decide (x14_3 < (t557.length : Int)) = true := decide_eq_true c39
             clear c39
             have HC40 := Aside0.mk H
             clear H
             obtain ⟨Ao41, co41, eo41⟩ := Kd.R_slice HO_11.out
             subst eo41
             go_upto_region 23 with (fail)
             repeat (go_quiet (fail); go_upto_region 23 with (fail))
             go_cut [96] (fun v96 wc => ∃ (kq : Nat) (x96_39 : Bool), v96 = .bool x96_39 ∧ Aside0 (laws_FnRank.j3 kq t557 x12_3 x13_3 x14_3 x96_39 = some r) ∧ Aside0 (kq ≤ k3) ∧ Aside0 (Kd.R k31 31 wc w.heap.size (fun k_ => some k_ ≠ (u12 : Value).ownBlock ∧ some k_ ≠ (u13 : Value).ownBlock) (.slice Ao41 t557.length co41) t557) ∧ Aside0 (Kd.Q k31 31 wc w.heap.size (fun k_ => some k_ ≠ ((.slice Ao41 t557.length co41) : Value).ownBlock ∧ some k_ ≠ (u13 : Value).ownBlock) u12 x12_3) ∧ Aside0 (Kd.Q k31 31 wc w.heap.size (fun k_ => some k_ ≠ ((.slice Ao41 t557.length co41) : Value).ownBlock ∧ some k_ ≠ (u12 : Value).ownBlock) u13 x13_3) ∧ Aside0 (Below w.heap.size w wc))
             case first =>
              have H := HC40.out
              clear HC40
              by_cases c42 : (x12_3.length : Int) > 0
              ·rw [if_pos c42] at H
               have c42b0 : decide (0 < (x12_3.length : Int)) = true := decide_eq_true c42
               have c42b1 : decide (0 < x12_3.length) = true := decide_eq_true (by omega)
               clear c42
               (first | rw [c42b0] | (simp only [i64_w, i32_w]; rw [c42b0]) | skip)
               by_cases c43 : 0 < (x12_3.length : Int)
               ·rw [if_pos c43] at H
                have c43b0 : decide (0 < (x12_3.length : Int)) = true := decide_eq_true c43
                have c43b1 : decide (0 < x12_3.length) = true := decide_eq_true (by omega)
                clear c43
                by_cases c44 : 0 ≤ x14_3
                ·rw [if_pos c44] at H
                 have c44b0 : decide (0 ≤ x14_3) = true := decide_eq_true c44
                 clear c44
                 have H' := Aside0.mk H
                 clear H
                 obtain ⟨Ao45, co45, eo45, _⟩ := Kd.Q_slice HO_12.out
                 subst eo45
                 have p566 : 0 ≤ (0 : Int) := (by omega)
                 have q566 : 0 < (x12_3.length : Int) := of_decide_eq_true (by first | (with_reducible assumption) | assumption)
                 obtain ⟨ad566, e566, hx566_0, hx566_1, hx566_2⟩ := at_T31 (Kd.Q_reads' HO_12.out).2.2 0 p566 q566
                 cases e566
                 have qi566 : (0 < x12_3.length) = True := eq_true (by omega)
                 (try rw [show ((0 : Int)).toNat = 0 from rfl] at hx566_0)
                 (try rw [show 0 * 3 = 0 from rfl] at hx566_0)
                 (try rw [Addr.add_zero'] at hx566_0)
                 (try rw [show ((0 : Int)).toNat = 0 from rfl] at hx566_1)
                 (try rw [show 0 * 3 = 0 from rfl] at hx566_1)
                 (try rw [Addr.add_zero'] at hx566_1)
                 (try rw [show ((0 : Int)).toNat = 0 from rfl] at hx566_2)
                 (try rw [show 0 * 3 = 0 from rfl] at hx566_2)
                 (try rw [Addr.add_zero'] at hx566_2)
                 replace p566 := eq_true p566
                 replace q566 := eq_true q566
                 have p567 : 0 ≤ (x14_3 : Int) := of_decide_eq_true (by first | (with_reducible assumption) | assumption)
                 have q567 : x14_3 < (t557.length : Int) := of_decide_eq_true (by first | (with_reducible assumption) | assumption)
                 obtain ⟨ad567, e567, hx567_0, hx567_1, hx567_2⟩ := at_T31 (R_reads' HO_11.out).2.2 x14_3 p567 q567
                 cases e567
                 replace p567 := eq_true p567
                 replace q567 := eq_true q567
                 go_wp2
                 repeat (go_quiet (fail); try go_wp2)
                 go_meet
                 case rel => exact ⟨_, ((((rd_T31 x12_3 0).f0) == ((rd_T31 t557 x14_3).f0) && (((rd_T31 x12_3 0).f1) == ((rd_T31 t557 x14_3).f1) && (((rd_T31 x12_3 0).f2) == ((rd_T31 t557 x14_3).f2))))), (by first | rfl | (simp; done) | (simp [*]; done)), H', ⟨by have := HK1.out; have := HJ22.out; have := HK3.out; first | omega | exact Nat.le_refl _⟩, ⟨by (with_reducible repeat (first | apply R_alloc | apply R_drewN | apply R_drew)); exact HO_11.out⟩, ⟨by (with_reducible repeat (first | apply Kd.Q_alloc | apply Kd.Q_drewN | apply Kd.Q_drew)); exact HO_12.out⟩, ⟨by (with_reducible repeat (first | apply Kd.Q_alloc | apply Kd.Q_drewN | apply Kd.Q_drew)); exact HO_13.out⟩, ⟨by repeat (first | (with_reducible first | exact HB.out | apply bwA | apply bwN | apply bw1) | exact HB.out)⟩⟩
                ·rw [if_neg c44] at H
                 exact absurd H (by simp)
               ·rw [if_neg c43] at H
                exact absurd H (by simp)
              ·rw [if_neg c42] at H
               have c42b0 : decide (0 < (x12_3.length : Int)) = false := decide_eq_false c42
               have c42b1 : decide (0 < x12_3.length) = false := decide_eq_false (by omega)
               clear c42
               (first | rw [c42b0] | (simp only [i64_w, i32_w]; rw [c42b0]) | skip)
               have H' := Aside0.mk H
               clear H
               obtain ⟨Ao46, co46, eo46, _⟩ := Kd.Q_slice HO_12.out
               subst eo46
               go_wp2
               repeat (go_quiet (fail); try go_wp2)
               go_meet
               case rel => exact ⟨_, (false), (by first | rfl | (simp; done) | (simp [*]; done)), H', ⟨by have := HK1.out; have := HJ22.out; have := HK3.out; first | omega | exact Nat.le_refl _⟩, ⟨by (with_reducible repeat (first | apply R_alloc | apply R_drewN | apply R_drew)); exact HO_11.out⟩, ⟨by (with_reducible repeat (first | apply Kd.Q_alloc | apply Kd.Q_drewN | apply Kd.Q_drew)); exact HO_12.out⟩, ⟨by (with_reducible repeat (first | apply Kd.Q_alloc | apply Kd.Q_drewN | apply Kd.Q_drew)); exact HO_13.out⟩, ⟨by repeat (first | (with_reducible first | exact HB.out | apply bwA | apply bwN | apply bw1) | exact HB.out)⟩⟩
             case rest =>
              clear HC40
              try clear c1
              try clear c2
              try clear p2
              try clear c3
              try clear c4
              try clear p5
              try clear q5
              try clear hx5
              try clear qi5
              try clear p6
              try clear c7
              try clear c7b0
              try clear c7b1
              try clear c7b2
              try clear c13
              try clear c22
              try clear c22b0
              try clear c24
              try clear c24b0
              try clear c24b1
              try clear c25
              try clear c25b0
              try clear c27
              try clear c32
              try clear c39
              try clear c39b0
              try clear c42
              try clear c42b0
              try clear c42b1
              try clear c43
              try clear c43b0
              try clear c43b1
              try clear c44
              try clear c44b0
              try clear hx566_0
              try clear hx566_1
              try clear hx566_2
              try clear hx567_0
              try clear hx567_1
              try clear hx567_2
              try clear p2
              try clear p566
              try clear p567
              try clear p6
              try clear q566
              try clear q567
              obtain ⟨kq, x96_39, rfl, HA, HJ39, HO_11, HO_12, HO_13, HB⟩ := hcut
              cases kq with
              | zero => exact absurd HA.out (by simp [laws_FnRank.j3])
              | succ kj39 =>
               have H := HA.out
               clear HA
               simp only [laws_FnRank.j3] at H
               by_cases c47 : x96_39 = true
               ·subst c47
                have H1 : (if 1 ≤ (x12_3.length : Int) then (laws_FnRank.l1 kj39 t557 (x12_3.drop (1 : Int).toNat) x13_3 (wrap64 (x14_3 + 1))) else (none)) = some r := by rw [if_pos rfl] at H; exact H
                clear H
                have H := H1
                clear H1
                by_cases c48 : 1 ≤ (x12_3.length : Int)
                ·rw [if_pos c48] at H
                 have c48b0 := eq_true c48
                 have c48b1 : decide (1 ≤ (x12_3.length : Int)) = true := decide_eq_true c48
                 clear c48
                 obtain ⟨y568, hy568⟩ : ∃ y_ : List (S31), y_ = (x12_3.drop (1 : Int).toNat) := ⟨_, rfl⟩
                 replace H : (laws_FnRank.l1 kj39 t557 y568 x13_3 (wrap64 (x14_3 + 1))) = some r := by first | (rw [hy568]; with_reducible exact H) | (have H2_ := (Option.bind_some _ _).symm.trans H; rw [hy568]; with_reducible exact H2_) | (have H2_ := (Option.bind_some _ _).symm.trans H; with_reducible exact H2_) | with_reducible exact H | (rw [hy568]; exact H) | exact H
                 have Ny568 := Aside0.mk hy568
                 clear hy568
                 have H' := Aside0.mk H
                 clear H
                 obtain ⟨Ao49, co49, eo49, _⟩ := Kd.Q_slice HO_12.out
                 subst eo49
                 have q50 : (1 : Int) ≤ ((x12_3.length : Int) : Int) := of_decide_eq_true (by first | (with_reducible assumption) | assumption)
                 obtain ⟨i050, hi050, _, hsz50, _⟩ := info_parts info31
                 have hcut50 := cut_from (P := Try.prog) 25 31 .i64 Try.underlying25 hi050 3 hsz50 Ao49 x12_3.length co49 1 (by omega) q50
                 have hr50 := Kd.Q_drop (k := (1 : Int).toNat) HO_12.out (by omega)
                 obtain ⟨A50, hA50⟩ : ∃ A1, A1 = (if co49 = (1 : Int).toNat then Ao49 else (Ao49 : Option Addr).map (·.add ((1 : Int).toNat * 3))) := ⟨_, rfl⟩
                 obtain ⟨c50, hc50⟩ : ∃ c1, c1 = co49 - (1 : Int).toNat := ⟨_, rfl⟩
                 have hy50 : y568.length = x12_3.length - (1 : Int).toNat := (by rw [Ny568.out, length_drop])
                 rw [← Ny568.out] at hr50
                 rw [← hy50, ← hA50, ← hc50] at hcut50
                 replace hr50 : Kd.Q k31 31 wc w.heap.size (fun k_ => some k_ ≠ (.slice Ao41 t557.length co41 : Value).ownBlock ∧ some k_ ≠ (u13 : Value).ownBlock) (.slice A50 y568.length c50) y568 := (by rw [hA50, hc50, hy50]; exact hr50)
                 have HE50 : Aside0 ((Value.slice A50 y568.length c50).ownBlock = (.slice Ao49 x12_3.length co49 : Value).ownBlock) := ⟨by rw [hA50]; split <;> (cases (Ao49 : Option Addr) <;> rfl)⟩
                 clear hy50 hi050 hsz50 HO_12 hA50 hc50
                 have HO570 := Aside0.mk hr50
                 clear hr50
                 replace q50 := eq_true q50
                 have n_ := Aside0.mk (Kd.R_mono (ok' := fun k_ => (some k_ ≠ (.slice A50 y568.length c50 : Value).ownBlock ∧ some k_ ≠ (u13 : Value).ownBlock)) HO_11.out (fun k_ hk => ⟨(by rw [HE50.out]; exact hk.1), hk.2⟩))
                 clear HO_11
                 have HO_11 := n_
                 clear n_
                 have n_ := Aside0.mk (Kd.Q_mono (ok' := fun k_ => (some k_ ≠ (.slice Ao41 t557.length co41 : Value).ownBlock ∧ some k_ ≠ (.slice A50 y568.length c50 : Value).ownBlock)) HO_13.out (fun k_ hk => ⟨hk.1, (by rw [HE50.out]; exact hk.2)⟩))
                 clear HO_13
                 have HO_13 := n_
                 clear n_
                 go_wp2
                 repeat (go_quiet (fail); try go_wp2)
                 go_roundg kj39
                 case measure => have := HK1.out; have := HJ22.out; have := HK3.out; have := HJ39.out; omega
                 case rel => exact ⟨(y568), (x13_3), (wrap64 (x14_3 + 1)), (by first | rfl | (simp; done) | (simp [*]; done)), H', ⟨by have := HK1.out; have := HJ22.out; have := HK3.out; have := HJ39.out; omega⟩, ⟨by (with_reducible repeat (first | apply R_alloc | apply R_drewN | apply R_drew)); exact HO_11.out⟩, ⟨by (with_reducible repeat (first | apply Kd.Q_alloc | apply Kd.Q_drewN | apply Kd.Q_drew)); exact HO570.out⟩, ⟨by (with_reducible repeat (first | apply Kd.Q_alloc | apply Kd.Q_drewN | apply Kd.Q_drew)); exact HO_13.out⟩, ⟨by repeat (first | (with_reducible first | exact HB.out | apply bwA | apply bwN | apply bw1) | exact HB.out)⟩⟩
                ·rw [if_neg c48] at H
                 exact absurd H (by simp)
               ·replace c47 := Bool.eq_false_iff.mpr c47
                subst c47
                have H1 : (if (x13_3.length : Int) > 0 then (if 0 < (x13_3.length : Int) then (if 0 ≤ x14_3 then (if x14_3 < (t557.length : Int) then (if (((rd_T31 x13_3 0).f0) == ((rd_T31 t557 x14_3).f0) && (((rd_T31 x13_3 0).f1) == ((rd_T31 t557 x14_3).f1) && (((rd_T31 x13_3 0).f2) == ((rd_T31 t557 x14_3).f2)))) = true then (if 1 ≤ (x13_3.length : Int) then (laws_FnRank.l1 kj39 t557 x12_3 (x13_3.drop (1 : Int).toNat) (wrap64 (x14_3 + 1))) else (none)) else (some false)) else (none)) else (none)) else (none)) else (some false)) = some r := by rw [if_neg (show ¬ (false = true) by decide)] at H; exact H
                clear H
                have H := H1
                clear H1
                by_cases c51 : (x13_3.length : Int) > 0
                ·rw [if_pos c51] at H
                 have c51b0 : decide (0 < (x13_3.length : Int)) = true := decide_eq_true c51
                 have c51b1 : decide (0 < x13_3.length) = true := decide_eq_true (by omega)
                 clear c51
                 by_cases c52 : 0 < (x13_3.length : Int)
                 ·rw [if_pos c52] at H
                  have c52b0 : decide (0 < (x13_3.length : Int)) = true := decide_eq_true c52
                  have c52b1 : decide (0 < x13_3.length) = true := decide_eq_true (by omega)
                  clear c52
                  by_cases c53 : 0 ≤ x14_3
                  ·rw [if_pos c53] at H
                   have c53b0 : decide (0 ≤ x14_3) = true := decide_eq_true c53
                   clear c53
                   by_cases c54 : x14_3 < (t557.length : Int)
                   ·rw [if_pos c54] at H
                    have c54b0 : decide (x14_3 < (t557.length : Int)) = true := decide_eq_true c54
                    clear c54
                    by_cases c55 : (((rd_T31 x13_3 0).f0) == ((rd_T31 t557 x14_3).f0) && (((rd_T31 x13_3 0).f1) == ((rd_T31 t557 x14_3).f1) && (((rd_T31 x13_3 0).f2) == ((rd_T31 t557 x14_3).f2)))) = true
                    ·rw [if_pos c55] at H
                     have c55b0 : (((rd_T31 x13_3 0).f0) == ((rd_T31 t557 x14_3).f0) && (((rd_T31 x13_3 0).f1) == ((rd_T31 t557 x14_3).f1) && (((rd_T31 x13_3 0).f2) == ((rd_T31 t557 x14_3).f2)))) = true := c55
                     (try (have c55b1 : decide (((rd_T31 x13_3 0).f0) = ((rd_T31 t557 x14_3).f0) && (((rd_T31 x13_3 0).f1) == ((rd_T31 t557 x14_3).f1) && (((rd_T31 x13_3 0).f2) == ((rd_T31 t557 x14_3).f2)))) = true := by simpa using c55))
                     (try (have c55b2 : (((rd_T31 x13_3 0).f0) == ((rd_T31 t557 x14_3).f0) && (((rd_T31 x13_3 0).f1) == ((rd_T31 t557 x14_3).f1) && (((rd_T31 x13_3 0).f2) == ((rd_T31 t557 x14_3).f2)))) = true := by simpa using c55))
                     clear c55
                     by_cases c56 : 1 ≤ (x13_3.length : Int)
                     ·rw [if_pos c56] at H
                      have c56b0 := eq_true c56
                      have c56b1 : decide (1 ≤ (x13_3.length : Int)) = true := decide_eq_true c56
                      clear c56
                      obtain ⟨y573, hy573⟩ : ∃ y_ : List (S31), y_ = (x13_3.drop (1 : Int).toNat) := ⟨_, rfl⟩
                      replace H : (laws_FnRank.l1 kj39 t557 x12_3 y573 (wrap64 (x14_3 + 1))) = some r := by first | (rw [hy573]; with_reducible exact H) | (have H2_ := (Option.bind_some _ _).symm.trans H; rw [hy573]; with_reducible exact H2_) | (have H2_ := (Option.bind_some _ _).symm.trans H; with_reducible exact H2_) | with_reducible exact H | (rw [hy573]; exact H) | exact H
                      have Ny573 := Aside0.mk hy573
                      clear hy573
                      have H' := Aside0.mk H
                      clear H
                      obtain ⟨Ao57, co57, eo57, _⟩ := Kd.Q_slice HO_13.out
                      subst eo57
                      have p571 : 0 ≤ (0 : Int) := (by omega)
                      have q571 : 0 < (x13_3.length : Int) := of_decide_eq_true (by first | (with_reducible assumption) | assumption)
                      obtain ⟨ad571, e571, hx571_0, hx571_1, hx571_2⟩ := at_T31 (Kd.Q_reads' HO_13.out).2.2 0 p571 q571
                      cases e571
                      have qi571 : (0 < x13_3.length) = True := eq_true (by omega)
                      (try rw [show ((0 : Int)).toNat = 0 from rfl] at hx571_0)
                      (try rw [show 0 * 3 = 0 from rfl] at hx571_0)
                      (try rw [Addr.add_zero'] at hx571_0)
                      (try rw [show ((0 : Int)).toNat = 0 from rfl] at hx571_1)
                      (try rw [show 0 * 3 = 0 from rfl] at hx571_1)
                      (try rw [Addr.add_zero'] at hx571_1)
                      (try rw [show ((0 : Int)).toNat = 0 from rfl] at hx571_2)
                      (try rw [show 0 * 3 = 0 from rfl] at hx571_2)
                      (try rw [Addr.add_zero'] at hx571_2)
                      replace p571 := eq_true p571
                      replace q571 := eq_true q571
                      have p572 : 0 ≤ (x14_3 : Int) := of_decide_eq_true (by first | (with_reducible assumption) | assumption)
                      have q572 : x14_3 < (t557.length : Int) := of_decide_eq_true (by first | (with_reducible assumption) | assumption)
                      obtain ⟨ad572, e572, hx572_0, hx572_1, hx572_2⟩ := at_T31 (R_reads' HO_11.out).2.2 x14_3 p572 q572
                      cases e572
                      replace p572 := eq_true p572
                      replace q572 := eq_true q572
                      have q58 : (1 : Int) ≤ ((x13_3.length : Int) : Int) := of_decide_eq_true (by first | (with_reducible assumption) | assumption)
                      obtain ⟨i058, hi058, _, hsz58, _⟩ := info_parts info31
                      have hcut58 := cut_from (P := Try.prog) 25 31 .i64 Try.underlying25 hi058 3 hsz58 (some ad571) x13_3.length co57 1 (by omega) q58
                      have hr58 := Kd.Q_drop (k := (1 : Int).toNat) HO_13.out (by omega)
                      obtain ⟨A58, hA58⟩ : ∃ A1, A1 = (if co57 = (1 : Int).toNat then (some ad571) else ((some ad571) : Option Addr).map (·.add ((1 : Int).toNat * 3))) := ⟨_, rfl⟩
                      obtain ⟨c58, hc58⟩ : ∃ c1, c1 = co57 - (1 : Int).toNat := ⟨_, rfl⟩
                      have hy58 : y573.length = x13_3.length - (1 : Int).toNat := (by rw [Ny573.out, length_drop])
                      rw [← Ny573.out] at hr58
                      rw [← hy58, ← hA58, ← hc58] at hcut58
                      replace hr58 : Kd.Q k31 31 wc w.heap.size (fun k_ => some k_ ≠ (.slice (some ad572) t557.length co41 : Value).ownBlock ∧ some k_ ≠ (u12 : Value).ownBlock) (.slice A58 y573.length c58) y573 := (by rw [hA58, hc58, hy58]; exact hr58)
                      have HE58 : Aside0 ((Value.slice A58 y573.length c58).ownBlock = (.slice (some ad571) x13_3.length co57 : Value).ownBlock) := ⟨by rw [hA58]; split <;> (cases ((some ad571) : Option Addr) <;> rfl)⟩
                      clear hy58 hi058 hsz58 HO_13 hA58 hc58
                      have HO575 := Aside0.mk hr58
                      clear hr58
                      replace q58 := eq_true q58
                      have n_ := Aside0.mk (Kd.R_mono (ok' := fun k_ => (some k_ ≠ (u12 : Value).ownBlock ∧ some k_ ≠ (.slice A58 y573.length c58 : Value).ownBlock)) HO_11.out (fun k_ hk => ⟨hk.1, (by rw [HE58.out]; exact hk.2)⟩))
                      clear HO_11
                      have HO_11 := n_
                      clear n_
                      have n_ := Aside0.mk (Kd.Q_mono (ok' := fun k_ => (some k_ ≠ (.slice (some ad572) t557.length co41 : Value).ownBlock ∧ some k_ ≠ (.slice A58 y573.length c58 : Value).ownBlock)) HO_12.out (fun k_ hk => ⟨hk.1, (by rw [HE58.out]; exact hk.2)⟩))
                      clear HO_12
                      have HO_12 := n_
                      clear n_
                      go_wp2
                      repeat (go_quiet (fail); try go_wp2)
                      go_roundg kj39
                      case measure => have := HK1.out; have := HJ22.out; have := HK3.out; have := HJ39.out; omega
                      case rel => exact ⟨(x12_3), (y573), (wrap64 (x14_3 + 1)), (by first | rfl | (simp; done) | (simp [*]; done)), H', ⟨by have := HK1.out; have := HJ22.out; have := HK3.out; have := HJ39.out; omega⟩, ⟨by (with_reducible repeat (first | apply R_alloc | apply R_drewN | apply R_drew)); exact HO_11.out⟩, ⟨by (with_reducible repeat (first | apply Kd.Q_alloc | apply Kd.Q_drewN | apply Kd.Q_drew)); exact HO_12.out⟩, ⟨by (with_reducible repeat (first | apply Kd.Q_alloc | apply Kd.Q_drewN | apply Kd.Q_drew)); exact HO575.out⟩, ⟨by repeat (first | (with_reducible first | exact HB.out | apply bwA | apply bwN | apply bw1) | exact HB.out)⟩⟩
                     ·rw [if_neg c56] at H
                      exact absurd H (by simp)
                    ·rw [if_neg c55] at H
                     have c55b0 : (((rd_T31 x13_3 0).f0) == ((rd_T31 t557 x14_3).f0) && (((rd_T31 x13_3 0).f1) == ((rd_T31 t557 x14_3).f1) && (((rd_T31 x13_3 0).f2) == ((rd_T31 t557 x14_3).f2)))) = false := by simpa using c55
                     (try (have c55b1 : decide (((rd_T31 x13_3 0).f0) = ((rd_T31 t557 x14_3).f0) && (((rd_T31 x13_3 0).f1) == ((rd_T31 t557 x14_3).f1) && (((rd_T31 x13_3 0).f2) == ((rd_T31 t557 x14_3).f2)))) = false := by simpa using c55))
                     (try (have c55b2 : (((rd_T31 x13_3 0).f0) == ((rd_T31 t557 x14_3).f0) && (((rd_T31 x13_3 0).f1) == ((rd_T31 t557 x14_3).f1) && (((rd_T31 x13_3 0).f2) == ((rd_T31 t557 x14_3).f2)))) = false := by simpa using c55))
                     (try (have c55b3 : ¬ (((rd_T31 x13_3 0).f0) = ((rd_T31 t557 x14_3).f0) && (((rd_T31 x13_3 0).f1) == ((rd_T31 t557 x14_3).f1) && (((rd_T31 x13_3 0).f2) == ((rd_T31 t557 x14_3).f2)))) := by simpa using c55))
                     clear c55
                     obtain rfl := Option.some.inj H
                     obtain ⟨Ao59, co59, eo59, _⟩ := Kd.Q_slice HO_13.out
                     subst eo59
                     have p571 : 0 ≤ (0 : Int) := (by omega)
                     have q571 : 0 < (x13_3.length : Int) := of_decide_eq_true (by first | (with_reducible assumption) | assumption)
                     obtain ⟨ad571, e571, hx571_0, hx571_1, hx571_2⟩ := at_T31 (Kd.Q_reads' HO_13.out).2.2 0 p571 q571
                     cases e571
                     have qi571 : (0 < x13_3.length) = True := eq_true (by omega)
                     (try rw [show ((0 : Int)).toNat = 0 from rfl] at hx571_0)
                     (try rw [show 0 * 3 = 0 from rfl] at hx571_0)
                     (try rw [Addr.add_zero'] at hx571_0)
                     (try rw [show ((0 : Int)).toNat = 0 from rfl] at hx571_1)
                     (try rw [show 0 * 3 = 0 from rfl] at hx571_1)
                     (try rw [Addr.add_zero'] at hx571_1)
                     (try rw [show ((0 : Int)).toNat = 0 from rfl] at hx571_2)
                     (try rw [show 0 * 3 = 0 from rfl] at hx571_2)
                     (try rw [Addr.add_zero'] at hx571_2)
                     replace p571 := eq_true p571
                     replace q571 := eq_true q571
                     have p572 : 0 ≤ (x14_3 : Int) := of_decide_eq_true (by first | (with_reducible assumption) | assumption)
                     have q572 : x14_3 < (t557.length : Int) := of_decide_eq_true (by first | (with_reducible assumption) | assumption)
                     obtain ⟨ad572, e572, hx572_0, hx572_1, hx572_2⟩ := at_T31 (R_reads' HO_11.out).2.2 x14_3 p572 q572
                     cases e572
                     replace p572 := eq_true p572
                     replace q572 := eq_true q572
                     go_wp2
                     repeat (go_quiet (fail); try go_wp2)
                     go_ret
                     exact ⟨by first | rfl | (simp [errW_none, errW_some] <;> rfl) | (simp [*, errW_none, errW_some] <;> rfl), by repeat (first | (with_reducible first | exact HB.out | apply bwA | apply bwN | apply bw1) | exact HB.out)⟩
                   ·rw [if_neg c54] at H
                    exact absurd H (by simp)
                  ·rw [if_neg c53] at H
                   exact absurd H (by simp)
                 ·rw [if_neg c52] at H
                  exact absurd H (by simp)
                ·rw [if_neg c51] at H
                 have c51b0 : decide (0 < (x13_3.length : Int)) = false := decide_eq_false c51
                 have c51b1 : decide (0 < x13_3.length) = false := decide_eq_false (by omega)
                 clear c51
                 obtain rfl := Option.some.inj H
                 obtain ⟨Ao60, co60, eo60, _⟩ := Kd.Q_slice HO_13.out
                 subst eo60
                 go_wp2
                 repeat (go_quiet (fail); try go_wp2)
                 go_ret
                 exact ⟨by first | rfl | (simp [errW_none, errW_some] <;> rfl) | (simp [*, errW_none, errW_some] <;> rfl), by repeat (first | (with_reducible first | exact HB.out | apply bwA | apply bwN | apply bw1) | exact HB.out)⟩
            ·rw [if_neg c39] at H
             have c39b0 : decide (x14_3 < (t557.length : Int)) = false := decide_eq_false c39
             clear c39
             by_cases c61 : (x12_3.length : Int) = 0
             ·rw [if_pos c61] at H
              have c61b0 : ((x12_3.length : Int) == 0) = true := beq_iff_eq.mpr c61
              have c61b1 : ((x12_3.length : Int) != 0) = false := bne_eq_false_iff_eq.mpr c61
              clear c61
              obtain rfl := Option.some.inj H
              obtain ⟨Ao62, co62, eo62⟩ := Kd.R_slice HO_11.out
              subst eo62
              obtain ⟨Ao63, co63, eo63, _⟩ := Kd.Q_slice HO_12.out
              subst eo63
              obtain ⟨Ao64, co64, eo64, _⟩ := Kd.Q_slice HO_13.out
              subst eo64
              go_wp2
              repeat (go_quiet (fail); try go_wp2)
              go_ret
              exact ⟨by first | rfl | (simp [errW_none, errW_some] <;> rfl) | (simp [*, errW_none, errW_some] <;> rfl), by repeat (first | (with_reducible first | exact HB.out | apply bwA | apply bwN | apply bw1) | exact HB.out)⟩
             ·rw [if_neg c61] at H
              have c61b0 : ((x12_3.length : Int) == 0) = false := beq_eq_false_iff_ne.mpr c61
              have c61b1 : ((x12_3.length : Int) != 0) = true := bne_iff_ne.mpr c61
              have c61b2 : ¬ (x12_3 = []) := fun h_ => c61 (by rw [h_]; rfl)
              obtain rfl := Option.some.inj H
              obtain ⟨Ao65, co65, eo65⟩ := Kd.R_slice HO_11.out
              subst eo65
              obtain ⟨Ao66, co66, eo66, _⟩ := Kd.Q_slice HO_12.out
              subst eo66
              go_wp2
              repeat (go_quiet (fail); try go_wp2)
              go_ret
              exact ⟨by first | rfl | (simp [errW_none, errW_some] <;> rfl) | (simp [*, errW_none, errW_some] <;> rfl), by repeat (first | (with_reducible first | exact HB.out | apply bwA | apply bwN | apply bw1) | exact HB.out)⟩
   ·replace c13 := Bool.eq_false_iff.mpr c13
    subst c13
    have H1 : (some true) = some r := by rw [if_neg (show ¬ (false = true) by decide)] at H; exact H
    clear H
    have H := H1
    clear H1
    obtain rfl := Option.some.inj H
    go_enter Try.func13, Try.ntmps13
    go_wp2_with (first | (go_at_call 42; (with_reducible refine (laws_big.calls _ _ l0 false _ ?side1 ?side2 A2.out).mono ?_); (case side1 => repeat (first | exact HR0.out | (with_reducible refine C_alloc ?_ _) | (with_reducible refine C_drewN ?_ _) | (with_reducible refine C_drew ?_))); (case side2 => exact HC0.out); rintro e w' ⟨rfl, ⟨nd, rfl⟩⟩; (try first | exact ⟨rfl, _, drewN_drewN _ _ _⟩ | exact ⟨rfl, _, Eq.trans (drewN_drewN _ _ _) (congrArg (World.drewN _) (Nat.add_assoc _ _ _))⟩)) | (go_at_call 46; (with_reducible refine (spec_DrawMerged.calls k _ _ l0 t540 t541 _ ?side1 ?side2 A4.out).mono ?_); (case side1 => repeat (first | exact HR0.out | (with_reducible refine C_alloc ?_ _) | (with_reducible refine C_drewN ?_ _) | (with_reducible refine C_drew ?_))); (case side2 => exact HC0.out); rintro e w67 ⟨v542, v544, rfl, ho0, ho1, hb⟩; have n0_ := Aside0.mk (Kd.R_lower ho0 (below_size (by repeat (first | (with_reducible first | exact HB.out | apply bwA | apply bwN | apply bw1) | exact HB.out)))); have n1_ := Aside0.mk (Kd.R_lower ho1 (below_size (by repeat (first | (with_reducible first | exact HB.out | apply bwA | apply bwN | apply bw1) | exact HB.out)))); have n2_ := Aside0.mk (below_step (by repeat (first | (with_reducible first | exact HB.out | apply bwA | apply bwN | apply bw1) | exact HB.out)) hb); clear HB; have HO543 := n0_; have HO545 := n1_; have HB := n2_; clear n0_ n1_ n2_; (try clear hb); (try clear hb2); (try clear hk); (try clear hi); (try clear ho0); (try clear ho1); obtain ⟨Ao68, co68, eo68⟩ := Kd.R_slice HO543.out; subst eo68; obtain ⟨Ao69, co69, eo69⟩ := Kd.R_slice HO545.out; subst eo69) | (go_at_call 28; (with_reducible refine (impl_Merged.calls k _ _ t540 _ _ t541 t546 false _ ?side1 ?side2 ?side3 ?side4 A5.out).mono ?_); (case side1 => repeat (first | exact (R_reads' HO543.out).2.2 | (with_reducible refine C_alloc ?_ _) | (with_reducible refine C_drewN ?_ _) | (with_reducible refine C_drew ?_))); (case side2 => exact (R_reads' HO543.out).2.1); (case side3 => repeat (first | exact (R_reads' HO545.out).2.2 | (with_reducible refine C_alloc ?_ _) | (with_reducible refine C_drewN ?_ _) | (with_reducible refine C_drew ?_))); (case side4 => exact (R_reads' HO545.out).2.1); rintro e w70 ⟨v548, rfl, ho0, hb⟩; have n0_ := Aside0.mk (Kd.R_elder' (by (with_reducible repeat (first | apply R_alloc | apply R_drewN | apply R_drew)); exact HO543.out) (Kd.R_base ho0) hb); have n1_ := Aside0.mk (Kd.R_elder' (by (with_reducible repeat (first | apply R_alloc | apply R_drewN | apply R_drew)); exact HO545.out) (Kd.R_base ho0) hb); have n2_ := Aside0.mk (Kd.R_lower (Kd.R_new' (Kd.R_new' ho0 (Kd.R_lt (by (with_reducible repeat (first | apply R_alloc | apply R_drewN | apply R_drew)); exact HO543.out))) (Kd.R_lt (by (with_reducible repeat (first | apply R_alloc | apply R_drewN | apply R_drew)); exact HO545.out))) (below_size (by repeat (first | (with_reducible first | exact HB.out | apply bwA | apply bwN | apply bw1) | exact HB.out)))); have n3_ := Aside0.mk (below_step (by repeat (first | (with_reducible first | exact HB.out | apply bwA | apply bwN | apply bw1) | exact HB.out)) hb); clear HO543; clear HO545; clear HB; have HO543 := n0_; have HO545 := n1_; have HO549 := n2_; have HB := n3_; clear n0_ n1_ n2_ n3_; (try clear hb); (try clear hb2); (try clear hk); (try clear hi); (try clear ho0)) | (go_at_call 27; (with_reducible refine (spec_Merged.calls k _ _ t540 _ _ t541 t550 t551 _ ?side1 ?side2 ?side3 ?side4 A6.out).mono ?_); (case side1 => repeat (first | exact (R_reads' HO543.out).2.2 | (with_reducible refine C_alloc ?_ _) | (with_reducible refine C_drewN ?_ _) | (with_reducible refine C_drew ?_))); (case side2 => exact (R_reads' HO543.out).2.1); (case side3 => repeat (first | exact (R_reads' HO545.out).2.2 | (with_reducible refine C_alloc ?_ _) | (with_reducible refine C_drewN ?_ _) | (with_reducible refine C_drew ?_))); (case side4 => exact (R_reads' HO545.out).2.1); rintro e w71 ⟨v552, rfl, ho0, hb⟩; have n0_ := Aside0.mk (Kd.R_elder' (by (with_reducible repeat (first | apply R_alloc | apply R_drewN | apply R_drew)); exact HO543.out) (Kd.R_base ho0) hb); have n1_ := Aside0.mk (Kd.R_elder' (by (with_reducible repeat (first | apply R_alloc | apply R_drewN | apply R_drew)); exact HO545.out) (Kd.R_base ho0) hb); have n2_ := Aside0.mk (Kd.R_elder' (by (with_reducible repeat (first | apply R_alloc | apply R_drewN | apply R_drew)); exact HO549.out) (Kd.R_base ho0) hb); have n3_ := Aside0.mk (Kd.R_lower (Kd.R_new' (Kd.R_new' (Kd.R_new' ho0 (Kd.R_lt (by (with_reducible repeat (first | apply R_alloc | apply R_drewN | apply R_drew)); exact HO543.out))) (Kd.R_lt (by (with_reducible repeat (first | apply R_alloc | apply R_drewN | apply R_drew)); exact HO545.out))) (Kd.R_lt (by (with_reducible repeat (first | apply R_alloc | apply R_drewN | apply R_drew)); exact HO549.out))) (below_size (by repeat (first | (with_reducible first | exact HB.out | apply bwA | apply bwN | apply bw1) | exact HB.out)))); have n4_ := Aside0.mk (below_step (by repeat (first | (with_reducible first | exact HB.out | apply bwA | apply bwN | apply bw1) | exact HB.out)) hb); clear HO543; clear HO545; clear HO549; clear HB; have HO543 := n0_; have HO545 := n1_; have HO549 := n2_; have HO553 := n3_; have HB := n4_; clear n0_ n1_ n2_ n3_ n4_; (try clear hb); (try clear hb2); (try clear hk); (try clear hi); (try clear ho0)))
    repeat (go_quiet (first | (go_at_call 42; (with_reducible refine (laws_big.calls _ _ l0 false _ ?side1 ?side2 A2.out).mono ?_); (case side1 => repeat (first | exact HR0.out | (with_reducible refine C_alloc ?_ _) | (with_reducible refine C_drewN ?_ _) | (with_reducible refine C_drew ?_))); (case side2 => exact HC0.out); rintro e w' ⟨rfl, ⟨nd, rfl⟩⟩; (try first | exact ⟨rfl, _, drewN_drewN _ _ _⟩ | exact ⟨rfl, _, Eq.trans (drewN_drewN _ _ _) (congrArg (World.drewN _) (Nat.add_assoc _ _ _))⟩)) | (go_at_call 46; (with_reducible refine (spec_DrawMerged.calls k _ _ l0 t540 t541 _ ?side1 ?side2 A4.out).mono ?_); (case side1 => repeat (first | exact HR0.out | (with_reducible refine C_alloc ?_ _) | (with_reducible refine C_drewN ?_ _) | (with_reducible refine C_drew ?_))); (case side2 => exact HC0.out); rintro e w67 ⟨v542, v544, rfl, ho0, ho1, hb⟩; have n0_ := Aside0.mk (Kd.R_lower ho0 (below_size (by repeat (first | (with_reducible first | exact HB.out | apply bwA | apply bwN | apply bw1) | exact HB.out)))); have n1_ := Aside0.mk (Kd.R_lower ho1 (below_size (by repeat (first | (with_reducible first | exact HB.out | apply bwA | apply bwN | apply bw1) | exact HB.out)))); have n2_ := Aside0.mk (below_step (by repeat (first | (with_reducible first | exact HB.out | apply bwA | apply bwN | apply bw1) | exact HB.out)) hb); clear HB; have HO543 := n0_; have HO545 := n1_; have HB := n2_; clear n0_ n1_ n2_; (try clear hb); (try clear hb2); (try clear hk); (try clear hi); (try clear ho0); (try clear ho1); obtain ⟨Ao68, co68, eo68⟩ := Kd.R_slice HO543.out; subst eo68; obtain ⟨Ao69, co69, eo69⟩ := Kd.R_slice HO545.out; subst eo69) | (go_at_call 28; (with_reducible refine (impl_Merged.calls k _ _ t540 _ _ t541 t546 false _ ?side1 ?side2 ?side3 ?side4 A5.out).mono ?_); (case side1 => repeat (first | exact (R_reads' HO543.out).2.2 | (with_reducible refine C_alloc ?_ _) | (with_reducible refine C_drewN ?_ _) | (with_reducible refine C_drew ?_))); (case side2 => exact (R_reads' HO543.out).2.1); (case side3 => repeat (first | exact (R_reads' HO545.out).2.2 | (with_reducible refine C_alloc ?_ _) | (with_reducible refine C_drewN ?_ _) | (with_reducible refine C_drew ?_))); (case side4 => exact (R_reads' HO545.out).2.1); rintro e w70 ⟨v548, rfl, ho0, hb⟩; have n0_ := Aside0.mk (Kd.R_elder' (by (with_reducible repeat (first | apply R_alloc | apply R_drewN | apply R_drew)); exact HO543.out) (Kd.R_base ho0) hb); have n1_ := Aside0.mk (Kd.R_elder' (by (with_reducible repeat (first | apply R_alloc | apply R_drewN | apply R_drew)); exact HO545.out) (Kd.R_base ho0) hb); have n2_ := Aside0.mk (Kd.R_lower (Kd.R_new' (Kd.R_new' ho0 (Kd.R_lt (by (with_reducible repeat (first | apply R_alloc | apply R_drewN | apply R_drew)); exact HO543.out))) (Kd.R_lt (by (with_reducible repeat (first | apply R_alloc | apply R_drewN | apply R_drew)); exact HO545.out))) (below_size (by repeat (first | (with_reducible first | exact HB.out | apply bwA | apply bwN | apply bw1) | exact HB.out)))); have n3_ := Aside0.mk (below_step (by repeat (first | (with_reducible first | exact HB.out | apply bwA | apply bwN | apply bw1) | exact HB.out)) hb); clear HO543; clear HO545; clear HB; have HO543 := n0_; have HO545 := n1_; have HO549 := n2_; have HB := n3_; clear n0_ n1_ n2_ n3_; (try clear hb); (try clear hb2); (try clear hk); (try clear hi); (try clear ho0)) | (go_at_call 27; (with_reducible refine (spec_Merged.calls k _ _ t540 _ _ t541 t550 t551 _ ?side1 ?side2 ?side3 ?side4 A6.out).mono ?_); (case side1 => repeat (first | exact (R_reads' HO543.out).2.2 | (with_reducible refine C_alloc ?_ _) | (with_reducible refine C_drewN ?_ _) | (with_reducible refine C_drew ?_))); (case side2 => exact (R_reads' HO543.out).2.1); (case side3 => repeat (first | exact (R_reads' HO545.out).2.2 | (with_reducible refine C_alloc ?_ _) | (with_reducible refine C_drewN ?_ _) | (with_reducible refine C_drew ?_))); (case side4 => exact (R_reads' HO545.out).2.1); rintro e w71 ⟨v552, rfl, ho0, hb⟩; have n0_ := Aside0.mk (Kd.R_elder' (by (with_reducible repeat (first | apply R_alloc | apply R_drewN | apply R_drew)); exact HO543.out) (Kd.R_base ho0) hb); have n1_ := Aside0.mk (Kd.R_elder' (by (with_reducible repeat (first | apply R_alloc | apply R_drewN | apply R_drew)); exact HO545.out) (Kd.R_base ho0) hb); have n2_ := Aside0.mk (Kd.R_elder' (by (with_reducible repeat (first | apply R_alloc | apply R_drewN | apply R_drew)); exact HO549.out) (Kd.R_base ho0) hb); have n3_ := Aside0.mk (Kd.R_lower (Kd.R_new' (Kd.R_new' (Kd.R_new' ho0 (Kd.R_lt (by (with_reducible repeat (first | apply R_alloc | apply R_drewN | apply R_drew)); exact HO543.out))) (Kd.R_lt (by (with_reducible repeat (first | apply R_alloc | apply R_drewN | apply R_drew)); exact HO545.out))) (Kd.R_lt (by (with_reducible repeat (first | apply R_alloc | apply R_drewN | apply R_drew)); exact HO549.out))) (below_size (by repeat (first | (with_reducible first | exact HB.out | apply bwA | apply bwN | apply bw1) | exact HB.out)))); have n4_ := Aside0.mk (below_step (by repeat (first | (with_reducible first | exact HB.out | apply bwA | apply bwN | apply bw1) | exact HB.out)) hb); clear HO543; clear HO545; clear HO549; clear HB; have HO543 := n0_; have HO545 := n1_; have HO549 := n2_; have HO553 := n3_; have HB := n4_; clear n0_ n1_ n2_ n3_ n4_; (try clear hb); (try clear hb2); (try clear hk); (try clear hi); (try clear ho0))); try go_wp2_with (first | (go_at_call 42; (with_reducible refine (laws_big.calls _ _ l0 false _ ?side1 ?side2 A2.out).mono ?_); (case side1 => repeat (first | exact HR0.out | (with_reducible refine C_alloc ?_ _) | (with_reducible refine C_drewN ?_ _) | (with_reducible refine C_drew ?_))); (case side2 => exact HC0.out); rintro e w' ⟨rfl, ⟨nd, rfl⟩⟩; (try first | exact ⟨rfl, _, drewN_drewN _ _ _⟩ | exact ⟨rfl, _, Eq.trans (drewN_drewN _ _ _) (congrArg (World.drewN _) (Nat.add_assoc _ _ _))⟩)) | (go_at_call 46; (with_reducible refine (spec_DrawMerged.calls k _ _ l0 t540 t541 _ ?side1 ?side2 A4.out).mono ?_); (case side1 => repeat (first | exact HR0.out | (with_reducible refine C_alloc ?_ _) | (with_reducible refine C_drewN ?_ _) | (with_reducible refine C_drew ?_))); (case side2 => exact HC0.out); rintro e w67 ⟨v542, v544, rfl, ho0, ho1, hb⟩; have n0_ := Aside0.mk (Kd.R_lower ho0 (below_size (by repeat (first | (with_reducible first | exact HB.out | apply bwA | apply bwN | apply bw1) | exact HB.out)))); have n1_ := Aside0.mk (Kd.R_lower ho1 (below_size (by repeat (first | (with_reducible first | exact HB.out | apply bwA | apply bwN | apply bw1) | exact HB.out)))); have n2_ := Aside0.mk (below_step (by repeat (first | (with_reducible first | exact HB.out | apply bwA | apply bwN | apply bw1) | exact HB.out)) hb); clear HB; have HO543 := n0_; have HO545 := n1_; have HB := n2_; clear n0_ n1_ n2_; (try clear hb); (try clear hb2); (try clear hk); (try clear hi); (try clear ho0); (try clear ho1); obtain ⟨Ao68, co68, eo68⟩ := Kd.R_slice HO543.out; subst eo68; obtain ⟨Ao69, co69, eo69⟩ := Kd.R_slice HO545.out; subst eo69) | (go_at_call 28; (with_reducible refine (impl_Merged.calls k _ _ t540 _ _ t541 t546 false _ ?side1 ?side2 ?side3 ?side4 A5.out).mono ?_); (case side1 => repeat (first | exact (R_reads' HO543.out).2.2 | (with_reducible refine C_alloc ?_ _) | (with_reducible refine C_drewN ?_ _) | (with_reducible refine C_drew ?_))); (case side2 => exact (R_reads' HO543.out).2.1); (case side3 => repeat (first | exact (R_reads' HO545.out).2.2 | (with_reducible refine C_alloc ?_ _) | (with_reducible refine C_drewN ?_ _) | (with_reducible refine C_drew ?_))); (case side4 => exact (R_reads' HO545.out).2.1); rintro e w70 ⟨v548, rfl, ho0, hb⟩; have n0_ := Aside0.mk (Kd.R_elder' (by (with_reducible repeat (first | apply R_alloc | apply R_drewN | apply R_drew)); exact HO543.out) (Kd.R_base ho0) hb); have n1_ := Aside0.mk (Kd.R_elder' (by (with_reducible repeat (first | apply R_alloc | apply R_drewN | apply R_drew)); exact HO545.out) (Kd.R_base ho0) hb); have n2_ := Aside0.mk (Kd.R_lower (Kd.R_new' (Kd.R_new' ho0 (Kd.R_lt (by (with_reducible repeat (first | apply R_alloc | apply R_drewN | apply R_drew)); exact HO543.out))) (Kd.R_lt (by (with_reducible repeat (first | apply R_alloc | apply R_drewN | apply R_drew)); exact HO545.out))) (below_size (by repeat (first | (with_reducible first | exact HB.out | apply bwA | apply bwN | apply bw1) | exact HB.out)))); have n3_ := Aside0.mk (below_step (by repeat (first | (with_reducible first | exact HB.out | apply bwA | apply bwN | apply bw1) | exact HB.out)) hb); clear HO543; clear HO545; clear HB; have HO543 := n0_; have HO545 := n1_; have HO549 := n2_; have HB := n3_; clear n0_ n1_ n2_ n3_; (try clear hb); (try clear hb2); (try clear hk); (try clear hi); (try clear ho0)) | (go_at_call 27; (with_reducible refine (spec_Merged.calls k _ _ t540 _ _ t541 t550 t551 _ ?side1 ?side2 ?side3 ?side4 A6.out).mono ?_); (case side1 => repeat (first | exact (R_reads' HO543.out).2.2 | (with_reducible refine C_alloc ?_ _) | (with_reducible refine C_drewN ?_ _) | (with_reducible refine C_drew ?_))); (case side2 => exact (R_reads' HO543.out).2.1); (case side3 => repeat (first | exact (R_reads' HO545.out).2.2 | (with_reducible refine C_alloc ?_ _) | (with_reducible refine C_drewN ?_ _) | (with_reducible refine C_drew ?_))); (case side4 => exact (R_reads' HO545.out).2.1); rintro e w71 ⟨v552, rfl, ho0, hb⟩; have n0_ := Aside0.mk (Kd.R_elder' (by (with_reducible repeat (first | apply R_alloc | apply R_drewN | apply R_drew)); exact HO543.out) (Kd.R_base ho0) hb); have n1_ := Aside0.mk (Kd.R_elder' (by (with_reducible repeat (first | apply R_alloc | apply R_drewN | apply R_drew)); exact HO545.out) (Kd.R_base ho0) hb); have n2_ := Aside0.mk (Kd.R_elder' (by (with_reducible repeat (first | apply R_alloc | apply R_drewN | apply R_drew)); exact HO549.out) (Kd.R_base ho0) hb); have n3_ := Aside0.mk (Kd.R_lower (Kd.R_new' (Kd.R_new' (Kd.R_new' ho0 (Kd.R_lt (by (with_reducible repeat (first | apply R_alloc | apply R_drewN | apply R_drew)); exact HO543.out))) (Kd.R_lt (by (with_reducible repeat (first | apply R_alloc | apply R_drewN | apply R_drew)); exact HO545.out))) (Kd.R_lt (by (with_reducible repeat (first | apply R_alloc | apply R_drewN | apply R_drew)); exact HO549.out))) (below_size (by repeat (first | (with_reducible first | exact HB.out | apply bwA | apply bwN | apply bw1) | exact HB.out)))); have n4_ := Aside0.mk (below_step (by repeat (first | (with_reducible first | exact HB.out | apply bwA | apply bwN | apply bw1) | exact HB.out)) hb); clear HO543; clear HO545; clear HO549; clear HB; have HO543 := n0_; have HO545 := n1_; have HO549 := n2_; have HO553 := n3_; have HB := n4_; clear n0_ n1_ n2_ n3_ n4_; (try clear hb); (try clear hb2); (try clear hk); (try clear hi); (try clear ho0))))
    go_ret
    exact ⟨by first | rfl | (simp [errW_none, errW_some] <;> rfl) | (simp [*, errW_none, errW_some] <;> rfl), by repeat (first | (with_reducible first | exact HB.out | apply bwA | apply bwN | apply bw1) | exact HB.out)⟩
end Go.Proofs.Ytljfflhbabkbgaa.PFnRank
