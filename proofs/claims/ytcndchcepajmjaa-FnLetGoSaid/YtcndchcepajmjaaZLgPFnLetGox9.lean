/- Texts of the claim of the law FnLetGo, made smaller by a program of this session: what the claim does not use is left out. No condition. -/
import Derived.WalkSpells
import Derived.Test.YtcndchcepajmjaaZLgPFnLetGox0
import Derived.Test.YtcndchcepajmjaaZLgPFnLetGox4
import Derived.Test.YtcndchcepajmjaaZLgPFnLetGox7
import Derived.Test.YtcndchcepajmjaaZLgPFnLetGox8
namespace Go.Proofs.Ytcndchcepajmjaa.PFnLetGo
open Go.RowKit Go.Proofs.YtcndchcepajmjaaW.PrintWords Go.Proofs.YtcndchcepajmjaaW.PrintLast Go.Proofs.YtcndchcepajmjaaW.PrintMore
open List (map_toArray map_cons map_nil)
open Option (bind_eq_some_iff)
open Kd (R_reads' R_below C_below)
attribute [local go_sem] max2_int min2_int max_two min_two max_three min_three max_four min_four   -- for this text's walks alone
set_option linter.unusedVariables false
set_option linter.unusedSimpArgs false
def spec_LetGo.f (k : Nat) (l0 : List (S30)) (l1 : List (S58)) (a2_0 : Int) (a2_1 : Int) (a2_2 : Int) (a2_3 : Int) : Option ((List (S58)) × Bool) := (spec_EventsOk.f k l0 l1).bind fun t239 => (if t239 = true then ((spec_l6Copy.f l1).bind fun t243 => ((some (([(⟨a2_0, a2_1, a2_2, a2_3⟩ : S58)] : List (S58)) : List (S58))).bind fun y246 => (if t243.length + y246.length < 4398046511104 then ((some (t243 ++ y246 : List (S58))).bind fun y249 => ((spec_EventsOk.f k l0 y249).bind fun t252 => (if t252 = true then (some (y249, true)) else ((spec_l6Copy.f l1).bind fun t253 => (some (t253, false)))))) else (none)))) else (some ((([] : List (S58))), false)))
set_option maxHeartbeats 8000000 in
set_option maxRecDepth 100000 in
theorem spec_LetGo.calls (k : Nat) (A0 : Option Addr) (c0 : Nat) (l0 : List (S30)) (A1 : Option Addr) (c1 : Nat) (l1 : List (S58)) (a2_0 : Int) (a2_1 : Int) (a2_2 : Int) (a2_3 : Int) (r1 : List (S58)) (r2 : Bool) (w : World) (hr0 : Kd.C k30 w A0 l0.length l0) (hc0 : l0.length ≤ c0) (hr1 : Kd.C k58 w A1 l1.length l1) (hc1 : l1.length ≤ c1) (h : spec_LetGo.f k l0 l1 a2_0 a2_1 a2_2 a2_3 = some (r1, r2)) :
  Calls Try.prog 51 #[.slice A0 l0.length c0, .slice A1 l1.length c1, .agg #[.int .i64 a2_0, .int .i64 a2_1, .int .i64 a2_2, .int .i64 a2_3]] w fun e w' => ∃ v0_ : Value, e = .returned (.tuple #[v0_, .bool r2]) ∧ Kd.R k58 58 w' w.heap.size (fun _ => True) v0_ r1 ∧ Below w.heap.size w w' := by
 have hu58 := Try.underlying58
 have HR0 := Aside0.mk hr0
 have HC0 := Aside0.mk hc0
 clear hr0 hc0
 have HR1 := Aside0.mk hr1
 have HC1 := Aside0.mk hc1
 clear hr1 hc1
 have HB := Aside0.mk (Below.refl w.heap.size w)
 have H : ((spec_EventsOk.f k l0 l1).bind fun t239 => (if t239 = true then ((spec_l6Copy.f l1).bind fun t243 => ((some (([(⟨a2_0, a2_1, a2_2, a2_3⟩ : S58)] : List (S58)) : List (S58))).bind fun y246 => (if t243.length + y246.length < 4398046511104 then ((some (t243 ++ y246 : List (S58))).bind fun y249 => ((spec_EventsOk.f k l0 y249).bind fun t252 => (if t252 = true then (some (y249, true)) else ((spec_l6Copy.f l1).bind fun t253 => (some (t253, false)))))) else (none)))) else (some ((([] : List (S58))), false)))) = some (r1, r2) := h
 clear h
 replace H := bind_eq_some_iff.mp H
 obtain ⟨t239, A40, H⟩ := H
 replace H : (if t239 = true then ((spec_l6Copy.f l1).bind fun t243 => ((some (([(⟨a2_0, a2_1, a2_2, a2_3⟩ : S58)] : List (S58)) : List (S58))).bind fun y246 => (if t243.length + y246.length < 4398046511104 then ((some (t243 ++ y246 : List (S58))).bind fun y249 => ((spec_EventsOk.f k l0 y249).bind fun t252 => (if t252 = true then (some (y249, true)) else ((spec_l6Copy.f l1).bind fun t253 => (some (t253, false)))))) else (none)))) else (some ((([] : List (S58))), false))) = some (r1, r2) := H
 have A4 := Aside0.mk A40
 clear A40
 by_cases c5 : t239 = true
 ·subst c5
  have H1 : ((spec_l6Copy.f l1).bind fun t243 => ((some (([(⟨a2_0, a2_1, a2_2, a2_3⟩ : S58)] : List (S58)) : List (S58))).bind fun y246 => (if t243.length + y246.length < 4398046511104 then ((some (t243 ++ y246 : List (S58))).bind fun y249 => ((spec_EventsOk.f k l0 y249).bind fun t252 => (if t252 = true then (some (y249, true)) else ((spec_l6Copy.f l1).bind fun t253 => (some (t253, false)))))) else (none)))) = some (r1, r2) := by rw [if_pos rfl] at H; exact H
  clear H
  have H := H1
  clear H1
  replace H := bind_eq_some_iff.mp H
  obtain ⟨t243, A60, H⟩ := H
  replace H : ((some (([(⟨a2_0, a2_1, a2_2, a2_3⟩ : S58)] : List (S58)) : List (S58))).bind fun y246 => (if t243.length + y246.length < 4398046511104 then ((some (t243 ++ y246 : List (S58))).bind fun y249 => ((spec_EventsOk.f k l0 y249).bind fun t252 => (if t252 = true then (some (y249, true)) else ((spec_l6Copy.f l1).bind fun t253 => (some (t253, false)))))) else (none))) = some (r1, r2) := H
  have A6 := Aside0.mk A60
  clear A60
  obtain ⟨y246, hy246⟩ : ∃ y_ : List (S58), y_ = (([(⟨a2_0, a2_1, a2_2, a2_3⟩ : S58)] : List (S58))) := ⟨_, rfl⟩
  replace H : (if t243.length + y246.length < 4398046511104 then ((some (t243 ++ y246 : List (S58))).bind fun y249 => ((spec_EventsOk.f k l0 y249).bind fun t252 => (if t252 = true then (some (y249, true)) else ((spec_l6Copy.f l1).bind fun t253 => (some (t253, false)))))) else (none)) = some (r1, r2) := by (have H2_ := (Option.bind_some _ _).symm.trans H; rw [hy246]; with_reducible exact H2_)
  have Ny246 := Aside0.mk hy246
  clear hy246
  by_cases c7 : t243.length + y246.length < 4398046511104
  ·rw [if_pos c7] at H
   have LMc7 := Aside0.mk c7
   clear c7
   obtain ⟨y249, hy249⟩ : ∃ y_ : List (S58), y_ = (t243 ++ y246) := ⟨_, rfl⟩
   replace H : ((spec_EventsOk.f k l0 y249).bind fun t252 => (if t252 = true then (some (y249, true)) else ((spec_l6Copy.f l1).bind fun t253 => (some (t253, false))))) = some (r1, r2) := by (have H2_ := (Option.bind_some _ _).symm.trans H; rw [hy249]; with_reducible exact H2_)
   have Ny249 := Aside0.mk hy249
   clear hy249
   replace H := bind_eq_some_iff.mp H
   obtain ⟨t252, A80, H⟩ := H
   replace H : (if t252 = true then (some (y249, true)) else ((spec_l6Copy.f l1).bind fun t253 => (some (t253, false)))) = some (r1, r2) := H
   have A8 := Aside0.mk A80
   clear A80
   by_cases c9 : t252 = true
   ·subst c9
    have H1 : (some (y249, true)) = some (r1, r2) := by rw [if_pos rfl] at H; exact H
    clear H
    have H := H1
    clear H1
    simp only [Option.some.injEq, Prod.mk.injEq] at H
    obtain ⟨rfl, rfl⟩ := H
    go_enter Try.func51, Try.ntmps51
    try go_wp2_with (first | ((with_reducible refine gate_dst (N := 5) rfl ?_); refine box_event ?hg (N := 5) ?hd (cs := #[.int .i64 a2_0, .int .i64 a2_1, .int .i64 a2_2, .int .i64 a2_3]) (t := 58) ?hr ?_; (case hd => rfl); (case hg => rfl); (case hr => (go_simp; done)); intro gb238 hg w10 hbox hb; have n0_ := Aside0.mk (below_step (by repeat ((with_reducible exact HB.out))) hb); have n1_ := Aside0.mk (hbox); have n2_ := Aside0.mk ((by rw [hg]; exact (below_size (by repeat ((with_reducible exact HB.out)))) : w.heap.size ≤ gb238)); have n3_ := Aside0.mk ((by rw [hg]; exact (below_size (by repeat ((with_reducible exact HB.out)))) : w.heap.size ≤ gb238)); clear HB; have HB := n0_; have BK238 := n1_; have GW238 := n2_; have GE238 := n3_; clear n0_ n1_ n2_ n3_; clear hb hbox hg) | ((with_reducible refine gate_callee (f := 40) rfl ?_); refine goesL_ (some 11) rfl rfl Try.func40 (by kernel_rfl) rfl #[.slice A0 l0.length c0, .slice A1 l1.length c1] rfl (by (try simp only [map_toArray, map_cons, map_nil]); rfl) ?_; (with_reducible refine (spec_EventsOk.calls k _ _ l0 _ _ l1 true _ ?side1 ?side2 ?side3 ?side4 A4.out).mono ?_); (case side1 => repeat (exact (C_below HR0.out HB.out))); (case side2 => exact HC0.out); (case side3 => repeat (exact (C_below HR1.out HB.out))); (case side4 => exact HC1.out); rintro e w11 ⟨rfl, hb⟩; refine ⟨_, rfl, ?_⟩; have n0_ := Aside0.mk (blk_below (g := gb238) (o := .cells #[.int .i64 a2_0, .int .i64 a2_1, .int .i64 a2_2, .int .i64 a2_3] 58 (0, 0)) (by (with_reducible repeat (fail)); exact BK238.out) hb); have n1_ := Aside0.mk (below_step (by repeat ((with_reducible exact HB.out))) hb); clear BK238; clear HB; have BK238 := n0_; have HB := n1_; clear n0_ n1_; (try clear hb); skip))
    have n0_ := Aside0.mk (blk_drew BK238.out)
    have n1_ := Aside0.mk (bw1 HB.out)
    clear BK238
    clear HB
    have BK238 := n0_
    have HB := n1_
    clear n0_ n1_
    refine start_ (n := 6) (S := fun w' => w'.cell? ⟨gb238, 0, none⟩ = some (.int .i64 a2_0) ∧ w'.cell? ⟨gb238, 1, none⟩ = some (.int .i64 a2_1) ∧ w'.cell? ⟨gb238, 2, none⟩ = some (.int .i64 a2_2) ∧ w'.cell? ⟨gb238, 3, none⟩ = some (.int .i64 a2_3)) (ds := []) #[false, false, false, false, false, false] (by kernel_rfl) rfl rfl ⟨(blk_cell BK238.out 0).trans rfl, (blk_cell BK238.out 1).trans rfl, (blk_cell BK238.out 2).trans rfl, (blk_cell BK238.out 3).trans rfl⟩ (fun hHeld => ?_)
    generalize w11.drew = w12 at BK238 HB hHeld ⊢
    refine pure_ (i := 0) (N := some 14) (v := ?_) (a' := ?_) #[true, false, false, false, false, false] rfl rfl (by kernel_rfl) (fun _ _ _ h => h) (Or.inl ⟨by rfl, ?_⟩) ?_ ?_
    rotate_left
    ·intro w'
     go_simp
     with_reducible rfl
    rotate_left
    ·simp only [Act.put, stA, stZ, stS, i64_w, i32_w]
     rfl
    refine take_ (i := 2) (N := some 16) (v := ?_) (a' := ?_) #[true, false, true, false, false, false] rfl rfl (by kernel_rfl) (fun _ _ _ h => h) (Or.inl ⟨by rfl, ?_⟩) hHeld ?_ ?_
    rotate_left
    ·rintro w' ⟨s0, s1, s2, s3⟩
     go_simp
     with_reducible rfl
    rotate_left
    ·simp only [Act.put, stA, stZ, stS, i64_w, i32_w]
     rfl
    refine join_ (σ := Value × Value) 2 #[true, true, true, true, false, false] (fun s_ => [(15, s_.1), (17, s_.2)]) (fun s_ w' => (w'.cell? ⟨gb238, 0, none⟩ = some (.int .i64 a2_0) ∧ w'.cell? ⟨gb238, 1, none⟩ = some (.int .i64 a2_1) ∧ w'.cell? ⟨gb238, 2, none⟩ = some (.int .i64 a2_2) ∧ w'.cell? ⟨gb238, 3, none⟩ = some (.int .i64 a2_3)) ∧ (Kd.R k58 58 w' w.heap.size (fun k_ => some k_ ≠ (s_.2 : Value).ownBlock ∧ k_ ≠ gb238) s_.1 t243) ∧ (Kd.R k58 58 w' w.heap.size (fun k_ => some k_ ≠ (s_.1 : Value).ownBlock ∧ k_ ≠ gb238) s_.2 y246) ∧ (w'.heap[gb238]? = some (.cells #[.int .i64 a2_0, .int .i64 a2_1, .int .i64 a2_2, .int .i64 a2_3] 58 (0, 0))) ∧ (Below w.heap.size w w')) ?_ ?_
    rotate_left
    ·intro hCont
     refine two_ (i := 1) (j := 3) (Ni := some 15) (Nj := some 17) #[true, true, true, false, false, false] #[true, false, true, true, false, false] rfl rfl rfl rfl (by kernel_rfl) (by decide) (by decide) (fun K hK => ?_) (fun K hK => ?_)
     ·skip
      refine goes_ Try.func80 (by kernel_rfl) rfl #[.slice A1 l1.length c1] (by rfl) rfl rfl (by (try simp only [map_toArray, map_cons, map_nil]); rfl) ?_
      with_reducible refine (spec_l6Copy.calls _ _ l1 t243 _ ?side1 ?side2 A6.out).mono ?_
      (case side1 => repeat (exact (C_below HR1.out HB.out)))
      (case side2 => exact HC1.out)
      rintro e w13 ⟨v244, rfl, ho0, hb⟩
      refine ⟨_, rfl, ?_⟩
      have n0_ := Aside0.mk (Kd.R_lower (Kd.R_newB ho0 (g := gb238) (o := .cells #[.int .i64 a2_0, .int .i64 a2_1, .int .i64 a2_2, .int .i64 a2_3] 58 (0, 0)) (by (with_reducible repeat (fail)); exact BK238.out)) (below_size (by repeat ((with_reducible exact HB.out)))))
      have n1_ := Aside0.mk (blk_below (g := gb238) (o := .cells #[.int .i64 a2_0, .int .i64 a2_1, .int .i64 a2_2, .int .i64 a2_3] 58 (0, 0)) (by (with_reducible repeat (fail)); exact BK238.out) hb)
      have n2_ := Aside0.mk (below_step (by repeat ((with_reducible exact HB.out))) hb)
      clear BK238
      clear HB
      have HO245 := n0_
      have BK238 := n1_
      have HB := n2_
      clear n0_ n1_ n2_
      (try clear hb)
      (try clear ho0)
      refine hK.out _ _ ⟨(blk_cell BK238.out 0).trans rfl, (blk_cell BK238.out 1).trans rfl, (blk_cell BK238.out 2).trans rfl, (blk_cell BK238.out 3).trans rfl⟩ (fun hHeld => ?_)
      clear hK K
      refine norm_ (a' := ?_) ?_ ?_
      rotate_left
      ·show Act.put _ (some 15) _ = _
       simp only [Act.put, stA, stZ, stS, i64_w, i32_w]
       rfl
      refine one_ (i := 3) (N := some 17) #[true, true, true, true, false, false] rfl rfl (by kernel_rfl) (by decide) (fun K hK => ?_)
      refine Kd.R_lit_step k58 _ 58 ?hg (N := 17) ?hd (xs := ([(⟨a2_0, a2_1, a2_2, a2_3⟩ : S58)] : List (S58))) (inner := [.int .i64 a2_0, .int .i64 a2_1, .int .i64 a2_2, .int .i64 a2_3]) (ok := fun _ => True) (okp := fun _ => True) ?hr ?hp (fun _ hk => hk) trivial (Below.refl _ _) (Nat.le_refl _) (by simp) ?_; (case hd => rfl); (case hg => rfl); (case hr => (go_simp; done)); (case hp => exact (Reps.c4 (show Kd.M k58 _ _ _ (⟨a2_0, a2_1, a2_2, a2_3⟩ : S58) [.int .i64 a2_0, .int .i64 a2_1, .int .i64 a2_2, .int .i64 a2_3] from (k58_mkM _ _ _ (⟨a2_0, a2_1, a2_2, a2_3⟩ : S58) )) (Reps.none _ _)))
      intro v247 w14 ho15 hb hg_ hnew_
      clear hg_ hnew_
      (rw [← Ny246.out] at ho15)
      have n0_ := Aside0.mk (Kd.R_elder' (by (with_reducible repeat (fail)); exact HO245.out) (Kd.R_base ho15) hb)
      have n1_ := Aside0.mk (Kd.R_lower (Kd.R_newB (Kd.R_new' ho15 (Kd.R_lt (by (with_reducible repeat (fail)); exact HO245.out))) (g := gb238) (o := .cells #[.int .i64 a2_0, .int .i64 a2_1, .int .i64 a2_2, .int .i64 a2_3] 58 (0, 0)) (by (with_reducible repeat (fail)); exact BK238.out)) (below_size (by repeat ((with_reducible exact HB.out)))))
      have n2_ := Aside0.mk (blk_below (g := gb238) (o := .cells #[.int .i64 a2_0, .int .i64 a2_1, .int .i64 a2_2, .int .i64 a2_3] 58 (0, 0)) (by (with_reducible repeat (fail)); exact BK238.out) hb)
      have n3_ := Aside0.mk (below_step (by repeat ((with_reducible exact HB.out))) hb)
      clear HO245
      clear BK238
      clear HB
      have HO245 := n0_
      have HO248 := n1_
      have BK238 := n2_
      have HB := n3_
      clear n0_ n1_ n2_ n3_
      clear hb ho15
      refine hK.out _ _ ⟨(blk_cell BK238.out 0).trans rfl, (blk_cell BK238.out 1).trans rfl, (blk_cell BK238.out 2).trans rfl, (blk_cell BK238.out 3).trans rfl⟩ (fun hHeld => ?_)
      clear hK K
      refine norm_ (a' := ?_) ?_ ?_
      rotate_left
      ·show Act.put _ (some 17) _ = _
       simp only [Act.put, stA, stZ, stS, i64_w, i32_w]
       rfl
      exact norm_ (by simp only [putAll, Act.put, stA, stZ, stS]) (hCont (v244, v247) _ ⟨hHeld, (by (with_reducible repeat (fail)); exact Kd.R_mono HO245.out (fun _ hk => ⟨hk.2, hk.1.2⟩)), (by (with_reducible repeat (fail)); exact Kd.R_mono HO248.out (fun _ hk => ⟨hk.1.2, hk.2⟩)), (by (with_reducible repeat (fail)); exact BK238.out), (by repeat ((with_reducible exact HB.out)))⟩)
     ·skip
      refine Kd.R_lit_step k58 _ 58 ?hg (N := 17) ?hd (xs := ([(⟨a2_0, a2_1, a2_2, a2_3⟩ : S58)] : List (S58))) (inner := [.int .i64 a2_0, .int .i64 a2_1, .int .i64 a2_2, .int .i64 a2_3]) (ok := fun _ => True) (okp := fun _ => True) ?hr ?hp (fun _ hk => hk) trivial (Below.refl _ _) (Nat.le_refl _) (by simp) ?_; (case hd => rfl); (case hg => rfl); (case hr => (go_simp; done)); (case hp => exact (Reps.c4 (show Kd.M k58 _ _ _ (⟨a2_0, a2_1, a2_2, a2_3⟩ : S58) [.int .i64 a2_0, .int .i64 a2_1, .int .i64 a2_2, .int .i64 a2_3] from (k58_mkM _ _ _ (⟨a2_0, a2_1, a2_2, a2_3⟩ : S58) )) (Reps.none _ _)))
      intro v247 w13 ho14 hb hg_ hnew_
      clear hg_ hnew_
      (rw [← Ny246.out] at ho14)
      have n0_ := Aside0.mk (Kd.R_lower (Kd.R_newB ho14 (g := gb238) (o := .cells #[.int .i64 a2_0, .int .i64 a2_1, .int .i64 a2_2, .int .i64 a2_3] 58 (0, 0)) (by (with_reducible repeat (fail)); exact BK238.out)) (below_size (by repeat ((with_reducible exact HB.out)))))
      have n1_ := Aside0.mk (blk_below (g := gb238) (o := .cells #[.int .i64 a2_0, .int .i64 a2_1, .int .i64 a2_2, .int .i64 a2_3] 58 (0, 0)) (by (with_reducible repeat (fail)); exact BK238.out) hb)
      have n2_ := Aside0.mk (below_step (by repeat ((with_reducible exact HB.out))) hb)
      clear BK238
      clear HB
      have HO248 := n0_
      have BK238 := n1_
      have HB := n2_
      clear n0_ n1_ n2_
      clear hb ho14
      refine hK.out _ _ ⟨(blk_cell BK238.out 0).trans rfl, (blk_cell BK238.out 1).trans rfl, (blk_cell BK238.out 2).trans rfl, (blk_cell BK238.out 3).trans rfl⟩ (fun hHeld => ?_)
      clear hK K
      refine norm_ (a' := ?_) ?_ ?_
      rotate_left
      ·show Act.put _ (some 17) _ = _
       simp only [Act.put, stA, stZ, stS, i64_w, i32_w]
       rfl
      refine one_ (i := 1) (N := some 15) #[true, true, true, true, false, false] rfl rfl (by kernel_rfl) (by decide) (fun K hK => ?_)
      refine goes_ Try.func80 (by kernel_rfl) rfl #[.slice A1 l1.length c1] (by rfl) rfl rfl (by (try simp only [map_toArray, map_cons, map_nil]); rfl) ?_
      with_reducible refine (spec_l6Copy.calls _ _ l1 t243 _ ?side1 ?side2 A6.out).mono ?_
      (case side1 => repeat (exact (C_below HR1.out HB.out)))
      (case side2 => exact HC1.out)
      rintro e w15 ⟨v244, rfl, ho0, hb⟩
      refine ⟨_, rfl, ?_⟩
      have n0_ := Aside0.mk (Kd.R_elder' (by (with_reducible repeat (fail)); exact HO248.out) (Kd.R_base ho0) hb)
      have n1_ := Aside0.mk (Kd.R_lower (Kd.R_newB (Kd.R_new' ho0 (Kd.R_lt (by (with_reducible repeat (fail)); exact HO248.out))) (g := gb238) (o := .cells #[.int .i64 a2_0, .int .i64 a2_1, .int .i64 a2_2, .int .i64 a2_3] 58 (0, 0)) (by (with_reducible repeat (fail)); exact BK238.out)) (below_size (by repeat ((with_reducible exact HB.out)))))
      have n2_ := Aside0.mk (blk_below (g := gb238) (o := .cells #[.int .i64 a2_0, .int .i64 a2_1, .int .i64 a2_2, .int .i64 a2_3] 58 (0, 0)) (by (with_reducible repeat (fail)); exact BK238.out) hb)
      have n3_ := Aside0.mk (below_step (by repeat ((with_reducible exact HB.out))) hb)
      clear HO248
      clear BK238
      clear HB
      have HO248 := n0_
      have HO245 := n1_
      have BK238 := n2_
      have HB := n3_
      clear n0_ n1_ n2_ n3_
      (try clear hb)
      (try clear ho0)
      refine hK.out _ _ ⟨(blk_cell BK238.out 0).trans rfl, (blk_cell BK238.out 1).trans rfl, (blk_cell BK238.out 2).trans rfl, (blk_cell BK238.out 3).trans rfl⟩ (fun hHeld => ?_)
      clear hK K
      refine norm_ (a' := ?_) ?_ ?_
      rotate_left
      ·show Act.put _ (some 15) _ = _
       simp only [Act.put, stA, stZ, stS, i64_w, i32_w]
       rfl
      exact norm_ (by simp only [putAll, Act.put, stA, stZ, stS]) (hCont (v244, v247) _ ⟨hHeld, (by (with_reducible repeat (fail)); exact Kd.R_mono HO245.out (fun _ hk => ⟨hk.1.2, hk.2⟩)), (by (with_reducible repeat (fail)); exact Kd.R_mono HO248.out (fun _ hk => ⟨hk.2, hk.1.2⟩)), (by (with_reducible repeat (fail)); exact BK238.out), (by repeat ((with_reducible exact HB.out)))⟩)
    rintro ⟨v244, v247⟩ w16 ⟨hS_, h0_, h1_, h2_, h3_⟩
    have n0_ : Aside0 (Kd.R k58 58 w16 w.heap.size (fun k_ => some k_ ≠ (v247 : Value).ownBlock ∧ k_ ≠ gb238) v244 t243) := ⟨h0_⟩
    have n1_ : Aside0 (Kd.R k58 58 w16 w.heap.size (fun k_ => some k_ ≠ (v244 : Value).ownBlock ∧ k_ ≠ gb238) v247 y246) := ⟨h1_⟩
    have n2_ : Aside0 (w16.heap[gb238]? = some (.cells #[.int .i64 a2_0, .int .i64 a2_1, .int .i64 a2_2, .int .i64 a2_3] 58 (0, 0))) := ⟨h2_⟩
    have n3_ : Aside0 (Below w.heap.size w w16) := ⟨h3_⟩
    clear BK238
    clear HB
    clear h0_ h1_ h2_ h3_
    have HO245 := n0_
    have HO248 := n1_
    have BK238 := n2_
    have HB := n3_
    clear n0_ n1_ n2_ n3_
    have hHeld : w16.cell? ⟨gb238, 0, none⟩ = some (.int .i64 a2_0) ∧ w16.cell? ⟨gb238, 1, none⟩ = some (.int .i64 a2_1) ∧ w16.cell? ⟨gb238, 2, none⟩ = some (.int .i64 a2_2) ∧ w16.cell? ⟨gb238, 3, none⟩ = some (.int .i64 a2_3) := hS_
    obtain ⟨Ao18, co18, eo18⟩ := Kd.R_slice HO248.out
    (subst eo18)
    refine norm_ (a' := ?_) ?_ ?_
    rotate_left
    ·simp only [putAll, Act.put, stA, stZ, stS]
     rfl
    refine one_ (i := 4) (N := some 18) #[true, true, true, true, true, false] rfl rfl (by kernel_rfl) (by decide) (fun K hK => ?_)
    refine Kd.R_append_rows_step k58 (w0 := w) w.heap.size (by rfl) (.tmp 15) (.tmp 17) 53 58 (.agg #[(.int .i64 0), (.int .i64 0), (.int .i64 0), (.int .i64 0)]) 32 rfl Try.underlying53 info58 rfl (by decide) (by omega) v244 t243 y246 _ _ _ (fun k_ => some k_ ≠ (.slice Ao18 y246.length co18 : Value).ownBlock ∧ k_ ≠ gb238) (fun _ => False) rfl rfl ?aO ?aR (fun _ _ h => h) (fun _ h => h.elim) ?aF ?aB ?aS ?aL ?_
    (case aR => repeat (exact (R_reads' HO248.out).2.2))
    (case aB => exact (by repeat ((with_reducible exact HB.out))))
    (case aF => exact (fun k_ hk => ⟨Kd.fresh' (Kd.R_lt (by (with_reducible repeat (fail)); exact HO248.out)) k_ hk, Kd.freshB (g := gb238) (o := .cells #[.int .i64 a2_0, .int .i64 a2_1, .int .i64 a2_2, .int .i64 a2_3] 58 (0, 0)) (by (with_reducible repeat (fail)); exact BK238.out) k_ hk⟩))
    (case aO => exact (by (with_reducible repeat (fail)); exact HO245.out))
    (case aS => exact (below_size (by repeat ((with_reducible exact HB.out)))))
    (case aL => have := LMc7.out; omega)
    intro v250 w17 ho hb hg hat
    rw [← Ny249.out] at ho
    have n0_ := Aside0.mk (blk_grown (g := gb238) (o := .cells #[.int .i64 a2_0, .int .i64 a2_1, .int .i64 a2_2, .int .i64 a2_3] 58 (0, 0)) (by (with_reducible repeat (fail)); exact BK238.out) hg (Kd.R_away HO245.out (fun _ hk => hk.2)))
    have n1_ := Aside0.mk (Kd.R_after (ok := (fun k_ => k_ ≠ gb238)) (by (with_reducible repeat (fail)); exact Kd.R_mono HO248.out (fun _ hk => ⟨hk.2, hk.1⟩)) hg hat)
    have n2_ := Aside0.mk (hb)
    have n3_ := Aside0.mk (ho)
    clear BK238
    clear HO248
    clear HB
    clear HO245
    have BK238 := n0_
    have HO248 := n1_
    have HB := n2_
    have HO251 := n3_
    clear n0_ n1_ n2_ n3_
    clear ho hb hg hat
    refine hK.out _ _ ⟨(blk_cell BK238.out 0).trans rfl, (blk_cell BK238.out 1).trans rfl, (blk_cell BK238.out 2).trans rfl, (blk_cell BK238.out 3).trans rfl⟩ (fun hHeld => ?_)
    clear hK K
    refine norm_ (a' := ?_) ?_ ?_
    rotate_left
    ·show Act.put _ (some 18) _ = _
     simp only [Act.put, stA, stZ, stS, i64_w, i32_w]
     rfl
    refine pure_ (i := 5) (N := some 8) (v := ?_) (a' := ?_) #[true, true, true, true, true, true] rfl rfl (by kernel_rfl) (fun _ _ _ h => h) (Or.inl ⟨by rfl, ?_⟩) ?_ ?_
    rotate_left
    ·intro w'
     go_simp
     with_reducible rfl
    rotate_left
    ·simp only [Act.put, stA, stZ, stS, i64_w, i32_w]
     rfl
    refine done_ (by kernel_rfl) ?_
    obtain ⟨Ao19, co19, eo19⟩ := Kd.R_slice HO251.out
    subst eo19
    try go_wp2_with ((with_reducible refine gate_callee (f := 40) rfl ?_); refine goesL_ (some 21) rfl rfl Try.func40 (by kernel_rfl) rfl #[.slice A0 l0.length c0, .slice Ao19 y249.length co19] rfl (by (try simp only [map_toArray, map_cons, map_nil]); rfl) ?_; (with_reducible refine (spec_EventsOk.calls k _ _ l0 _ _ y249 true _ ?side1 ?side2 ?side3 ?side4 A8.out).mono ?_); (case side1 => repeat (exact (C_below HR0.out HB.out))); (case side2 => exact HC0.out); (case side3 => repeat (exact (R_reads' HO251.out).2.2)); (case side4 => exact (R_reads' HO251.out).2.1); rintro e w20 ⟨rfl, hb⟩; refine ⟨_, rfl, ?_⟩; have n0_ := Aside0.mk (R_below (by (with_reducible repeat (fail)); exact HO248.out) hb); have n1_ := Aside0.mk (R_below (by (with_reducible repeat (fail)); exact HO251.out) hb); have n2_ := Aside0.mk (blk_below (g := gb238) (o := .cells #[.int .i64 a2_0, .int .i64 a2_1, .int .i64 a2_2, .int .i64 a2_3] 58 (0, 0)) (by (with_reducible repeat (fail)); exact BK238.out) hb); have n3_ := Aside0.mk (below_step (by repeat ((with_reducible exact HB.out))) hb); clear HO248; clear HO251; clear BK238; clear HB; have HO248 := n0_; have HO251 := n1_; have BK238 := n2_; have HB := n3_; clear n0_ n1_ n2_ n3_; (try clear hb); skip)
    go_ret2
    exact ⟨_, by rfl, by (with_reducible repeat (fail)); exact Kd.R_mono HO251.out (fun _ hk => trivial), by repeat ((with_reducible exact HB.out))⟩
   ·replace c9 := Bool.eq_false_iff.mpr c9
    subst c9
    have H1 : ((spec_l6Copy.f l1).bind fun t253 => (some (t253, false))) = some (r1, r2) := by rw [if_neg (show ¬ (false = true) by decide)] at H; exact H
    clear H
    have H := H1
    clear H1
    replace H := bind_eq_some_iff.mp H
    obtain ⟨t253, A210, H⟩ := H
    replace H : (some (t253, false)) = some (r1, r2) := H
    have A21 := Aside0.mk A210
    clear A210
    simp only [Option.some.injEq, Prod.mk.injEq] at H
    obtain ⟨rfl, rfl⟩ := H
    go_enter Try.func51, Try.ntmps51
    try go_wp2_with (first | ((with_reducible refine gate_dst (N := 5) rfl ?_); refine box_event ?hg (N := 5) ?hd (cs := #[.int .i64 a2_0, .int .i64 a2_1, .int .i64 a2_2, .int .i64 a2_3]) (t := 58) ?hr ?_; (case hd => rfl); (case hg => rfl); (case hr => (go_simp; done)); intro gb238 hg w22 hbox hb; have n0_ := Aside0.mk (below_step (by repeat ((with_reducible exact HB.out))) hb); have n1_ := Aside0.mk (hbox); have n2_ := Aside0.mk ((by rw [hg]; exact (below_size (by repeat ((with_reducible exact HB.out)))) : w.heap.size ≤ gb238)); have n3_ := Aside0.mk ((by rw [hg]; exact (below_size (by repeat ((with_reducible exact HB.out)))) : w.heap.size ≤ gb238)); clear HB; have HB := n0_; have BK238 := n1_; have GW238 := n2_; have GE238 := n3_; clear n0_ n1_ n2_ n3_; clear hb hbox hg) | ((with_reducible refine gate_callee (f := 40) rfl ?_); refine goesL_ (some 11) rfl rfl Try.func40 (by kernel_rfl) rfl #[.slice A0 l0.length c0, .slice A1 l1.length c1] rfl (by (try simp only [map_toArray, map_cons, map_nil]); rfl) ?_; (with_reducible refine (spec_EventsOk.calls k _ _ l0 _ _ l1 true _ ?side1 ?side2 ?side3 ?side4 A4.out).mono ?_); (case side1 => repeat (exact (C_below HR0.out HB.out))); (case side2 => exact HC0.out); (case side3 => repeat (exact (C_below HR1.out HB.out))); (case side4 => exact HC1.out); rintro e w23 ⟨rfl, hb⟩; refine ⟨_, rfl, ?_⟩; have n0_ := Aside0.mk (blk_below (g := gb238) (o := .cells #[.int .i64 a2_0, .int .i64 a2_1, .int .i64 a2_2, .int .i64 a2_3] 58 (0, 0)) (by (with_reducible repeat (fail)); exact BK238.out) hb); have n1_ := Aside0.mk (below_step (by repeat ((with_reducible exact HB.out))) hb); clear BK238; clear HB; have BK238 := n0_; have HB := n1_; clear n0_ n1_; (try clear hb); skip))
    have n0_ := Aside0.mk (blk_drew BK238.out)
    have n1_ := Aside0.mk (bw1 HB.out)
    clear BK238
    clear HB
    have BK238 := n0_
    have HB := n1_
    clear n0_ n1_
    refine start_ (n := 6) (S := fun w' => w'.cell? ⟨gb238, 0, none⟩ = some (.int .i64 a2_0) ∧ w'.cell? ⟨gb238, 1, none⟩ = some (.int .i64 a2_1) ∧ w'.cell? ⟨gb238, 2, none⟩ = some (.int .i64 a2_2) ∧ w'.cell? ⟨gb238, 3, none⟩ = some (.int .i64 a2_3)) (ds := []) #[false, false, false, false, false, false] (by kernel_rfl) rfl rfl ⟨(blk_cell BK238.out 0).trans rfl, (blk_cell BK238.out 1).trans rfl, (blk_cell BK238.out 2).trans rfl, (blk_cell BK238.out 3).trans rfl⟩ (fun hHeld => ?_)
    generalize w23.drew = w24 at BK238 HB hHeld ⊢
    refine pure_ (i := 0) (N := some 14) (v := ?_) (a' := ?_) #[true, false, false, false, false, false] rfl rfl (by kernel_rfl) (fun _ _ _ h => h) (Or.inl ⟨by rfl, ?_⟩) ?_ ?_
    rotate_left
    ·intro w'
     go_simp
     with_reducible rfl
    rotate_left
    ·simp only [Act.put, stA, stZ, stS, i64_w, i32_w]
     rfl
    refine take_ (i := 2) (N := some 16) (v := ?_) (a' := ?_) #[true, false, true, false, false, false] rfl rfl (by kernel_rfl) (fun _ _ _ h => h) (Or.inl ⟨by rfl, ?_⟩) hHeld ?_ ?_
    rotate_left
    ·rintro w' ⟨s0, s1, s2, s3⟩
     go_simp
     with_reducible rfl
    rotate_left
    ·simp only [Act.put, stA, stZ, stS, i64_w, i32_w]
     rfl
    refine join_ (σ := Value × Value) 2 #[true, true, true, true, false, false] (fun s_ => [(15, s_.1), (17, s_.2)]) (fun s_ w' => (w'.cell? ⟨gb238, 0, none⟩ = some (.int .i64 a2_0) ∧ w'.cell? ⟨gb238, 1, none⟩ = some (.int .i64 a2_1) ∧ w'.cell? ⟨gb238, 2, none⟩ = some (.int .i64 a2_2) ∧ w'.cell? ⟨gb238, 3, none⟩ = some (.int .i64 a2_3)) ∧ (Kd.R k58 58 w' w.heap.size (fun k_ => some k_ ≠ (s_.2 : Value).ownBlock ∧ k_ ≠ gb238) s_.1 t243) ∧ (Kd.R k58 58 w' w.heap.size (fun k_ => some k_ ≠ (s_.1 : Value).ownBlock ∧ k_ ≠ gb238) s_.2 y246) ∧ (w'.heap[gb238]? = some (.cells #[.int .i64 a2_0, .int .i64 a2_1, .int .i64 a2_2, .int .i64 a2_3] 58 (0, 0))) ∧ (Below w.heap.size w w')) ?_ ?_
    rotate_left
    ·intro hCont
     refine two_ (i := 1) (j := 3) (Ni := some 15) (Nj := some 17) #[true, true, true, false, false, false] #[true, false, true, true, false, false] rfl rfl rfl rfl (by kernel_rfl) (by decide) (by decide) (fun K hK => ?_) (fun K hK => ?_)
     ·skip
      refine goes_ Try.func80 (by kernel_rfl) rfl #[.slice A1 l1.length c1] (by rfl) rfl rfl (by (try simp only [map_toArray, map_cons, map_nil]); rfl) ?_
      with_reducible refine (spec_l6Copy.calls _ _ l1 t243 _ ?side1 ?side2 A6.out).mono ?_
      (case side1 => repeat (exact (C_below HR1.out HB.out)))
      (case side2 => exact HC1.out)
      rintro e w25 ⟨v244, rfl, ho0, hb⟩
      refine ⟨_, rfl, ?_⟩
      have n0_ := Aside0.mk (Kd.R_lower (Kd.R_newB ho0 (g := gb238) (o := .cells #[.int .i64 a2_0, .int .i64 a2_1, .int .i64 a2_2, .int .i64 a2_3] 58 (0, 0)) (by (with_reducible repeat (fail)); exact BK238.out)) (below_size (by repeat ((with_reducible exact HB.out)))))
      have n1_ := Aside0.mk (blk_below (g := gb238) (o := .cells #[.int .i64 a2_0, .int .i64 a2_1, .int .i64 a2_2, .int .i64 a2_3] 58 (0, 0)) (by (with_reducible repeat (fail)); exact BK238.out) hb)
      have n2_ := Aside0.mk (below_step (by repeat ((with_reducible exact HB.out))) hb)
      clear BK238
      clear HB
      have HO245 := n0_
      have BK238 := n1_
      have HB := n2_
      clear n0_ n1_ n2_
      (try clear hb)
      (try clear ho0)
      refine hK.out _ _ ⟨(blk_cell BK238.out 0).trans rfl, (blk_cell BK238.out 1).trans rfl, (blk_cell BK238.out 2).trans rfl, (blk_cell BK238.out 3).trans rfl⟩ (fun hHeld => ?_)
      clear hK K
      refine norm_ (a' := ?_) ?_ ?_
      rotate_left
      ·show Act.put _ (some 15) _ = _
       simp only [Act.put, stA, stZ, stS, i64_w, i32_w]
       rfl
      refine one_ (i := 3) (N := some 17) #[true, true, true, true, false, false] rfl rfl (by kernel_rfl) (by decide) (fun K hK => ?_)
      refine Kd.R_lit_step k58 _ 58 ?hg (N := 17) ?hd (xs := ([(⟨a2_0, a2_1, a2_2, a2_3⟩ : S58)] : List (S58))) (inner := [.int .i64 a2_0, .int .i64 a2_1, .int .i64 a2_2, .int .i64 a2_3]) (ok := fun _ => True) (okp := fun _ => True) ?hr ?hp (fun _ hk => hk) trivial (Below.refl _ _) (Nat.le_refl _) (by simp) ?_; (case hd => rfl); (case hg => rfl); (case hr => (go_simp; done)); (case hp => exact (Reps.c4 (show Kd.M k58 _ _ _ (⟨a2_0, a2_1, a2_2, a2_3⟩ : S58) [.int .i64 a2_0, .int .i64 a2_1, .int .i64 a2_2, .int .i64 a2_3] from (k58_mkM _ _ _ (⟨a2_0, a2_1, a2_2, a2_3⟩ : S58) )) (Reps.none _ _)))
      intro v247 w26 ho27 hb hg_ hnew_
      clear hg_ hnew_
      (rw [← Ny246.out] at ho27)
      have n0_ := Aside0.mk (Kd.R_elder' (by (with_reducible repeat (fail)); exact HO245.out) (Kd.R_base ho27) hb)
      have n1_ := Aside0.mk (Kd.R_lower (Kd.R_newB (Kd.R_new' ho27 (Kd.R_lt (by (with_reducible repeat (fail)); exact HO245.out))) (g := gb238) (o := .cells #[.int .i64 a2_0, .int .i64 a2_1, .int .i64 a2_2, .int .i64 a2_3] 58 (0, 0)) (by (with_reducible repeat (fail)); exact BK238.out)) (below_size (by repeat ((with_reducible exact HB.out)))))
      have n2_ := Aside0.mk (blk_below (g := gb238) (o := .cells #[.int .i64 a2_0, .int .i64 a2_1, .int .i64 a2_2, .int .i64 a2_3] 58 (0, 0)) (by (with_reducible repeat (fail)); exact BK238.out) hb)
      have n3_ := Aside0.mk (below_step (by repeat ((with_reducible exact HB.out))) hb)
      clear HO245
      clear BK238
      clear HB
      have HO245 := n0_
      have HO248 := n1_
      have BK238 := n2_
      have HB := n3_
      clear n0_ n1_ n2_ n3_
      clear hb ho27
      refine hK.out _ _ ⟨(blk_cell BK238.out 0).trans rfl, (blk_cell BK238.out 1).trans rfl, (blk_cell BK238.out 2).trans rfl, (blk_cell BK238.out 3).trans rfl⟩ (fun hHeld => ?_)
      clear hK K
      refine norm_ (a' := ?_) ?_ ?_
      rotate_left
      ·show Act.put _ (some 17) _ = _
       simp only [Act.put, stA, stZ, stS, i64_w, i32_w]
       rfl
      exact norm_ (by simp only [putAll, Act.put, stA, stZ, stS]) (hCont (v244, v247) _ ⟨hHeld, (by (with_reducible repeat (fail)); exact Kd.R_mono HO245.out (fun _ hk => ⟨hk.2, hk.1.2⟩)), (by (with_reducible repeat (fail)); exact Kd.R_mono HO248.out (fun _ hk => ⟨hk.1.2, hk.2⟩)), (by (with_reducible repeat (fail)); exact BK238.out), (by repeat ((with_reducible exact HB.out)))⟩)
     ·skip
      refine Kd.R_lit_step k58 _ 58 ?hg (N := 17) ?hd (xs := ([(⟨a2_0, a2_1, a2_2, a2_3⟩ : S58)] : List (S58))) (inner := [.int .i64 a2_0, .int .i64 a2_1, .int .i64 a2_2, .int .i64 a2_3]) (ok := fun _ => True) (okp := fun _ => True) ?hr ?hp (fun _ hk => hk) trivial (Below.refl _ _) (Nat.le_refl _) (by simp) ?_; (case hd => rfl); (case hg => rfl); (case hr => (go_simp; done)); (case hp => exact (Reps.c4 (show Kd.M k58 _ _ _ (⟨a2_0, a2_1, a2_2, a2_3⟩ : S58) [.int .i64 a2_0, .int .i64 a2_1, .int .i64 a2_2, .int .i64 a2_3] from (k58_mkM _ _ _ (⟨a2_0, a2_1, a2_2, a2_3⟩ : S58) )) (Reps.none _ _)))
      intro v247 w25 ho26 hb hg_ hnew_
      clear hg_ hnew_
      (rw [← Ny246.out] at ho26)
      have n0_ := Aside0.mk (Kd.R_lower (Kd.R_newB ho26 (g := gb238) (o := .cells #[.int .i64 a2_0, .int .i64 a2_1, .int .i64 a2_2, .int .i64 a2_3] 58 (0, 0)) (by (with_reducible repeat (fail)); exact BK238.out)) (below_size (by repeat ((with_reducible exact HB.out)))))
      have n1_ := Aside0.mk (blk_below (g := gb238) (o := .cells #[.int .i64 a2_0, .int .i64 a2_1, .int .i64 a2_2, .int .i64 a2_3] 58 (0, 0)) (by (with_reducible repeat (fail)); exact BK238.out) hb)
      have n2_ := Aside0.mk (below_step (by repeat ((with_reducible exact HB.out))) hb)
      clear BK238
      clear HB
      have HO248 := n0_
      have BK238 := n1_
      have HB := n2_
      clear n0_ n1_ n2_
      clear hb ho26
      refine hK.out _ _ ⟨(blk_cell BK238.out 0).trans rfl, (blk_cell BK238.out 1).trans rfl, (blk_cell BK238.out 2).trans rfl, (blk_cell BK238.out 3).trans rfl⟩ (fun hHeld => ?_)
      clear hK K
      refine norm_ (a' := ?_) ?_ ?_
      rotate_left
      ·show Act.put _ (some 17) _ = _
       simp only [Act.put, stA, stZ, stS, i64_w, i32_w]
       rfl
      refine one_ (i := 1) (N := some 15) #[true, true, true, true, false, false] rfl rfl (by kernel_rfl) (by decide) (fun K hK => ?_)
      refine goes_ Try.func80 (by kernel_rfl) rfl #[.slice A1 l1.length c1] (by rfl) rfl rfl (by (try simp only [map_toArray, map_cons, map_nil]); rfl) ?_
      with_reducible refine (spec_l6Copy.calls _ _ l1 t243 _ ?side1 ?side2 A6.out).mono ?_
      (case side1 => repeat (exact (C_below HR1.out HB.out)))
      (case side2 => exact HC1.out)
      rintro e w27 ⟨v244, rfl, ho0, hb⟩
      refine ⟨_, rfl, ?_⟩
      have n0_ := Aside0.mk (Kd.R_elder' (by (with_reducible repeat (fail)); exact HO248.out) (Kd.R_base ho0) hb)
      have n1_ := Aside0.mk (Kd.R_lower (Kd.R_newB (Kd.R_new' ho0 (Kd.R_lt (by (with_reducible repeat (fail)); exact HO248.out))) (g := gb238) (o := .cells #[.int .i64 a2_0, .int .i64 a2_1, .int .i64 a2_2, .int .i64 a2_3] 58 (0, 0)) (by (with_reducible repeat (fail)); exact BK238.out)) (below_size (by repeat ((with_reducible exact HB.out)))))
      have n2_ := Aside0.mk (blk_below (g := gb238) (o := .cells #[.int .i64 a2_0, .int .i64 a2_1, .int .i64 a2_2, .int .i64 a2_3] 58 (0, 0)) (by (with_reducible repeat (fail)); exact BK238.out) hb)
      have n3_ := Aside0.mk (below_step (by repeat ((with_reducible exact HB.out))) hb)
      clear HO248
      clear BK238
      clear HB
      have HO248 := n0_
      have HO245 := n1_
      have BK238 := n2_
      have HB := n3_
      clear n0_ n1_ n2_ n3_
      (try clear hb)
      (try clear ho0)
      refine hK.out _ _ ⟨(blk_cell BK238.out 0).trans rfl, (blk_cell BK238.out 1).trans rfl, (blk_cell BK238.out 2).trans rfl, (blk_cell BK238.out 3).trans rfl⟩ (fun hHeld => ?_)
      clear hK K
      refine norm_ (a' := ?_) ?_ ?_
      rotate_left
      ·show Act.put _ (some 15) _ = _
       simp only [Act.put, stA, stZ, stS, i64_w, i32_w]
       rfl
      exact norm_ (by simp only [putAll, Act.put, stA, stZ, stS]) (hCont (v244, v247) _ ⟨hHeld, (by (with_reducible repeat (fail)); exact Kd.R_mono HO245.out (fun _ hk => ⟨hk.1.2, hk.2⟩)), (by (with_reducible repeat (fail)); exact Kd.R_mono HO248.out (fun _ hk => ⟨hk.2, hk.1.2⟩)), (by (with_reducible repeat (fail)); exact BK238.out), (by repeat ((with_reducible exact HB.out)))⟩)
    rintro ⟨v244, v247⟩ w28 ⟨hS_, h0_, h1_, h2_, h3_⟩
    have n0_ : Aside0 (Kd.R k58 58 w28 w.heap.size (fun k_ => some k_ ≠ (v247 : Value).ownBlock ∧ k_ ≠ gb238) v244 t243) := ⟨h0_⟩
    have n1_ : Aside0 (Kd.R k58 58 w28 w.heap.size (fun k_ => some k_ ≠ (v244 : Value).ownBlock ∧ k_ ≠ gb238) v247 y246) := ⟨h1_⟩
    have n2_ : Aside0 (w28.heap[gb238]? = some (.cells #[.int .i64 a2_0, .int .i64 a2_1, .int .i64 a2_2, .int .i64 a2_3] 58 (0, 0))) := ⟨h2_⟩
    have n3_ : Aside0 (Below w.heap.size w w28) := ⟨h3_⟩
    clear BK238
    clear HB
    clear h0_ h1_ h2_ h3_
    have HO245 := n0_
    have HO248 := n1_
    have BK238 := n2_
    have HB := n3_
    clear n0_ n1_ n2_ n3_
    have hHeld : w28.cell? ⟨gb238, 0, none⟩ = some (.int .i64 a2_0) ∧ w28.cell? ⟨gb238, 1, none⟩ = some (.int .i64 a2_1) ∧ w28.cell? ⟨gb238, 2, none⟩ = some (.int .i64 a2_2) ∧ w28.cell? ⟨gb238, 3, none⟩ = some (.int .i64 a2_3) := hS_
    obtain ⟨Ao30, co30, eo30⟩ := Kd.R_slice HO248.out
    (subst eo30)
    refine norm_ (a' := ?_) ?_ ?_
    rotate_left
    ·simp only [putAll, Act.put, stA, stZ, stS]
     rfl
    refine one_ (i := 4) (N := some 18) #[true, true, true, true, true, false] rfl rfl (by kernel_rfl) (by decide) (fun K hK => ?_)
    refine Kd.R_append_rows_step k58 (w0 := w) w.heap.size (by rfl) (.tmp 15) (.tmp 17) 53 58 (.agg #[(.int .i64 0), (.int .i64 0), (.int .i64 0), (.int .i64 0)]) 32 rfl Try.underlying53 info58 rfl (by decide) (by omega) v244 t243 y246 _ _ _ (fun k_ => some k_ ≠ (.slice Ao30 y246.length co30 : Value).ownBlock ∧ k_ ≠ gb238) (fun _ => False) rfl rfl ?aO ?aR (fun _ _ h => h) (fun _ h => h.elim) ?aF ?aB ?aS ?aL ?_
    (case aR => repeat (exact (R_reads' HO248.out).2.2))
    (case aB => exact (by repeat ((with_reducible exact HB.out))))
    (case aF => exact (fun k_ hk => ⟨Kd.fresh' (Kd.R_lt (by (with_reducible repeat (fail)); exact HO248.out)) k_ hk, Kd.freshB (g := gb238) (o := .cells #[.int .i64 a2_0, .int .i64 a2_1, .int .i64 a2_2, .int .i64 a2_3] 58 (0, 0)) (by (with_reducible repeat (fail)); exact BK238.out) k_ hk⟩))
    (case aO => exact (by (with_reducible repeat (fail)); exact HO245.out))
    (case aS => exact (below_size (by repeat ((with_reducible exact HB.out)))))
    (case aL => have := LMc7.out; omega)
    intro v250 w29 ho hb hg hat
    rw [← Ny249.out] at ho
    have n0_ := Aside0.mk (blk_grown (g := gb238) (o := .cells #[.int .i64 a2_0, .int .i64 a2_1, .int .i64 a2_2, .int .i64 a2_3] 58 (0, 0)) (by (with_reducible repeat (fail)); exact BK238.out) hg (Kd.R_away HO245.out (fun _ hk => hk.2)))
    have n1_ := Aside0.mk (Kd.R_after (ok := (fun k_ => k_ ≠ gb238)) (by (with_reducible repeat (fail)); exact Kd.R_mono HO248.out (fun _ hk => ⟨hk.2, hk.1⟩)) hg hat)
    have n2_ := Aside0.mk (hb)
    have n3_ := Aside0.mk (ho)
    clear BK238
    clear HO248
    clear HB
    clear HO245
    have BK238 := n0_
    have HO248 := n1_
    have HB := n2_
    have HO251 := n3_
    clear n0_ n1_ n2_ n3_
    clear ho hb hg hat
    refine hK.out _ _ ⟨(blk_cell BK238.out 0).trans rfl, (blk_cell BK238.out 1).trans rfl, (blk_cell BK238.out 2).trans rfl, (blk_cell BK238.out 3).trans rfl⟩ (fun hHeld => ?_)
    clear hK K
    refine norm_ (a' := ?_) ?_ ?_
    rotate_left
    ·show Act.put _ (some 18) _ = _
     simp only [Act.put, stA, stZ, stS, i64_w, i32_w]
     rfl
    refine pure_ (i := 5) (N := some 8) (v := ?_) (a' := ?_) #[true, true, true, true, true, true] rfl rfl (by kernel_rfl) (fun _ _ _ h => h) (Or.inl ⟨by rfl, ?_⟩) ?_ ?_
    rotate_left
    ·intro w'
     go_simp
     with_reducible rfl
    rotate_left
    ·simp only [Act.put, stA, stZ, stS, i64_w, i32_w]
     rfl
    refine done_ (by kernel_rfl) ?_
    obtain ⟨Ao31, co31, eo31⟩ := Kd.R_slice HO251.out
    subst eo31
    try go_wp2_with (first | ((with_reducible refine gate_callee (f := 40) rfl ?_); refine goesL_ (some 21) rfl rfl Try.func40 (by kernel_rfl) rfl #[.slice A0 l0.length c0, .slice Ao31 y249.length co31] rfl (by (try simp only [map_toArray, map_cons, map_nil]); rfl) ?_; (with_reducible refine (spec_EventsOk.calls k _ _ l0 _ _ y249 false _ ?side1 ?side2 ?side3 ?side4 A8.out).mono ?_); (case side1 => repeat (exact (C_below HR0.out HB.out))); (case side2 => exact HC0.out); (case side3 => repeat (exact (R_reads' HO251.out).2.2)); (case side4 => exact (R_reads' HO251.out).2.1); rintro e w32 ⟨rfl, hb⟩; refine ⟨_, rfl, ?_⟩; have n0_ := Aside0.mk (R_below (by (with_reducible repeat (fail)); exact HO248.out) hb); have n1_ := Aside0.mk (R_below (by (with_reducible repeat (fail)); exact HO251.out) hb); have n2_ := Aside0.mk (blk_below (g := gb238) (o := .cells #[.int .i64 a2_0, .int .i64 a2_1, .int .i64 a2_2, .int .i64 a2_3] 58 (0, 0)) (by (with_reducible repeat (fail)); exact BK238.out) hb); have n3_ := Aside0.mk (below_step (by repeat ((with_reducible exact HB.out))) hb); clear HO248; clear HO251; clear BK238; clear HB; have HO248 := n0_; have HO251 := n1_; have BK238 := n2_; have HB := n3_; clear n0_ n1_ n2_ n3_; (try clear hb); skip) | ((with_reducible refine gate_callee (f := 80) rfl ?_); refine goesL_ (some 24) rfl rfl Try.func80 (by kernel_rfl) rfl #[.slice A1 l1.length c1] rfl (by (try simp only [map_toArray, map_cons, map_nil]); rfl) ?_; (with_reducible refine (spec_l6Copy.calls _ _ l1 t253 _ ?side1 ?side2 A21.out).mono ?_); (case side1 => repeat (exact (C_below HR1.out HB.out))); (case side2 => exact HC1.out); rintro e w33 ⟨v254, rfl, ho0, hb⟩; refine ⟨_, rfl, ?_⟩; have n0_ := Aside0.mk (Kd.R_elder' (by (with_reducible repeat (fail)); exact HO248.out) (Kd.R_base ho0) hb); have n1_ := Aside0.mk (Kd.R_elder' (by (with_reducible repeat (fail)); exact HO251.out) (Kd.R_base ho0) hb); have n2_ := Aside0.mk (Kd.R_lower (Kd.R_newB (Kd.R_new' (Kd.R_new' ho0 (Kd.R_lt (by (with_reducible repeat (fail)); exact HO248.out))) (Kd.R_lt (by (with_reducible repeat (fail)); exact HO251.out))) (g := gb238) (o := .cells #[.int .i64 a2_0, .int .i64 a2_1, .int .i64 a2_2, .int .i64 a2_3] 58 (0, 0)) (by (with_reducible repeat (fail)); exact BK238.out)) (below_size (by repeat ((with_reducible exact HB.out))))); have n3_ := Aside0.mk (blk_below (g := gb238) (o := .cells #[.int .i64 a2_0, .int .i64 a2_1, .int .i64 a2_2, .int .i64 a2_3] 58 (0, 0)) (by (with_reducible repeat (fail)); exact BK238.out) hb); have n4_ := Aside0.mk (below_step (by repeat ((with_reducible exact HB.out))) hb); clear HO248; clear HO251; clear BK238; clear HB; have HO248 := n0_; have HO251 := n1_; have HO255 := n2_; have BK238 := n3_; have HB := n4_; clear n0_ n1_ n2_ n3_ n4_; (try clear hb); skip; (try clear ho0)))
    go_ret2
    exact ⟨_, by rfl, by (with_reducible repeat (fail)); exact Kd.R_mono HO255.out (fun _ hk => trivial), by repeat ((with_reducible exact HB.out))⟩
  ·rw [if_neg c7] at H
   exact absurd H (by simp)
 ·replace c5 := Bool.eq_false_iff.mpr c5
  subst c5
  have H1 : (some ((([] : List (S58))), false)) = some (r1, r2) := by rw [if_neg (show ¬ (false = true) by decide)] at H; exact H
  clear H
  have H := H1
  clear H1
  obtain ⟨y240, hy240⟩ : ∃ y_ : List (S58), y_ = (([] : List (S58))) := ⟨_, rfl⟩
  replace H : (some (y240, false)) = some (r1, r2) := by (rw [hy240]; with_reducible exact H)
  have Ny240 := Aside0.mk hy240
  clear hy240
  simp only [Option.some.injEq, Prod.mk.injEq] at H
  obtain ⟨rfl, rfl⟩ := H
  go_enter Try.func51, Try.ntmps51
  go_wp2_with (first | ((with_reducible refine gate_dst (N := 5) rfl ?_); refine box_event ?hg (N := 5) ?hd (cs := #[.int .i64 a2_0, .int .i64 a2_1, .int .i64 a2_2, .int .i64 a2_3]) (t := 58) ?hr ?_; (case hd => rfl); (case hg => rfl); (case hr => (go_simp; done)); intro gb238 hg w34 hbox hb; have n0_ := Aside0.mk (below_step (by repeat ((with_reducible exact HB.out))) hb); have n1_ := Aside0.mk (hbox); have n2_ := Aside0.mk ((by rw [hg]; exact (below_size (by repeat ((with_reducible exact HB.out)))) : w.heap.size ≤ gb238)); have n3_ := Aside0.mk ((by rw [hg]; exact (below_size (by repeat ((with_reducible exact HB.out)))) : w.heap.size ≤ gb238)); clear HB; have HB := n0_; have BK238 := n1_; have GW238 := n2_; have GE238 := n3_; clear n0_ n1_ n2_ n3_; clear hb hbox hg) | ((with_reducible refine gate_callee (f := 40) rfl ?_); refine goesL_ (some 11) rfl rfl Try.func40 (by kernel_rfl) rfl #[.slice A0 l0.length c0, .slice A1 l1.length c1] rfl (by (try simp only [map_toArray, map_cons, map_nil]); rfl) ?_; (with_reducible refine (spec_EventsOk.calls k _ _ l0 _ _ l1 false _ ?side1 ?side2 ?side3 ?side4 A4.out).mono ?_); (case side1 => repeat (exact (C_below HR0.out HB.out))); (case side2 => exact HC0.out); (case side3 => repeat (exact (C_below HR1.out HB.out))); (case side4 => exact HC1.out); rintro e w35 ⟨rfl, hb⟩; refine ⟨_, rfl, ?_⟩; have n0_ := Aside0.mk (blk_below (g := gb238) (o := .cells #[.int .i64 a2_0, .int .i64 a2_1, .int .i64 a2_2, .int .i64 a2_3] 58 (0, 0)) (by (with_reducible repeat (fail)); exact BK238.out) hb); have n1_ := Aside0.mk (below_step (by repeat ((with_reducible exact HB.out))) hb); clear BK238; clear HB; have BK238 := n0_; have HB := n1_; clear n0_ n1_; (try clear hb); skip) | ((with_reducible refine gate_dst (N := 13) rfl ?_); refine Kd.R_lit k58 _ 58 ?hg (N := 13) ?hd (xs := ([] : List (S58))) (inner := []) (ok := fun _ => True) (okp := fun _ => True) ?hr ?hp (fun _ hk => hk) trivial (Below.refl _ _) (Nat.le_refl _) (by simp) ?_; (case hd => rfl); (case hg => rfl); (case hr => (go_simp; done)); (case hp => exact (Reps.none _ _)); intro v241 w36 ho37 hb hg_ hnew_; clear hg_ hnew_; (rw [← Ny240.out] at ho37); have n0_ := Aside0.mk (Kd.R_lower (Kd.R_newB ho37 (g := gb238) (o := .cells #[.int .i64 a2_0, .int .i64 a2_1, .int .i64 a2_2, .int .i64 a2_3] 58 (0, 0)) (by (with_reducible repeat (fail)); exact BK238.out)) (below_size (by repeat ((with_reducible exact HB.out))))); have n1_ := Aside0.mk (blk_below (g := gb238) (o := .cells #[.int .i64 a2_0, .int .i64 a2_1, .int .i64 a2_2, .int .i64 a2_3] 58 (0, 0)) (by (with_reducible repeat (fail)); exact BK238.out) hb); have n2_ := Aside0.mk (below_step (by repeat ((with_reducible exact HB.out))) hb); clear BK238; clear HB; have HO242 := n0_; have BK238 := n1_; have HB := n2_; clear n0_ n1_ n2_; clear hb ho37))
  go_ret2
  exact ⟨_, by rfl, by (with_reducible repeat (fail)); exact Kd.R_mono HO242.out (fun _ hk => trivial), by repeat ((with_reducible exact HB.out))⟩
def impl_Event.f (l0 : List (S58)) : Option ((List (S58))) := (some (([] : List (S58)) : List (S58))).bind fun y256 => (if y256.length + l0.length < 4398046511104 then (some (y256 ++ l0)) else (none))
set_option maxHeartbeats 8000000 in
set_option maxRecDepth 100000 in
theorem impl_Event.calls (A0 : Option Addr) (c0 : Nat) (l0 : List (S58)) (r : List (S58)) (w : World) (hr0 : Kd.C k58 w A0 l0.length l0) (hc0 : l0.length ≤ c0) (h : impl_Event.f l0 = some r) :
  Calls Try.prog 81 #[.slice A0 l0.length c0] w fun e w' => ∃ v0_ : Value, e = .returned (v0_) ∧ Kd.R k58 58 w' w.heap.size (fun _ => True) v0_ r ∧ Below w.heap.size w w' := by
 have q22 : ∀ (w : World) (a : Option Addr) (n c n' c' : Nat), (binOp .eql 53 (.slice a n c) (.slice none n' c')).run Try.prog w = .ok (.bool a.isNone) w := fun w a n c n' c' => Lib.run_eql_slice_nil w _ _ a n c n' c' Try.underlying53
 cases A0 with
 | none =>
 have h0 : l0 = [] := by
  cases l0 with
  | nil => rfl
  | cons x xs =>
   obtain ⟨ad, e, _⟩ := hr0.2.2 (by simp)
   cases e
 subst h0
 have hr : r = [] := by
  have h2 := h
  unfold impl_Event.f at h2
  simpa using h2.symm
 subst hr
 clear h hr0 hc0
 go_enter Try.func81, Try.ntmps81
 go_wp2
 go_ret
 exact ⟨_, rfl, Kd.R_nil _ _ _ _ _, Below.refl _ _⟩
 | some ad0 =>
 have HR0 := Aside0.mk hr0
 have HC0 := Aside0.mk hc0
 clear hr0 hc0
 have HB := Aside0.mk (Below.refl w.heap.size w)
 have H : ((some (([] : List (S58)) : List (S58))).bind fun y256 => (if y256.length + l0.length < 4398046511104 then (some (y256 ++ l0)) else (none))) = some r := h
 clear h
 obtain ⟨y256, hy256⟩ : ∃ y_ : List (S58), y_ = (([] : List (S58))) := ⟨_, rfl⟩
 replace H : (if y256.length + l0.length < 4398046511104 then (some (y256 ++ l0)) else (none)) = some r := by (have H2_ := (Option.bind_some _ _).symm.trans H; rw [hy256]; with_reducible exact H2_)
 have Ny256 := Aside0.mk hy256
 clear hy256
 by_cases c2 : y256.length + l0.length < 4398046511104
 ·rw [if_pos c2] at H
  have LMc2 := Aside0.mk c2
  clear c2
  obtain ⟨y259, hy259⟩ : ∃ y_ : List (S58), y_ = (y256 ++ l0) := ⟨_, rfl⟩
  replace H : (some y259) = some r := by (rw [hy259]; with_reducible exact H)
  have Ny259 := Aside0.mk hy259
  clear hy259
  obtain rfl := Option.some.inj H
  go_enter Try.func81, Try.ntmps81
  go_wp2_with (first | ((with_reducible refine gate_dst (N := 5) rfl ?_); refine Kd.R_lit k58 _ 58 ?hg (N := 5) ?hd (xs := ([] : List (S58))) (inner := []) (ok := fun _ => True) (okp := fun _ => True) ?hr ?hp (fun _ hk => hk) trivial (Below.refl _ _) (Nat.le_refl _) (by simp) ?_; (case hd => rfl); (case hg => rfl); (case hr => (go_simp; done)); (case hp => exact (Reps.none _ _)); intro v257 w3 ho4 hb hg_ hnew_; clear hg_ hnew_; (rw [← Ny256.out] at ho4); have n0_ := Aside0.mk (Kd.R_lower ho4 (below_size (by repeat ((with_reducible exact HB.out))))); have n1_ := Aside0.mk (below_step (by repeat ((with_reducible exact HB.out))) hb); clear HB; have HO258 := n0_; have HB := n1_; clear n0_ n1_; clear hb ho4) | ((with_reducible refine gate_builtin (b := .append) (xs := #[.tmp 5, .tmp 6]) rfl ?_); at_builtin; refine Kd.R_append_rows k58 (w0 := w) w.heap.size rfl (.tmp 5) (.tmp 6) 53 58 (.agg #[(.int .i64 0), (.int .i64 0), (.int .i64 0), (.int .i64 0)]) 32 rfl Try.underlying53 info58 rfl (by decide) (by omega) v257 y256 l0 _ _ _ (fun _ => True) (fun _ => False) rfl rfl ?aO ?aR (fun _ _ h => h) (fun _ h => h.elim) ?aF ?aB ?aS ?aL ?_; (case aR => repeat (exact (C_below HR0.out HB.out))); (case aB => exact (by repeat ((with_reducible exact HB.out)))); (case aF => exact (fun _ _ => trivial)); (case aO => exact (by (with_reducible repeat (fail)); exact HO258.out)); (case aS => exact (below_size (by repeat ((with_reducible exact HB.out))))); (case aL => have := LMc2.out; omega); intro v260 w5 ho hb hg hat; rw [← Ny259.out] at ho; have n0_ := Aside0.mk (hb); have n1_ := Aside0.mk (ho); clear HB; clear HO258; have HB := n0_; have HO261 := n1_; clear n0_ n1_; clear ho hb hg hat))
  go_ret
  exact ⟨_, by rfl, by (with_reducible repeat (fail)); exact HO261.out, by repeat ((with_reducible exact HB.out))⟩
 ·rw [if_neg c2] at H
  exact absurd H (by simp)
def impl_LetGo.f (k : Nat) (l0 : List (S30)) (l1 : List (S58)) (a2_0 : Int) (a2_1 : Int) (a2_2 : Int) (a2_3 : Int) : Option ((List (S58)) × Bool) := (impl_EventsOk.f k l0 l1).bind fun t263 => (if t263 = true then ((impl_Event_fits.f k a2_0 a2_1 a2_2 a2_3 l0 l1).bind fun t264 => (if t264 = true then ((impl_Event.f l1).bind fun t265 => ((some (([(⟨a2_0, a2_1, a2_2, a2_3⟩ : S58)] : List (S58)) : List (S58))).bind fun y268 => (if t265.length + y268.length < 4398046511104 then (some ((t265 ++ y268), true)) else (none)))) else ((impl_Event.f l1).bind fun t274 => (some (t274, false))))) else (some (([] : List (S58)), false)))
set_option maxHeartbeats 8000000 in
set_option maxRecDepth 100000 in
theorem impl_LetGo.calls (k : Nat) (A0 : Option Addr) (c0 : Nat) (l0 : List (S30)) (A1 : Option Addr) (c1 : Nat) (l1 : List (S58)) (a2_0 : Int) (a2_1 : Int) (a2_2 : Int) (a2_3 : Int) (r1 : List (S58)) (r2 : Bool) (w : World) (hr0 : Kd.C k30 w A0 l0.length l0) (hc0 : l0.length ≤ c0) (hr1 : Kd.C k58 w A1 l1.length l1) (hc1 : l1.length ≤ c1) (h : impl_LetGo.f k l0 l1 a2_0 a2_1 a2_2 a2_3 = some (r1, r2)) :
  Calls Try.prog 53 #[.slice A0 l0.length c0, .slice A1 l1.length c1, .agg #[.int .i64 a2_0, .int .i64 a2_1, .int .i64 a2_2, .int .i64 a2_3]] w fun e w' => ∃ v0_ : Value, e = .returned (.tuple #[v0_, .bool r2]) ∧ Kd.R k58 58 w' w.heap.size (fun _ => True) v0_ r1 ∧ Below w.heap.size w w' := by
 have hu58 := Try.underlying58
 have HR0 := Aside0.mk hr0
 have HC0 := Aside0.mk hc0
 clear hr0 hc0
 have HR1 := Aside0.mk hr1
 have HC1 := Aside0.mk hc1
 clear hr1 hc1
 have HB := Aside0.mk (Below.refl w.heap.size w)
 have H : ((impl_EventsOk.f k l0 l1).bind fun t263 => (if t263 = true then ((impl_Event_fits.f k a2_0 a2_1 a2_2 a2_3 l0 l1).bind fun t264 => (if t264 = true then ((impl_Event.f l1).bind fun t265 => ((some (([(⟨a2_0, a2_1, a2_2, a2_3⟩ : S58)] : List (S58)) : List (S58))).bind fun y268 => (if t265.length + y268.length < 4398046511104 then (some ((t265 ++ y268), true)) else (none)))) else ((impl_Event.f l1).bind fun t274 => (some (t274, false))))) else (some (([] : List (S58)), false)))) = some (r1, r2) := h
 clear h
 replace H := bind_eq_some_iff.mp H
 obtain ⟨t263, A40, H⟩ := H
 replace H : (if t263 = true then ((impl_Event_fits.f k a2_0 a2_1 a2_2 a2_3 l0 l1).bind fun t264 => (if t264 = true then ((impl_Event.f l1).bind fun t265 => ((some (([(⟨a2_0, a2_1, a2_2, a2_3⟩ : S58)] : List (S58)) : List (S58))).bind fun y268 => (if t265.length + y268.length < 4398046511104 then (some ((t265 ++ y268), true)) else (none)))) else ((impl_Event.f l1).bind fun t274 => (some (t274, false))))) else (some (([] : List (S58)), false))) = some (r1, r2) := H
 have A4 := Aside0.mk A40
 clear A40
 by_cases c5 : t263 = true
 ·subst c5
  have H1 : ((impl_Event_fits.f k a2_0 a2_1 a2_2 a2_3 l0 l1).bind fun t264 => (if t264 = true then ((impl_Event.f l1).bind fun t265 => ((some (([(⟨a2_0, a2_1, a2_2, a2_3⟩ : S58)] : List (S58)) : List (S58))).bind fun y268 => (if t265.length + y268.length < 4398046511104 then (some ((t265 ++ y268), true)) else (none)))) else ((impl_Event.f l1).bind fun t274 => (some (t274, false))))) = some (r1, r2) := by rw [if_pos rfl] at H; exact H
  clear H
  have H := H1
  clear H1
  replace H := bind_eq_some_iff.mp H
  obtain ⟨t264, A60, H⟩ := H
  replace H : (if t264 = true then ((impl_Event.f l1).bind fun t265 => ((some (([(⟨a2_0, a2_1, a2_2, a2_3⟩ : S58)] : List (S58)) : List (S58))).bind fun y268 => (if t265.length + y268.length < 4398046511104 then (some ((t265 ++ y268), true)) else (none)))) else ((impl_Event.f l1).bind fun t274 => (some (t274, false)))) = some (r1, r2) := H
  have A6 := Aside0.mk A60
  clear A60
  by_cases c7 : t264 = true
  ·subst c7
   have H1 : ((impl_Event.f l1).bind fun t265 => ((some (([(⟨a2_0, a2_1, a2_2, a2_3⟩ : S58)] : List (S58)) : List (S58))).bind fun y268 => (if t265.length + y268.length < 4398046511104 then (some ((t265 ++ y268), true)) else (none)))) = some (r1, r2) := by rw [if_pos rfl] at H; exact H
   clear H
   have H := H1
   clear H1
   replace H := bind_eq_some_iff.mp H
   obtain ⟨t265, A80, H⟩ := H
   replace H : ((some (([(⟨a2_0, a2_1, a2_2, a2_3⟩ : S58)] : List (S58)) : List (S58))).bind fun y268 => (if t265.length + y268.length < 4398046511104 then (some ((t265 ++ y268), true)) else (none))) = some (r1, r2) := H
   have A8 := Aside0.mk A80
   clear A80
   obtain ⟨y268, hy268⟩ : ∃ y_ : List (S58), y_ = (([(⟨a2_0, a2_1, a2_2, a2_3⟩ : S58)] : List (S58))) := ⟨_, rfl⟩
   replace H : (if t265.length + y268.length < 4398046511104 then (some ((t265 ++ y268), true)) else (none)) = some (r1, r2) := by (have H2_ := (Option.bind_some _ _).symm.trans H; rw [hy268]; with_reducible exact H2_)
   have Ny268 := Aside0.mk hy268
   clear hy268
   by_cases c9 : t265.length + y268.length < 4398046511104
   ·rw [if_pos c9] at H
    have LMc9 := Aside0.mk c9
    clear c9
    obtain ⟨y271, hy271⟩ : ∃ y_ : List (S58), y_ = (t265 ++ y268) := ⟨_, rfl⟩
    replace H : (some (y271, true)) = some (r1, r2) := by (rw [hy271]; with_reducible exact H)
    have Ny271 := Aside0.mk hy271
    clear hy271
    simp only [Option.some.injEq, Prod.mk.injEq] at H
    obtain ⟨rfl, rfl⟩ := H
    go_enter Try.func53, Try.ntmps53
    try go_wp2_with (first | ((with_reducible refine gate_dst (N := 5) rfl ?_); refine box_event ?hg (N := 5) ?hd (cs := #[.int .i64 a2_0, .int .i64 a2_1, .int .i64 a2_2, .int .i64 a2_3]) (t := 58) ?hr ?_; (case hd => rfl); (case hg => rfl); (case hr => (go_simp; done)); intro gb262 hg w10 hbox hb; have n0_ := Aside0.mk (below_step (by repeat ((with_reducible exact HB.out))) hb); have n1_ := Aside0.mk (hbox); have n2_ := Aside0.mk ((by rw [hg]; exact (below_size (by repeat ((with_reducible exact HB.out)))) : w.heap.size ≤ gb262)); have n3_ := Aside0.mk ((by rw [hg]; exact (below_size (by repeat ((with_reducible exact HB.out)))) : w.heap.size ≤ gb262)); clear HB; have HB := n0_; have BK262 := n1_; have GW262 := n2_; have GE262 := n3_; clear n0_ n1_ n2_ n3_; clear hb hbox hg) | ((with_reducible refine gate_callee (f := 42) rfl ?_); refine goesL_ (some 10) rfl rfl Try.func42 (by kernel_rfl) rfl #[.slice A0 l0.length c0, .slice A1 l1.length c1] rfl (by (try simp only [map_toArray, map_cons, map_nil]); rfl) ?_; (with_reducible refine (impl_EventsOk.calls k _ _ l0 _ _ l1 true _ ?side1 ?side2 ?side3 ?side4 A4.out).mono ?_); (case side1 => repeat (exact (C_below HR0.out HB.out))); (case side2 => exact HC0.out); (case side3 => repeat (exact (C_below HR1.out HB.out))); (case side4 => exact HC1.out); rintro e w11 ⟨rfl, hb⟩; refine ⟨_, rfl, ?_⟩; have n0_ := Aside0.mk (blk_below (g := gb262) (o := .cells #[.int .i64 a2_0, .int .i64 a2_1, .int .i64 a2_2, .int .i64 a2_3] 58 (0, 0)) (by (with_reducible repeat (fail)); exact BK262.out) hb); have n1_ := Aside0.mk (below_step (by repeat ((with_reducible exact HB.out))) hb); clear BK262; clear HB; have BK262 := n0_; have HB := n1_; clear n0_ n1_; (try clear hb); skip; have hcz12_0 : w11.cell? ⟨gb262, 0, none⟩ = some (.int .i64 a2_0) := (blk_cell BK262.out 0).trans rfl; have hcz12_1 : w11.cell? ⟨gb262, 1, none⟩ = some (.int .i64 a2_1) := (blk_cell BK262.out 1).trans rfl; have hcz12_2 : w11.cell? ⟨gb262, 2, none⟩ = some (.int .i64 a2_2) := (blk_cell BK262.out 2).trans rfl; have hcz12_3 : w11.cell? ⟨gb262, 3, none⟩ = some (.int .i64 a2_3) := (blk_cell BK262.out 3).trans rfl; have hfz12_0 := blk_frozen BK262.out 0; have hfz12_1 := blk_frozen BK262.out 1; have hfz12_2 := blk_frozen BK262.out 2; have hfz12_3 := blk_frozen BK262.out 3) | ((with_reducible refine gate_callee (f := 78) rfl ?_); refine goesL_ (some 15) rfl rfl Try.func78 (by kernel_rfl) rfl #[.agg #[.int .i64 a2_0, .int .i64 a2_1, .int .i64 a2_2, .int .i64 a2_3], .slice A0 l0.length c0, .slice A1 l1.length c1] rfl (by (try simp only [map_toArray, map_cons, map_nil]); rfl) ?_; (with_reducible refine (impl_Event_fits.calls k a2_0 a2_1 a2_2 a2_3 _ _ l0 _ _ l1 true _ ?side1 ?side2 ?side3 ?side4 A6.out).mono ?_); (case side1 => repeat (exact (C_below HR0.out HB.out))); (case side2 => exact HC0.out); (case side3 => repeat (exact (C_below HR1.out HB.out))); (case side4 => exact HC1.out); rintro e w13 ⟨rfl, hb⟩; refine ⟨_, rfl, ?_⟩; have n0_ := Aside0.mk (blk_below (g := gb262) (o := .cells #[.int .i64 a2_0, .int .i64 a2_1, .int .i64 a2_2, .int .i64 a2_3] 58 (0, 0)) (by (with_reducible repeat (fail)); exact BK262.out) hb); have n1_ := Aside0.mk (below_step (by repeat ((with_reducible exact HB.out))) hb); clear BK262; clear HB; have BK262 := n0_; have HB := n1_; clear n0_ n1_; (try clear hb); skip))
    have n0_ := Aside0.mk (blk_drew BK262.out)
    have n1_ := Aside0.mk (bw1 HB.out)
    clear BK262
    clear HB
    have BK262 := n0_
    have HB := n1_
    clear n0_ n1_
    refine start_ (n := 7) (S := fun w' => w'.cell? ⟨gb262, 0, none⟩ = some (.int .i64 a2_0) ∧ w'.cell? ⟨gb262, 1, none⟩ = some (.int .i64 a2_1) ∧ w'.cell? ⟨gb262, 2, none⟩ = some (.int .i64 a2_2) ∧ w'.cell? ⟨gb262, 3, none⟩ = some (.int .i64 a2_3)) (ds := []) #[false, false, false, false, false, false, false] (by kernel_rfl) rfl rfl ⟨(blk_cell BK262.out 0).trans rfl, (blk_cell BK262.out 1).trans rfl, (blk_cell BK262.out 2).trans rfl, (blk_cell BK262.out 3).trans rfl⟩ (fun hHeld => ?_)
    generalize w13.drew = w14 at BK262 HB hHeld ⊢
    refine pure_ (i := 0) (N := some 19) (v := ?_) (a' := ?_) #[true, false, false, false, false, false, false] rfl rfl (by kernel_rfl) (fun _ _ _ h => h) (Or.inl ⟨by rfl, ?_⟩) ?_ ?_
    rotate_left
    ·intro w'
     go_simp
     with_reducible rfl
    rotate_left
    ·simp only [Act.put, stA, stZ, stS, i64_w, i32_w]
     rfl
    refine take_ (i := 2) (N := some 21) (v := ?_) (a' := ?_) #[true, false, true, false, false, false, false] rfl rfl (by kernel_rfl) (fun _ _ _ h => h) (Or.inl ⟨by rfl, ?_⟩) hHeld ?_ ?_
    rotate_left
    ·rintro w' ⟨s0, s1, s2, s3⟩
     go_simp
     with_reducible rfl
    rotate_left
    ·simp only [Act.put, stA, stZ, stS, i64_w, i32_w]
     rfl
    refine join_ (σ := Value × Value) 3 #[true, true, true, true, false, false, false] (fun s_ => [(20, s_.1), (22, s_.2)]) (fun s_ w' => (w'.cell? ⟨gb262, 0, none⟩ = some (.int .i64 a2_0) ∧ w'.cell? ⟨gb262, 1, none⟩ = some (.int .i64 a2_1) ∧ w'.cell? ⟨gb262, 2, none⟩ = some (.int .i64 a2_2) ∧ w'.cell? ⟨gb262, 3, none⟩ = some (.int .i64 a2_3)) ∧ (Kd.R k58 58 w' w.heap.size (fun k_ => some k_ ≠ (s_.2 : Value).ownBlock ∧ k_ ≠ gb262) s_.1 t265) ∧ (Kd.R k58 58 w' w.heap.size (fun k_ => some k_ ≠ (s_.1 : Value).ownBlock ∧ k_ ≠ gb262) s_.2 y268) ∧ (w'.heap[gb262]? = some (.cells #[.int .i64 a2_0, .int .i64 a2_1, .int .i64 a2_2, .int .i64 a2_3] 58 (0, 0))) ∧ (Below w.heap.size w w')) ?_ ?_
    rotate_left
    ·intro hCont
     refine two_ (i := 1) (j := 3) (Ni := some 20) (Nj := some 22) #[true, true, true, false, false, false, false] #[true, false, true, true, false, false, false] rfl rfl rfl rfl (by kernel_rfl) (by decide) (by decide) (fun K hK => ?_) (fun K hK => ?_)
     ·skip
      refine goes_ Try.func81 (by kernel_rfl) rfl #[.slice A1 l1.length c1] (by rfl) rfl rfl (by (try simp only [map_toArray, map_cons, map_nil]); rfl) ?_
      with_reducible refine (impl_Event.calls _ _ l1 t265 _ ?side1 ?side2 A8.out).mono ?_
      (case side1 => repeat (exact (C_below HR1.out HB.out)))
      (case side2 => exact HC1.out)
      rintro e w15 ⟨v266, rfl, ho0, hb⟩
      refine ⟨_, rfl, ?_⟩
      have n0_ := Aside0.mk (Kd.R_lower (Kd.R_newB ho0 (g := gb262) (o := .cells #[.int .i64 a2_0, .int .i64 a2_1, .int .i64 a2_2, .int .i64 a2_3] 58 (0, 0)) (by (with_reducible repeat (fail)); exact BK262.out)) (below_size (by repeat ((with_reducible exact HB.out)))))
      have n1_ := Aside0.mk (blk_below (g := gb262) (o := .cells #[.int .i64 a2_0, .int .i64 a2_1, .int .i64 a2_2, .int .i64 a2_3] 58 (0, 0)) (by (with_reducible repeat (fail)); exact BK262.out) hb)
      have n2_ := Aside0.mk (below_step (by repeat ((with_reducible exact HB.out))) hb)
      clear BK262
      clear HB
      have HO267 := n0_
      have BK262 := n1_
      have HB := n2_
      clear n0_ n1_ n2_
      (try clear hb)
      (try clear ho0)
      refine hK.out _ _ ⟨(blk_cell BK262.out 0).trans rfl, (blk_cell BK262.out 1).trans rfl, (blk_cell BK262.out 2).trans rfl, (blk_cell BK262.out 3).trans rfl⟩ (fun hHeld => ?_)
      clear hK K
      refine norm_ (a' := ?_) ?_ ?_
      rotate_left
      ·show Act.put _ (some 20) _ = _
       simp only [Act.put, stA, stZ, stS, i64_w, i32_w]
       rfl
      refine one_ (i := 3) (N := some 22) #[true, true, true, true, false, false, false] rfl rfl (by kernel_rfl) (by decide) (fun K hK => ?_)
      refine Kd.R_lit_step k58 _ 58 ?hg (N := 22) ?hd (xs := ([(⟨a2_0, a2_1, a2_2, a2_3⟩ : S58)] : List (S58))) (inner := [.int .i64 a2_0, .int .i64 a2_1, .int .i64 a2_2, .int .i64 a2_3]) (ok := fun _ => True) (okp := fun _ => True) ?hr ?hp (fun _ hk => hk) trivial (Below.refl _ _) (Nat.le_refl _) (by simp) ?_; (case hd => rfl); (case hg => rfl); (case hr => (go_simp; done)); (case hp => exact (Reps.c4 (show Kd.M k58 _ _ _ (⟨a2_0, a2_1, a2_2, a2_3⟩ : S58) [.int .i64 a2_0, .int .i64 a2_1, .int .i64 a2_2, .int .i64 a2_3] from (k58_mkM _ _ _ (⟨a2_0, a2_1, a2_2, a2_3⟩ : S58) )) (Reps.none _ _)))
      intro v269 w16 ho17 hb hg_ hnew_
      clear hg_ hnew_
      (rw [← Ny268.out] at ho17)
      have n0_ := Aside0.mk (Kd.R_elder' (by (with_reducible repeat (fail)); exact HO267.out) (Kd.R_base ho17) hb)
      have n1_ := Aside0.mk (Kd.R_lower (Kd.R_newB (Kd.R_new' ho17 (Kd.R_lt (by (with_reducible repeat (fail)); exact HO267.out))) (g := gb262) (o := .cells #[.int .i64 a2_0, .int .i64 a2_1, .int .i64 a2_2, .int .i64 a2_3] 58 (0, 0)) (by (with_reducible repeat (fail)); exact BK262.out)) (below_size (by repeat ((with_reducible exact HB.out)))))
      have n2_ := Aside0.mk (blk_below (g := gb262) (o := .cells #[.int .i64 a2_0, .int .i64 a2_1, .int .i64 a2_2, .int .i64 a2_3] 58 (0, 0)) (by (with_reducible repeat (fail)); exact BK262.out) hb)
      have n3_ := Aside0.mk (below_step (by repeat ((with_reducible exact HB.out))) hb)
      clear HO267
      clear BK262
      clear HB
      have HO267 := n0_
      have HO270 := n1_
      have BK262 := n2_
      have HB := n3_
      clear n0_ n1_ n2_ n3_
      clear hb ho17
      refine hK.out _ _ ⟨(blk_cell BK262.out 0).trans rfl, (blk_cell BK262.out 1).trans rfl, (blk_cell BK262.out 2).trans rfl, (blk_cell BK262.out 3).trans rfl⟩ (fun hHeld => ?_)
      clear hK K
      refine norm_ (a' := ?_) ?_ ?_
      rotate_left
      ·show Act.put _ (some 22) _ = _
       simp only [Act.put, stA, stZ, stS, i64_w, i32_w]
       rfl
      exact norm_ (by simp only [putAll, Act.put, stA, stZ, stS]) (hCont (v266, v269) _ ⟨hHeld, (by (with_reducible repeat (fail)); exact Kd.R_mono HO267.out (fun _ hk => ⟨hk.2, hk.1.2⟩)), (by (with_reducible repeat (fail)); exact Kd.R_mono HO270.out (fun _ hk => ⟨hk.1.2, hk.2⟩)), (by (with_reducible repeat (fail)); exact BK262.out), (by repeat ((with_reducible exact HB.out)))⟩)
     ·skip
      refine Kd.R_lit_step k58 _ 58 ?hg (N := 22) ?hd (xs := ([(⟨a2_0, a2_1, a2_2, a2_3⟩ : S58)] : List (S58))) (inner := [.int .i64 a2_0, .int .i64 a2_1, .int .i64 a2_2, .int .i64 a2_3]) (ok := fun _ => True) (okp := fun _ => True) ?hr ?hp (fun _ hk => hk) trivial (Below.refl _ _) (Nat.le_refl _) (by simp) ?_; (case hd => rfl); (case hg => rfl); (case hr => (go_simp; done)); (case hp => exact (Reps.c4 (show Kd.M k58 _ _ _ (⟨a2_0, a2_1, a2_2, a2_3⟩ : S58) [.int .i64 a2_0, .int .i64 a2_1, .int .i64 a2_2, .int .i64 a2_3] from (k58_mkM _ _ _ (⟨a2_0, a2_1, a2_2, a2_3⟩ : S58) )) (Reps.none _ _)))
      intro v269 w15 ho16 hb hg_ hnew_
      clear hg_ hnew_
      (rw [← Ny268.out] at ho16)
      have n0_ := Aside0.mk (Kd.R_lower (Kd.R_newB ho16 (g := gb262) (o := .cells #[.int .i64 a2_0, .int .i64 a2_1, .int .i64 a2_2, .int .i64 a2_3] 58 (0, 0)) (by (with_reducible repeat (fail)); exact BK262.out)) (below_size (by repeat ((with_reducible exact HB.out)))))
      have n1_ := Aside0.mk (blk_below (g := gb262) (o := .cells #[.int .i64 a2_0, .int .i64 a2_1, .int .i64 a2_2, .int .i64 a2_3] 58 (0, 0)) (by (with_reducible repeat (fail)); exact BK262.out) hb)
      have n2_ := Aside0.mk (below_step (by repeat ((with_reducible exact HB.out))) hb)
      clear BK262
      clear HB
      have HO270 := n0_
      have BK262 := n1_
      have HB := n2_
      clear n0_ n1_ n2_
      clear hb ho16
      refine hK.out _ _ ⟨(blk_cell BK262.out 0).trans rfl, (blk_cell BK262.out 1).trans rfl, (blk_cell BK262.out 2).trans rfl, (blk_cell BK262.out 3).trans rfl⟩ (fun hHeld => ?_)
      clear hK K
      refine norm_ (a' := ?_) ?_ ?_
      rotate_left
      ·show Act.put _ (some 22) _ = _
       simp only [Act.put, stA, stZ, stS, i64_w, i32_w]
       rfl
      refine one_ (i := 1) (N := some 20) #[true, true, true, true, false, false, false] rfl rfl (by kernel_rfl) (by decide) (fun K hK => ?_)
      refine goes_ Try.func81 (by kernel_rfl) rfl #[.slice A1 l1.length c1] (by rfl) rfl rfl (by (try simp only [map_toArray, map_cons, map_nil]); rfl) ?_
      with_reducible refine (impl_Event.calls _ _ l1 t265 _ ?side1 ?side2 A8.out).mono ?_
      (case side1 => repeat (exact (C_below HR1.out HB.out)))
      (case side2 => exact HC1.out)
      rintro e w17 ⟨v266, rfl, ho0, hb⟩
      refine ⟨_, rfl, ?_⟩
      have n0_ := Aside0.mk (Kd.R_elder' (by (with_reducible repeat (fail)); exact HO270.out) (Kd.R_base ho0) hb)
      have n1_ := Aside0.mk (Kd.R_lower (Kd.R_newB (Kd.R_new' ho0 (Kd.R_lt (by (with_reducible repeat (fail)); exact HO270.out))) (g := gb262) (o := .cells #[.int .i64 a2_0, .int .i64 a2_1, .int .i64 a2_2, .int .i64 a2_3] 58 (0, 0)) (by (with_reducible repeat (fail)); exact BK262.out)) (below_size (by repeat ((with_reducible exact HB.out)))))
      have n2_ := Aside0.mk (blk_below (g := gb262) (o := .cells #[.int .i64 a2_0, .int .i64 a2_1, .int .i64 a2_2, .int .i64 a2_3] 58 (0, 0)) (by (with_reducible repeat (fail)); exact BK262.out) hb)
      have n3_ := Aside0.mk (below_step (by repeat ((with_reducible exact HB.out))) hb)
      clear HO270
      clear BK262
      clear HB
      have HO270 := n0_
      have HO267 := n1_
      have BK262 := n2_
      have HB := n3_
      clear n0_ n1_ n2_ n3_
      (try clear hb)
      (try clear ho0)
      refine hK.out _ _ ⟨(blk_cell BK262.out 0).trans rfl, (blk_cell BK262.out 1).trans rfl, (blk_cell BK262.out 2).trans rfl, (blk_cell BK262.out 3).trans rfl⟩ (fun hHeld => ?_)
      clear hK K
      refine norm_ (a' := ?_) ?_ ?_
      rotate_left
      ·show Act.put _ (some 20) _ = _
       simp only [Act.put, stA, stZ, stS, i64_w, i32_w]
       rfl
      exact norm_ (by simp only [putAll, Act.put, stA, stZ, stS]) (hCont (v266, v269) _ ⟨hHeld, (by (with_reducible repeat (fail)); exact Kd.R_mono HO267.out (fun _ hk => ⟨hk.1.2, hk.2⟩)), (by (with_reducible repeat (fail)); exact Kd.R_mono HO270.out (fun _ hk => ⟨hk.2, hk.1.2⟩)), (by (with_reducible repeat (fail)); exact BK262.out), (by repeat ((with_reducible exact HB.out)))⟩)
    rintro ⟨v266, v269⟩ w18 ⟨hS_, h0_, h1_, h2_, h3_⟩
    have n0_ : Aside0 (Kd.R k58 58 w18 w.heap.size (fun k_ => some k_ ≠ (v269 : Value).ownBlock ∧ k_ ≠ gb262) v266 t265) := ⟨h0_⟩
    have n1_ : Aside0 (Kd.R k58 58 w18 w.heap.size (fun k_ => some k_ ≠ (v266 : Value).ownBlock ∧ k_ ≠ gb262) v269 y268) := ⟨h1_⟩
    have n2_ : Aside0 (w18.heap[gb262]? = some (.cells #[.int .i64 a2_0, .int .i64 a2_1, .int .i64 a2_2, .int .i64 a2_3] 58 (0, 0))) := ⟨h2_⟩
    have n3_ : Aside0 (Below w.heap.size w w18) := ⟨h3_⟩
    clear BK262
    clear HB
    clear h0_ h1_ h2_ h3_
    have HO267 := n0_
    have HO270 := n1_
    have BK262 := n2_
    have HB := n3_
    clear n0_ n1_ n2_ n3_
    have hHeld : w18.cell? ⟨gb262, 0, none⟩ = some (.int .i64 a2_0) ∧ w18.cell? ⟨gb262, 1, none⟩ = some (.int .i64 a2_1) ∧ w18.cell? ⟨gb262, 2, none⟩ = some (.int .i64 a2_2) ∧ w18.cell? ⟨gb262, 3, none⟩ = some (.int .i64 a2_3) := hS_
    obtain ⟨Ao20, co20, eo20⟩ := Kd.R_slice HO270.out
    (subst eo20)
    refine norm_ (a' := ?_) ?_ ?_
    rotate_left
    ·simp only [putAll, Act.put, stA, stZ, stS]
     rfl
    refine one_ (i := 4) (N := some 23) #[true, true, true, true, true, false, false] rfl rfl (by kernel_rfl) (by decide) (fun K hK => ?_)
    refine Kd.R_append_rows_step k58 (w0 := w) w.heap.size (by rfl) (.tmp 20) (.tmp 22) 53 58 (.agg #[(.int .i64 0), (.int .i64 0), (.int .i64 0), (.int .i64 0)]) 32 rfl Try.underlying53 info58 rfl (by decide) (by omega) v266 t265 y268 _ _ _ (fun k_ => some k_ ≠ (.slice Ao20 y268.length co20 : Value).ownBlock ∧ k_ ≠ gb262) (fun _ => False) rfl rfl ?aO ?aR (fun _ _ h => h) (fun _ h => h.elim) ?aF ?aB ?aS ?aL ?_
    (case aR => repeat (exact (R_reads' HO270.out).2.2))
    (case aB => exact (by repeat ((with_reducible exact HB.out))))
    (case aF => exact (fun k_ hk => ⟨Kd.fresh' (Kd.R_lt (by (with_reducible repeat (fail)); exact HO270.out)) k_ hk, Kd.freshB (g := gb262) (o := .cells #[.int .i64 a2_0, .int .i64 a2_1, .int .i64 a2_2, .int .i64 a2_3] 58 (0, 0)) (by (with_reducible repeat (fail)); exact BK262.out) k_ hk⟩))
    (case aO => exact (by (with_reducible repeat (fail)); exact HO267.out))
    (case aS => exact (below_size (by repeat ((with_reducible exact HB.out)))))
    (case aL => have := LMc9.out; omega)
    intro v272 w19 ho hb hg hat
    rw [← Ny271.out] at ho
    have n0_ := Aside0.mk (blk_grown (g := gb262) (o := .cells #[.int .i64 a2_0, .int .i64 a2_1, .int .i64 a2_2, .int .i64 a2_3] 58 (0, 0)) (by (with_reducible repeat (fail)); exact BK262.out) hg (Kd.R_away HO267.out (fun _ hk => hk.2)))
    have n1_ := Aside0.mk (Kd.R_after (ok := (fun k_ => k_ ≠ gb262)) (by (with_reducible repeat (fail)); exact Kd.R_mono HO270.out (fun _ hk => ⟨hk.2, hk.1⟩)) hg hat)
    have n2_ := Aside0.mk (hb)
    have n3_ := Aside0.mk (ho)
    clear BK262
    clear HO270
    clear HB
    clear HO267
    have BK262 := n0_
    have HO270 := n1_
    have HB := n2_
    have HO273 := n3_
    clear n0_ n1_ n2_ n3_
    clear ho hb hg hat
    refine hK.out _ _ ⟨(blk_cell BK262.out 0).trans rfl, (blk_cell BK262.out 1).trans rfl, (blk_cell BK262.out 2).trans rfl, (blk_cell BK262.out 3).trans rfl⟩ (fun hHeld => ?_)
    clear hK K
    refine norm_ (a' := ?_) ?_ ?_
    rotate_left
    ·show Act.put _ (some 23) _ = _
     simp only [Act.put, stA, stZ, stS, i64_w, i32_w]
     rfl
    refine pure_ (i := 5) (N := some 6) (v := ?_) (a' := ?_) #[true, true, true, true, true, true, false] rfl rfl (by kernel_rfl) (fun _ _ _ h => h) (Or.inl ⟨by rfl, ?_⟩) ?_ ?_
    rotate_left
    ·intro w'
     go_simp
     with_reducible rfl
    rotate_left
    ·simp only [Act.put, stA, stZ, stS, i64_w, i32_w]
     rfl
    refine pure_ (i := 6) (N := some 7) (v := ?_) (a' := ?_) #[true, true, true, true, true, true, true] rfl rfl (by kernel_rfl) (fun _ _ _ h => h) (Or.inl ⟨by rfl, ?_⟩) ?_ ?_
    rotate_left
    ·intro w'
     go_simp
     with_reducible rfl
    rotate_left
    ·simp only [Act.put, stA, stZ, stS, i64_w, i32_w]
     rfl
    refine done_ (by kernel_rfl) ?_
    try go_wp2
    go_ret2
    exact ⟨_, by rfl, by (with_reducible repeat (fail)); exact Kd.R_mono HO273.out (fun _ hk => trivial), by repeat ((with_reducible exact HB.out))⟩
   ·rw [if_neg c9] at H
    exact absurd H (by simp)
  ·replace c7 := Bool.eq_false_iff.mpr c7
   subst c7
   have H1 : ((impl_Event.f l1).bind fun t274 => (some (t274, false))) = some (r1, r2) := by rw [if_neg (show ¬ (false = true) by decide)] at H; exact H
   clear H
   have H := H1
   clear H1
   replace H := bind_eq_some_iff.mp H
   obtain ⟨t274, A210, H⟩ := H
   replace H : (some (t274, false)) = some (r1, r2) := H
   have A21 := Aside0.mk A210
   clear A210
   simp only [Option.some.injEq, Prod.mk.injEq] at H
   obtain ⟨rfl, rfl⟩ := H
   go_enter Try.func53, Try.ntmps53
   go_wp2_with (first | ((with_reducible refine gate_dst (N := 5) rfl ?_); refine box_event ?hg (N := 5) ?hd (cs := #[.int .i64 a2_0, .int .i64 a2_1, .int .i64 a2_2, .int .i64 a2_3]) (t := 58) ?hr ?_; (case hd => rfl); (case hg => rfl); (case hr => (go_simp; done)); intro gb262 hg w22 hbox hb; have n0_ := Aside0.mk (below_step (by repeat ((with_reducible exact HB.out))) hb); have n1_ := Aside0.mk (hbox); have n2_ := Aside0.mk ((by rw [hg]; exact (below_size (by repeat ((with_reducible exact HB.out)))) : w.heap.size ≤ gb262)); have n3_ := Aside0.mk ((by rw [hg]; exact (below_size (by repeat ((with_reducible exact HB.out)))) : w.heap.size ≤ gb262)); clear HB; have HB := n0_; have BK262 := n1_; have GW262 := n2_; have GE262 := n3_; clear n0_ n1_ n2_ n3_; clear hb hbox hg) | ((with_reducible refine gate_callee (f := 42) rfl ?_); refine goesL_ (some 10) rfl rfl Try.func42 (by kernel_rfl) rfl #[.slice A0 l0.length c0, .slice A1 l1.length c1] rfl (by (try simp only [map_toArray, map_cons, map_nil]); rfl) ?_; (with_reducible refine (impl_EventsOk.calls k _ _ l0 _ _ l1 true _ ?side1 ?side2 ?side3 ?side4 A4.out).mono ?_); (case side1 => repeat (exact (C_below HR0.out HB.out))); (case side2 => exact HC0.out); (case side3 => repeat (exact (C_below HR1.out HB.out))); (case side4 => exact HC1.out); rintro e w23 ⟨rfl, hb⟩; refine ⟨_, rfl, ?_⟩; have n0_ := Aside0.mk (blk_below (g := gb262) (o := .cells #[.int .i64 a2_0, .int .i64 a2_1, .int .i64 a2_2, .int .i64 a2_3] 58 (0, 0)) (by (with_reducible repeat (fail)); exact BK262.out) hb); have n1_ := Aside0.mk (below_step (by repeat ((with_reducible exact HB.out))) hb); clear BK262; clear HB; have BK262 := n0_; have HB := n1_; clear n0_ n1_; (try clear hb); skip; have hcz24_0 : w23.cell? ⟨gb262, 0, none⟩ = some (.int .i64 a2_0) := (blk_cell BK262.out 0).trans rfl; have hcz24_1 : w23.cell? ⟨gb262, 1, none⟩ = some (.int .i64 a2_1) := (blk_cell BK262.out 1).trans rfl; have hcz24_2 : w23.cell? ⟨gb262, 2, none⟩ = some (.int .i64 a2_2) := (blk_cell BK262.out 2).trans rfl; have hcz24_3 : w23.cell? ⟨gb262, 3, none⟩ = some (.int .i64 a2_3) := (blk_cell BK262.out 3).trans rfl; have hfz24_0 := blk_frozen BK262.out 0; have hfz24_1 := blk_frozen BK262.out 1; have hfz24_2 := blk_frozen BK262.out 2; have hfz24_3 := blk_frozen BK262.out 3) | ((with_reducible refine gate_callee (f := 78) rfl ?_); refine goesL_ (some 15) rfl rfl Try.func78 (by kernel_rfl) rfl #[.agg #[.int .i64 a2_0, .int .i64 a2_1, .int .i64 a2_2, .int .i64 a2_3], .slice A0 l0.length c0, .slice A1 l1.length c1] rfl (by (try simp only [map_toArray, map_cons, map_nil]); rfl) ?_; (with_reducible refine (impl_Event_fits.calls k a2_0 a2_1 a2_2 a2_3 _ _ l0 _ _ l1 false _ ?side1 ?side2 ?side3 ?side4 A6.out).mono ?_); (case side1 => repeat (exact (C_below HR0.out HB.out))); (case side2 => exact HC0.out); (case side3 => repeat (exact (C_below HR1.out HB.out))); (case side4 => exact HC1.out); rintro e w25 ⟨rfl, hb⟩; refine ⟨_, rfl, ?_⟩; have n0_ := Aside0.mk (blk_below (g := gb262) (o := .cells #[.int .i64 a2_0, .int .i64 a2_1, .int .i64 a2_2, .int .i64 a2_3] 58 (0, 0)) (by (with_reducible repeat (fail)); exact BK262.out) hb); have n1_ := Aside0.mk (below_step (by repeat ((with_reducible exact HB.out))) hb); clear BK262; clear HB; have BK262 := n0_; have HB := n1_; clear n0_ n1_; (try clear hb); skip) | ((with_reducible refine gate_callee (f := 81) rfl ?_); refine goesL_ (some 18) rfl rfl Try.func81 (by kernel_rfl) rfl #[.slice A1 l1.length c1] rfl (by (try simp only [map_toArray, map_cons, map_nil]); rfl) ?_; (with_reducible refine (impl_Event.calls _ _ l1 t274 _ ?side1 ?side2 A21.out).mono ?_); (case side1 => repeat (exact (C_below HR1.out HB.out))); (case side2 => exact HC1.out); rintro e w26 ⟨v275, rfl, ho0, hb⟩; refine ⟨_, rfl, ?_⟩; have n0_ := Aside0.mk (Kd.R_lower (Kd.R_newB ho0 (g := gb262) (o := .cells #[.int .i64 a2_0, .int .i64 a2_1, .int .i64 a2_2, .int .i64 a2_3] 58 (0, 0)) (by (with_reducible repeat (fail)); exact BK262.out)) (below_size (by repeat ((with_reducible exact HB.out))))); have n1_ := Aside0.mk (blk_below (g := gb262) (o := .cells #[.int .i64 a2_0, .int .i64 a2_1, .int .i64 a2_2, .int .i64 a2_3] 58 (0, 0)) (by (with_reducible repeat (fail)); exact BK262.out) hb); have n2_ := Aside0.mk (below_step (by repeat ((with_reducible exact HB.out))) hb); clear BK262; clear HB; have HO276 := n0_; have BK262 := n1_; have HB := n2_; clear n0_ n1_ n2_; (try clear hb); skip; (try clear ho0)))
   go_ret2
   exact ⟨_, by rfl, by (with_reducible repeat (fail)); exact Kd.R_mono HO276.out (fun _ hk => trivial), by repeat ((with_reducible exact HB.out))⟩
 ·replace c5 := Bool.eq_false_iff.mpr c5
  subst c5
  have H1 : (some (([] : List (S58)), false)) = some (r1, r2) := by rw [if_neg (show ¬ (false = true) by decide)] at H; exact H
  clear H
  have H := H1
  clear H1
  simp only [Option.some.injEq, Prod.mk.injEq] at H
  obtain ⟨rfl, rfl⟩ := H
  go_enter Try.func53, Try.ntmps53
  go_wp2_with (first | ((with_reducible refine gate_dst (N := 5) rfl ?_); refine box_event ?hg (N := 5) ?hd (cs := #[.int .i64 a2_0, .int .i64 a2_1, .int .i64 a2_2, .int .i64 a2_3]) (t := 58) ?hr ?_; (case hd => rfl); (case hg => rfl); (case hr => (go_simp; done)); intro gb262 hg w27 hbox hb; have n0_ := Aside0.mk (below_step (by repeat ((with_reducible exact HB.out))) hb); have n1_ := Aside0.mk (hbox); have n2_ := Aside0.mk ((by rw [hg]; exact (below_size (by repeat ((with_reducible exact HB.out)))) : w.heap.size ≤ gb262)); have n3_ := Aside0.mk ((by rw [hg]; exact (below_size (by repeat ((with_reducible exact HB.out)))) : w.heap.size ≤ gb262)); clear HB; have HB := n0_; have BK262 := n1_; have GW262 := n2_; have GE262 := n3_; clear n0_ n1_ n2_ n3_; clear hb hbox hg) | ((with_reducible refine gate_callee (f := 42) rfl ?_); refine goesL_ (some 10) rfl rfl Try.func42 (by kernel_rfl) rfl #[.slice A0 l0.length c0, .slice A1 l1.length c1] rfl (by (try simp only [map_toArray, map_cons, map_nil]); rfl) ?_; (with_reducible refine (impl_EventsOk.calls k _ _ l0 _ _ l1 false _ ?side1 ?side2 ?side3 ?side4 A4.out).mono ?_); (case side1 => repeat (exact (C_below HR0.out HB.out))); (case side2 => exact HC0.out); (case side3 => repeat (exact (C_below HR1.out HB.out))); (case side4 => exact HC1.out); rintro e w28 ⟨rfl, hb⟩; refine ⟨_, rfl, ?_⟩; have n0_ := Aside0.mk (blk_below (g := gb262) (o := .cells #[.int .i64 a2_0, .int .i64 a2_1, .int .i64 a2_2, .int .i64 a2_3] 58 (0, 0)) (by (with_reducible repeat (fail)); exact BK262.out) hb); have n1_ := Aside0.mk (below_step (by repeat ((with_reducible exact HB.out))) hb); clear BK262; clear HB; have BK262 := n0_; have HB := n1_; clear n0_ n1_; (try clear hb); skip))
  go_ret2
  exact ⟨_, by rfl, by exact Kd.R_nil _ _ _ _ _, by repeat ((with_reducible exact HB.out))⟩
end Go.Proofs.Ytcndchcepajmjaa.PFnLetGo
