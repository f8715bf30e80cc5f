-- PRINTED BY print.sh 35421559b90ae4d0a3588c463048766b98c2df88dd9212a6774a882060cdf62d: not written by this session
import Derived.Test.YtbkoifghabnmeaaPFnLaterx0
import Derived.Test.YtbkoifghabnmeaaPFnLaterx1
namespace Go.Proofs.Ytbkoifghabnmeaa.PFnLater
open Go.RowKit Go.Proofs.YtbkoifghabnmeaaW.PrintWords Go.Proofs.YtbkoifghabnmeaaW.PrintLast Go.Proofs.YtbkoifghabnmeaaW.PrintMore
attribute [local go_sem] max2_int min2_int max_two min_two max_three min_three max_four min_four   -- for this text's walks alone
set_option linter.unusedVariables false
set_option linter.unusedSimpArgs false

/-! ### laws_FnLater: function 10 -/
mutual
def laws_FnLater.j0 : Nat → Int → Int → Int → Bool → Option (Bool)
  | 0, _, _, _, _ => none
  | k + 1, x3, x4, x5, x52 => if x52 = true then (some false) else (if x5 ≥ 0 then (if x4 ≥ 0 then ((impl_Later.f k x3 x4).bind fun t178 => ((impl_Later.f k t178 x5).bind fun t179 => ((impl_Later.f k x4 x5).bind fun t180 => ((impl_Later.f k x3 t180).bind fun t181 => (if t179 = t181 then (laws_FnLater.j1 k x3 x4 x5 false) else (laws_FnLater.j1 k x3 x4 x5 (decide (x3 ≥ 0)))))))) else (laws_FnLater.j1 k x3 x4 x5 false)) else (laws_FnLater.j1 k x3 x4 x5 false))
def laws_FnLater.j1 : Nat → Int → Int → Int → Bool → Option (Bool)
  | 0, _, _, _, _ => none
  | k + 1, x3, x4, x5, x75 => if x75 = true then (some false) else (if x3 > x5 then (some true) else ((impl_Later.f k x3 x4).bind fun t182 => ((impl_Later.f k x5 x4).bind fun t183 => (some (decide (t182 ≤ t183))))))
end
def laws_FnLater.f (k : Nat) (l0 : List Int) : Option (Bool) := (laws_big.f l0).bind fun t167 => (if t167 = true then (some true) else ((spec_DrawLater.f k l0).bind fun bt168 => ((spec_DrawBetween.f k l0).bind fun bt170 => ((impl_Later.f k bt168.1 bt168.2).bind fun t172 => ((spec_Later.f bt168.1 bt168.2).bind fun t173 => (if t172 = t173 then (if bt168.2 ≥ 0 then (if t172 < bt168.1 then (laws_FnLater.j0 k bt168.1 bt168.2 bt170.1 true) else (if bt168.2 < 0 then (if t172 > bt168.1 then (laws_FnLater.j0 k bt168.1 bt168.2 bt170.1 true) else ((impl_Later.f k bt168.2 bt168.1).bind fun t174 => (laws_FnLater.j0 k bt168.1 bt168.2 bt170.1 (t172 != t174)))) else ((impl_Later.f k bt168.2 bt168.1).bind fun t175 => (laws_FnLater.j0 k bt168.1 bt168.2 bt170.1 (t172 != t175))))) else (if bt168.2 < 0 then (if t172 > bt168.1 then (laws_FnLater.j0 k bt168.1 bt168.2 bt170.1 true) else ((impl_Later.f k bt168.2 bt168.1).bind fun t176 => (laws_FnLater.j0 k bt168.1 bt168.2 bt170.1 (t172 != t176)))) else ((impl_Later.f k bt168.2 bt168.1).bind fun t177 => (laws_FnLater.j0 k bt168.1 bt168.2 bt170.1 (t172 != t177))))) else (laws_FnLater.j0 k bt168.1 bt168.2 bt170.1 true)))))))
theorem laws_FnLater.mono_l : ∀ k, (∀ y0 y1 y2 y3, LeO (laws_FnLater.j0 k y0 y1 y2 y3) (laws_FnLater.j0 (k + 1) y0 y1 y2 y3)) ∧ (∀ y0 y1 y2 y3, LeO (laws_FnLater.j1 k y0 y1 y2 y3) (laws_FnLater.j1 (k + 1) y0 y1 y2 y3))
  | 0 => ⟨fun _ _ _ _ r h => by simp [laws_FnLater.j0] at h, fun _ _ _ _ r h => by simp [laws_FnLater.j1] at h⟩
  | k + 1 => by
    obtain ⟨ih0, ih1⟩ := laws_FnLater.mono_l k
    refine ⟨?_, ?_⟩
    · intro y0 y1 y2 y3
      unfold laws_FnLater.j0
      repeat' first
      | (with_reducible exact ih0 _ _ _ _)
      | (with_reducible exact ih1 _ _ _ _)
      | (with_reducible exact impl_Later.mono _ _ _)
      | (with_reducible exact spec_DrawBetween.mono _ _)
      | (with_reducible exact spec_DrawLater.mono _ _)
      | (with_reducible exact LeO.refl _)
      | (with_reducible exact LeO.none _)
      | (with_reducible refine LeO.ite ?_ ?_)
      | (with_reducible refine LeO.bind ?_ (fun _ => ?_))
      | exact ih0 _ _ _ _
      | exact ih1 _ _ _ _
      | exact impl_Later.mono _ _ _
      | exact spec_DrawBetween.mono _ _
      | exact spec_DrawLater.mono _ _
      | exact LeO.none _
      | refine LeO.ite ?_ ?_
      | refine LeO.bind ?_ (fun _ => ?_)
    · intro y0 y1 y2 y3
      unfold laws_FnLater.j1
      repeat' first
      | (with_reducible exact ih0 _ _ _ _)
      | (with_reducible exact ih1 _ _ _ _)
      | (with_reducible exact impl_Later.mono _ _ _)
      | (with_reducible exact spec_DrawBetween.mono _ _)
      | (with_reducible exact spec_DrawLater.mono _ _)
      | (with_reducible exact LeO.refl _)
      | (with_reducible exact LeO.none _)
      | (with_reducible refine LeO.ite ?_ ?_)
      | (with_reducible refine LeO.bind ?_ (fun _ => ?_))
      | exact ih0 _ _ _ _
      | exact ih1 _ _ _ _
      | exact impl_Later.mono _ _ _
      | exact spec_DrawBetween.mono _ _
      | exact spec_DrawLater.mono _ _
      | exact LeO.none _
      | refine LeO.ite ?_ ?_
      | refine LeO.bind ?_ (fun _ => ?_)
theorem laws_FnLater.mono : ∀ a0 k, LeO (laws_FnLater.f k a0) (laws_FnLater.f (k + 1) a0) := by
  intro a0 k
  obtain ⟨ih0, ih1⟩ := laws_FnLater.mono_l k
  unfold laws_FnLater.f
  repeat' first
      | (with_reducible exact ih0 _ _ _ _)
      | (with_reducible exact ih1 _ _ _ _)
      | (with_reducible exact impl_Later.mono _ _ _)
      | (with_reducible exact spec_DrawBetween.mono _ _)
      | (with_reducible exact spec_DrawLater.mono _ _)
      | (with_reducible exact LeO.refl _)
      | (with_reducible exact LeO.none _)
      | (with_reducible refine LeO.ite ?_ ?_)
      | (with_reducible refine LeO.bind ?_ (fun _ => ?_))
      | exact ih0 _ _ _ _
      | exact ih1 _ _ _ _
      | exact impl_Later.mono _ _ _
      | exact spec_DrawBetween.mono _ _
      | exact spec_DrawLater.mono _ _
      | exact LeO.none _
      | refine LeO.ite ?_ ?_
      | refine LeO.bind ?_ (fun _ => ?_)
set_option maxHeartbeats 8000000 in
set_option maxRecDepth 100000 in
theorem laws_FnLater.calls (k : Nat) (A0 : Option Addr) (c0 : Nat) (l0 : List Int) (r : Bool) (w : World) (hr0 : Kd.C (Kd.int .u8) w A0 l0.length l0) (hc0 : l0.length ≤ c0) (h : laws_FnLater.f k l0 = some r) :
    Calls Try.prog 10 #[.slice A0 l0.length c0] w fun e w' => e = .returned (.bool r) ∧ Below w.heap.size w w' := by
  have HR0 := Aside0.mk hr0
  have HC0 := Aside0.mk hc0
  clear hr0 hc0
  have HB := Aside0.mk (Below.refl w.heap.size w)
  have H : ((laws_big.f l0).bind fun t167 => (if t167 = true then (some true) else ((spec_DrawLater.f k l0).bind fun bt168 => ((spec_DrawBetween.f k l0).bind fun bt170 => ((impl_Later.f k bt168.1 bt168.2).bind fun t172 => ((spec_Later.f bt168.1 bt168.2).bind fun t173 => (if t172 = t173 then (if bt168.2 ≥ 0 then (if t172 < bt168.1 then (laws_FnLater.j0 k bt168.1 bt168.2 bt170.1 true) else (if bt168.2 < 0 then (if t172 > bt168.1 then (laws_FnLater.j0 k bt168.1 bt168.2 bt170.1 true) else ((impl_Later.f k bt168.2 bt168.1).bind fun t174 => (laws_FnLater.j0 k bt168.1 bt168.2 bt170.1 (t172 != t174)))) else ((impl_Later.f k bt168.2 bt168.1).bind fun t175 => (laws_FnLater.j0 k bt168.1 bt168.2 bt170.1 (t172 != t175))))) else (if bt168.2 < 0 then (if t172 > bt168.1 then (laws_FnLater.j0 k bt168.1 bt168.2 bt170.1 true) else ((impl_Later.f k bt168.2 bt168.1).bind fun t176 => (laws_FnLater.j0 k bt168.1 bt168.2 bt170.1 (t172 != t176)))) else ((impl_Later.f k bt168.2 bt168.1).bind fun t177 => (laws_FnLater.j0 k bt168.1 bt168.2 bt170.1 (t172 != t177))))) else (laws_FnLater.j0 k bt168.1 bt168.2 bt170.1 true)))))))) = some r := h
  clear h
  replace H := Option.bind_eq_some_iff.mp H
  obtain ⟨t167, A20, H⟩ := H
  replace H : (if t167 = true then (some true) else ((spec_DrawLater.f k l0).bind fun bt168 => ((spec_DrawBetween.f k l0).bind fun bt170 => ((impl_Later.f k bt168.1 bt168.2).bind fun t172 => ((spec_Later.f bt168.1 bt168.2).bind fun t173 => (if t172 = t173 then (if bt168.2 ≥ 0 then (if t172 < bt168.1 then (laws_FnLater.j0 k bt168.1 bt168.2 bt170.1 true) else (if bt168.2 < 0 then (if t172 > bt168.1 then (laws_FnLater.j0 k bt168.1 bt168.2 bt170.1 true) else ((impl_Later.f k bt168.2 bt168.1).bind fun t174 => (laws_FnLater.j0 k bt168.1 bt168.2 bt170.1 (t172 != t174)))) else ((impl_Later.f k bt168.2 bt168.1).bind fun t175 => (laws_FnLater.j0 k bt168.1 bt168.2 bt170.1 (t172 != t175))))) else (if bt168.2 < 0 then (if t172 > bt168.1 then (laws_FnLater.j0 k bt168.1 bt168.2 bt170.1 true) else ((impl_Later.f k bt168.2 bt168.1).bind fun t176 => (laws_FnLater.j0 k bt168.1 bt168.2 bt170.1 (t172 != t176)))) else ((impl_Later.f k bt168.2 bt168.1).bind fun t177 => (laws_FnLater.j0 k bt168.1 bt168.2 bt170.1 (t172 != t177))))) else (laws_FnLater.j0 k bt168.1 bt168.2 bt170.1 true))))))) = some r := H
  have A2 := Aside0.mk A20
  clear A20
  by_cases c3 : t167 = true
  · subst c3
    have H1 : (some true) = some r := by rw [if_pos rfl] at H; exact H
    clear H
    have H := H1
    clear H1
    obtain rfl := Option.some.inj H
    go_enter Try.func10, Try.ntmps10
    go_wp2_with (first | ((with_reducible refine gate_callee (f := 29) rfl ?_); refine goesL_ (some 9) rfl rfl Try.func29 (by kernel_rfl) rfl #[.slice A0 l0.length c0] rfl (by (try simp only [List.map_toArray, List.map_cons, List.map_nil]); first | done | rfl | (simp only [List.length_drop, List.length_take]; rfl)) ?_; (with_reducible refine (laws_big.calls _ _ l0 true _ ?side1 ?side2 A2.out).mono ?_); (case side1 => repeat (first | exact HR0.out | (with_reducible refine Kd.C_alloc ?_ _) | (with_reducible refine Kd.C_drewN ?_ _) | (with_reducible refine Kd.C_drew ?_))); (case side2 => exact HC0.out); rintro e w' ⟨rfl, ⟨nd, rfl⟩⟩; refine ⟨_, rfl, ?_⟩))
    go_ret
    exact ⟨by first | rfl | (simp [errW_none, errW_some] <;> rfl) | (simp [*, errW_none, errW_some] <;> rfl), by repeat (first | (with_reducible first | exact HB.out | apply below_alloc | apply pw_below_drewN | apply below_drew1) | exact HB.out)⟩
  · replace c3 := Bool.eq_false_iff.mpr c3
    subst c3
    have H1 : ((spec_DrawLater.f k l0).bind fun bt168 => ((spec_DrawBetween.f k l0).bind fun bt170 => ((impl_Later.f k bt168.1 bt168.2).bind fun t172 => ((spec_Later.f bt168.1 bt168.2).bind fun t173 => (if t172 = t173 then (if bt168.2 ≥ 0 then (if t172 < bt168.1 then (laws_FnLater.j0 k bt168.1 bt168.2 bt170.1 true) else (if bt168.2 < 0 then (if t172 > bt168.1 then (laws_FnLater.j0 k bt168.1 bt168.2 bt170.1 true) else ((impl_Later.f k bt168.2 bt168.1).bind fun t174 => (laws_FnLater.j0 k bt168.1 bt168.2 bt170.1 (t172 != t174)))) else ((impl_Later.f k bt168.2 bt168.1).bind fun t175 => (laws_FnLater.j0 k bt168.1 bt168.2 bt170.1 (t172 != t175))))) else (if bt168.2 < 0 then (if t172 > bt168.1 then (laws_FnLater.j0 k bt168.1 bt168.2 bt170.1 true) else ((impl_Later.f k bt168.2 bt168.1).bind fun t176 => (laws_FnLater.j0 k bt168.1 bt168.2 bt170.1 (t172 != t176)))) else ((impl_Later.f k bt168.2 bt168.1).bind fun t177 => (laws_FnLater.j0 k bt168.1 bt168.2 bt170.1 (t172 != t177))))) else (laws_FnLater.j0 k bt168.1 bt168.2 bt170.1 true)))))) = some r := by rw [if_neg (show ¬ (false = true) by decide)] at H; exact H
    clear H
    have H := H1
    clear H1
    replace H := Option.bind_eq_some_iff.mp H
    obtain ⟨⟨t168, t169⟩, A40, H⟩ := H
    replace H : ((spec_DrawBetween.f k l0).bind fun bt170 => ((impl_Later.f k t168 t169).bind fun t172 => ((spec_Later.f t168 t169).bind fun t173 => (if t172 = t173 then (if t169 ≥ 0 then (if t172 < t168 then (laws_FnLater.j0 k t168 t169 bt170.1 true) else (if t169 < 0 then (if t172 > t168 then (laws_FnLater.j0 k t168 t169 bt170.1 true) else ((impl_Later.f k t169 t168).bind fun t174 => (laws_FnLater.j0 k t168 t169 bt170.1 (t172 != t174)))) else ((impl_Later.f k t169 t168).bind fun t175 => (laws_FnLater.j0 k t168 t169 bt170.1 (t172 != t175))))) else (if t169 < 0 then (if t172 > t168 then (laws_FnLater.j0 k t168 t169 bt170.1 true) else ((impl_Later.f k t169 t168).bind fun t176 => (laws_FnLater.j0 k t168 t169 bt170.1 (t172 != t176)))) else ((impl_Later.f k t169 t168).bind fun t177 => (laws_FnLater.j0 k t168 t169 bt170.1 (t172 != t177))))) else (laws_FnLater.j0 k t168 t169 bt170.1 true))))) = some r := H
    have A4 := Aside0.mk A40
    clear A40
    replace H := Option.bind_eq_some_iff.mp H
    obtain ⟨⟨t170, t171⟩, A50, H⟩ := H
    replace H : ((impl_Later.f k t168 t169).bind fun t172 => ((spec_Later.f t168 t169).bind fun t173 => (if t172 = t173 then (if t169 ≥ 0 then (if t172 < t168 then (laws_FnLater.j0 k t168 t169 t170 true) else (if t169 < 0 then (if t172 > t168 then (laws_FnLater.j0 k t168 t169 t170 true) else ((impl_Later.f k t169 t168).bind fun t174 => (laws_FnLater.j0 k t168 t169 t170 (t172 != t174)))) else ((impl_Later.f k t169 t168).bind fun t175 => (laws_FnLater.j0 k t168 t169 t170 (t172 != t175))))) else (if t169 < 0 then (if t172 > t168 then (laws_FnLater.j0 k t168 t169 t170 true) else ((impl_Later.f k t169 t168).bind fun t176 => (laws_FnLater.j0 k t168 t169 t170 (t172 != t176)))) else ((impl_Later.f k t169 t168).bind fun t177 => (laws_FnLater.j0 k t168 t169 t170 (t172 != t177))))) else (laws_FnLater.j0 k t168 t169 t170 true)))) = some r := H
    have A5 := Aside0.mk A50
    clear A50
    replace H := Option.bind_eq_some_iff.mp H
    obtain ⟨t172, A60, H⟩ := H
    replace H : ((spec_Later.f t168 t169).bind fun t173 => (if t172 = t173 then (if t169 ≥ 0 then (if t172 < t168 then (laws_FnLater.j0 k t168 t169 t170 true) else (if t169 < 0 then (if t172 > t168 then (laws_FnLater.j0 k t168 t169 t170 true) else ((impl_Later.f k t169 t168).bind fun t174 => (laws_FnLater.j0 k t168 t169 t170 (t172 != t174)))) else ((impl_Later.f k t169 t168).bind fun t175 => (laws_FnLater.j0 k t168 t169 t170 (t172 != t175))))) else (if t169 < 0 then (if t172 > t168 then (laws_FnLater.j0 k t168 t169 t170 true) else ((impl_Later.f k t169 t168).bind fun t176 => (laws_FnLater.j0 k t168 t169 t170 (t172 != t176)))) else ((impl_Later.f k t169 t168).bind fun t177 => (laws_FnLater.j0 k t168 t169 t170 (t172 != t177))))) else (laws_FnLater.j0 k t168 t169 t170 true))) = some r := H
    have A6 := Aside0.mk A60
    clear A60
    have HC7 := Aside0.mk H
    clear H
    go_enter Try.func10, Try.ntmps10
    go_upto_region 6 with (first | ((with_reducible refine gate_callee (f := 29) rfl ?_); refine goesL_ (some 9) rfl rfl Try.func29 (by kernel_rfl) rfl #[.slice A0 l0.length c0] rfl (by (try simp only [List.map_toArray, List.map_cons, List.map_nil]); first | done | rfl | (simp only [List.length_drop, List.length_take]; rfl)) ?_; (with_reducible refine (laws_big.calls _ _ l0 false _ ?side1 ?side2 A2.out).mono ?_); (case side1 => repeat (first | exact HR0.out | (with_reducible refine Kd.C_alloc ?_ _) | (with_reducible refine Kd.C_drewN ?_ _) | (with_reducible refine Kd.C_drew ?_))); (case side2 => exact HC0.out); rintro e w' ⟨rfl, ⟨nd, rfl⟩⟩; refine ⟨_, rfl, ?_⟩) | ((with_reducible refine gate_callee (f := 30) rfl ?_); refine goesL_ (some 12) rfl rfl Try.func30 (by kernel_rfl) rfl #[.slice A0 l0.length c0] rfl (by (try simp only [List.map_toArray, List.map_cons, List.map_nil]); first | done | rfl | (simp only [List.length_drop, List.length_take]; rfl)) ?_; (with_reducible refine (spec_DrawLater.calls k _ _ l0 t168 t169 _ ?side1 ?side2 A4.out).mono ?_); (case side1 => repeat (first | exact HR0.out | (with_reducible refine Kd.C_alloc ?_ _) | (with_reducible refine Kd.C_drewN ?_ _) | (with_reducible refine Kd.C_drew ?_))); (case side2 => exact HC0.out); rintro e w8 ⟨rfl, hb⟩; refine ⟨_, rfl, ?_⟩; have n0_ := Aside0.mk (below_step (by repeat (first | (with_reducible first | exact HB.out | apply below_alloc | apply pw_below_drewN | apply below_drew1) | exact HB.out)) hb); clear HB; have HB := n0_; clear n0_; (try clear hb); (try clear hb2); (try clear hk); (try clear hi)) | ((with_reducible refine gate_callee (f := 31) rfl ?_); refine goesL_ (some 17) rfl rfl Try.func31 (by kernel_rfl) rfl #[.slice A0 l0.length c0] rfl (by (try simp only [List.map_toArray, List.map_cons, List.map_nil]); first | done | rfl | (simp only [List.length_drop, List.length_take]; rfl)) ?_; (with_reducible refine (spec_DrawBetween.calls k _ _ l0 t170 t171 _ ?side1 ?side2 A5.out).mono ?_); (case side1 => repeat (first | exact (Kd.C_below HR0.out HB.out) | (with_reducible refine Kd.C_alloc ?_ _) | (with_reducible refine Kd.C_drewN ?_ _) | (with_reducible refine Kd.C_drew ?_))); (case side2 => exact HC0.out); rintro e w9 ⟨rfl, hb⟩; refine ⟨_, rfl, ?_⟩; have n0_ := Aside0.mk (below_step (by repeat (first | (with_reducible first | exact HB.out | apply below_alloc | apply pw_below_drewN | apply below_drew1) | exact HB.out)) hb); clear HB; have HB := n0_; clear n0_; (try clear hb); (try clear hb2); (try clear hk); (try clear hi)) | ((with_reducible refine gate_callee (f := 20) rfl ?_); refine goesL_ (some 22) rfl rfl Try.func20 (by kernel_rfl) rfl #[.int .i64 t168, .int .i64 t169] rfl (by (try simp only [List.map_toArray, List.map_cons, List.map_nil]); first | done | rfl | (simp only [List.length_drop, List.length_take]; rfl)) ?_; (with_reducible refine (impl_Later.calls k t168 t169 t172 _ A6.out).mono ?_); rintro e w' ⟨rfl, ⟨nd, rfl⟩⟩; refine ⟨_, rfl, ?_⟩))
    (try simp only [Act.put, List.setIfInBounds_toArray, List.set_cons_zero, List.set_cons_succ])
    go_cut [52] (fun v52 wc => ∃ (kq : Nat) (x52_6 : Bool), v52 = .bool x52_6 ∧ Aside0 (laws_FnLater.j0 kq t168 t169 t170 x52_6 = some r) ∧ Aside0 (kq ≤ k) ∧ Aside0 (Below w.heap.size w wc))
    case first =>
      have H := HC7.out
      clear HC7
      replace H := Option.bind_eq_some_iff.mp H
      obtain ⟨t173, A100, H⟩ := H
      replace H : (if t172 = t173 then (if t169 ≥ 0 then (if t172 < t168 then (laws_FnLater.j0 k t168 t169 t170 true) else (if t169 < 0 then (if t172 > t168 then (laws_FnLater.j0 k t168 t169 t170 true) else ((impl_Later.f k t169 t168).bind fun t174 => (laws_FnLater.j0 k t168 t169 t170 (t172 != t174)))) else ((impl_Later.f k t169 t168).bind fun t175 => (laws_FnLater.j0 k t168 t169 t170 (t172 != t175))))) else (if t169 < 0 then (if t172 > t168 then (laws_FnLater.j0 k t168 t169 t170 true) else ((impl_Later.f k t169 t168).bind fun t176 => (laws_FnLater.j0 k t168 t169 t170 (t172 != t176)))) else ((impl_Later.f k t169 t168).bind fun t177 => (laws_FnLater.j0 k t168 t169 t170 (t172 != t177))))) else (laws_FnLater.j0 k t168 t169 t170 true)) = some r := H
      have A10 := Aside0.mk A100
      clear A100
      by_cases c11 : t172 = t173
      · rw [if_pos c11] at H
        have c11b0 : (t172 == t173) = true := beq_iff_eq.mpr c11
        have c11b1 : (t172 != t173) = false := bne_eq_false_iff_eq.mpr c11
        clear c11
        (first | rw [c11b0] | (simp only [i64_w, i32_w]; rw [c11b0]) | skip)
        by_cases c12 : t169 ≥ 0
        · rw [if_pos c12] at H
          have c12b0 : decide (0 ≤ t169) = true := decide_eq_true c12
          clear c12
          by_cases c13 : t172 < t168
          · rw [if_pos c13] at H
            have c13b0 : decide (t172 < t168) = true := decide_eq_true c13
            clear c13
            have H' := Aside0.mk H
            clear H
            go_wp2_with (first | ((with_reducible refine gate_callee (f := 19) rfl ?_); refine goesL_ (some 26) rfl rfl Try.func19 (by kernel_rfl) rfl #[.int .i64 t168, .int .i64 t169] rfl (by (try simp only [List.map_toArray, List.map_cons, List.map_nil]); first | done | rfl | (simp only [List.length_drop, List.length_take]; rfl)) ?_; (with_reducible refine (spec_Later.calls t168 t169 t173 _ A10.out).mono ?_); rintro e w' ⟨rfl, ⟨nd, rfl⟩⟩; refine ⟨_, rfl, ?_⟩))
            go_meet
            case rel => exact ⟨_, (true), (by first | rfl | (simp; done) | (simp [*]; done)), H', ⟨by first | omega | exact Nat.le_refl _⟩, ⟨by repeat (first | (with_reducible first | exact HB.out | apply below_alloc | apply pw_below_drewN | apply below_drew1) | exact HB.out)⟩⟩
          · rw [if_neg c13] at H
            have c13b0 : decide (t172 < t168) = false := decide_eq_false c13
            clear c13
            by_cases c14 : t169 < 0
            · rw [if_pos c14] at H
              have c14b0 : decide (t169 < 0) = true := decide_eq_true c14
              clear c14
              by_cases c15 : t172 > t168
              · rw [if_pos c15] at H
                have c15b0 : decide (t168 < t172) = true := decide_eq_true c15
                clear c15
                have H' := Aside0.mk H
                clear H
                go_wp2_with (first | ((with_reducible refine gate_callee (f := 19) rfl ?_); refine goesL_ (some 26) rfl rfl Try.func19 (by kernel_rfl) rfl #[.int .i64 t168, .int .i64 t169] rfl (by (try simp only [List.map_toArray, List.map_cons, List.map_nil]); first | done | rfl | (simp only [List.length_drop, List.length_take]; rfl)) ?_; (with_reducible refine (spec_Later.calls t168 t169 t173 _ A10.out).mono ?_); rintro e w' ⟨rfl, ⟨nd, rfl⟩⟩; refine ⟨_, rfl, ?_⟩))
                go_meet
                case rel => exact ⟨_, (true), (by first | rfl | (simp; done) | (simp [*]; done)), H', ⟨by first | omega | exact Nat.le_refl _⟩, ⟨by repeat (first | (with_reducible first | exact HB.out | apply below_alloc | apply pw_below_drewN | apply below_drew1) | exact HB.out)⟩⟩
              · rw [if_neg c15] at H
                have c15b0 : decide (t168 < t172) = false := decide_eq_false c15
                clear c15
                replace H := Option.bind_eq_some_iff.mp H
                obtain ⟨t174, A160, H⟩ := H
                replace H : (laws_FnLater.j0 k t168 t169 t170 (t172 != t174)) = some r := H
                have A16 := Aside0.mk A160
                clear A160
                have H' := Aside0.mk H
                clear H
                go_wp2_with (first | ((with_reducible refine gate_callee (f := 19) rfl ?_); refine goesL_ (some 26) rfl rfl Try.func19 (by kernel_rfl) rfl #[.int .i64 t168, .int .i64 t169] rfl (by (try simp only [List.map_toArray, List.map_cons, List.map_nil]); first | done | rfl | (simp only [List.length_drop, List.length_take]; rfl)) ?_; (with_reducible refine (spec_Later.calls t168 t169 t173 _ A10.out).mono ?_); rintro e w' ⟨rfl, ⟨nd, rfl⟩⟩; refine ⟨_, rfl, ?_⟩) | (go_at_call 20; (with_reducible refine (impl_Later.calls k t169 t168 t174 _ A16.out).mono ?_); rintro e w' ⟨rfl, ⟨nd, rfl⟩⟩))
                go_meet
                case rel => exact ⟨_, ((t172 != t174)), (by first | rfl | (simp; done) | (simp [*]; done)), H', ⟨by first | omega | exact Nat.le_refl _⟩, ⟨by repeat (first | (with_reducible first | exact HB.out | apply below_alloc | apply pw_below_drewN | apply below_drew1) | exact HB.out)⟩⟩
            · rw [if_neg c14] at H
              have c14b0 : decide (t169 < 0) = false := decide_eq_false c14
              clear c14
              replace H := Option.bind_eq_some_iff.mp H
              obtain ⟨t175, A170, H⟩ := H
              replace H : (laws_FnLater.j0 k t168 t169 t170 (t172 != t175)) = some r := H
              have A17 := Aside0.mk A170
              clear A170
              have H' := Aside0.mk H
              clear H
              go_wp2_with (first | ((with_reducible refine gate_callee (f := 19) rfl ?_); refine goesL_ (some 26) rfl rfl Try.func19 (by kernel_rfl) rfl #[.int .i64 t168, .int .i64 t169] rfl (by (try simp only [List.map_toArray, List.map_cons, List.map_nil]); first | done | rfl | (simp only [List.length_drop, List.length_take]; rfl)) ?_; (with_reducible refine (spec_Later.calls t168 t169 t173 _ A10.out).mono ?_); rintro e w' ⟨rfl, ⟨nd, rfl⟩⟩; refine ⟨_, rfl, ?_⟩) | (go_at_call 20; (with_reducible refine (impl_Later.calls k t169 t168 t175 _ A17.out).mono ?_); rintro e w' ⟨rfl, ⟨nd, rfl⟩⟩))
              go_meet
              case rel => exact ⟨_, ((t172 != t175)), (by first | rfl | (simp; done) | (simp [*]; done)), H', ⟨by first | omega | exact Nat.le_refl _⟩, ⟨by repeat (first | (with_reducible first | exact HB.out | apply below_alloc | apply pw_below_drewN | apply below_drew1) | exact HB.out)⟩⟩
        · rw [if_neg c12] at H
          have c12b0 : decide (0 ≤ t169) = false := decide_eq_false c12
          clear c12
          by_cases c18 : t169 < 0
          · rw [if_pos c18] at H
            have c18b0 : decide (t169 < 0) = true := decide_eq_true c18
            clear c18
            by_cases c19 : t172 > t168
            · rw [if_pos c19] at H
              have c19b0 : decide (t168 < t172) = true := decide_eq_true c19
              clear c19
              have H' := Aside0.mk H
              clear H
              go_wp2_with (first | ((with_reducible refine gate_callee (f := 19) rfl ?_); refine goesL_ (some 26) rfl rfl Try.func19 (by kernel_rfl) rfl #[.int .i64 t168, .int .i64 t169] rfl (by (try simp only [List.map_toArray, List.map_cons, List.map_nil]); first | done | rfl | (simp only [List.length_drop, List.length_take]; rfl)) ?_; (with_reducible refine (spec_Later.calls t168 t169 t173 _ A10.out).mono ?_); rintro e w' ⟨rfl, ⟨nd, rfl⟩⟩; refine ⟨_, rfl, ?_⟩))
              go_meet
              case rel => exact ⟨_, (true), (by first | rfl | (simp; done) | (simp [*]; done)), H', ⟨by first | omega | exact Nat.le_refl _⟩, ⟨by repeat (first | (with_reducible first | exact HB.out | apply below_alloc | apply pw_below_drewN | apply below_drew1) | exact HB.out)⟩⟩
            · rw [if_neg c19] at H
              have c19b0 : decide (t168 < t172) = false := decide_eq_false c19
              clear c19
              replace H := Option.bind_eq_some_iff.mp H
              obtain ⟨t176, A200, H⟩ := H
              replace H : (laws_FnLater.j0 k t168 t169 t170 (t172 != t176)) = some r := H
              have A20 := Aside0.mk A200
              clear A200
              have H' := Aside0.mk H
              clear H
              go_wp2_with (first | ((with_reducible refine gate_callee (f := 19) rfl ?_); refine goesL_ (some 26) rfl rfl Try.func19 (by kernel_rfl) rfl #[.int .i64 t168, .int .i64 t169] rfl (by (try simp only [List.map_toArray, List.map_cons, List.map_nil]); first | done | rfl | (simp only [List.length_drop, List.length_take]; rfl)) ?_; (with_reducible refine (spec_Later.calls t168 t169 t173 _ A10.out).mono ?_); rintro e w' ⟨rfl, ⟨nd, rfl⟩⟩; refine ⟨_, rfl, ?_⟩) | (go_at_call 20; (with_reducible refine (impl_Later.calls k t169 t168 t176 _ A20.out).mono ?_); rintro e w' ⟨rfl, ⟨nd, rfl⟩⟩))
              go_meet
              case rel => exact ⟨_, ((t172 != t176)), (by first | rfl | (simp; done) | (simp [*]; done)), H', ⟨by first | omega | exact Nat.le_refl _⟩, ⟨by repeat (first | (with_reducible first | exact HB.out | apply below_alloc | apply pw_below_drewN | apply below_drew1) | exact HB.out)⟩⟩
          · rw [if_neg c18] at H
            have c18b0 : decide (t169 < 0) = false := decide_eq_false c18
            clear c18
            replace H := Option.bind_eq_some_iff.mp H
            obtain ⟨t177, A210, H⟩ := H
            replace H : (laws_FnLater.j0 k t168 t169 t170 (t172 != t177)) = some r := H
            have A21 := Aside0.mk A210
            clear A210
            have H' := Aside0.mk H
            clear H
            go_wp2_with (first | ((with_reducible refine gate_callee (f := 19) rfl ?_); refine goesL_ (some 26) rfl rfl Try.func19 (by kernel_rfl) rfl #[.int .i64 t168, .int .i64 t169] rfl (by (try simp only [List.map_toArray, List.map_cons, List.map_nil]); first | done | rfl | (simp only [List.length_drop, List.length_take]; rfl)) ?_; (with_reducible refine (spec_Later.calls t168 t169 t173 _ A10.out).mono ?_); rintro e w' ⟨rfl, ⟨nd, rfl⟩⟩; refine ⟨_, rfl, ?_⟩) | (go_at_call 20; (with_reducible refine (impl_Later.calls k t169 t168 t177 _ A21.out).mono ?_); rintro e w' ⟨rfl, ⟨nd, rfl⟩⟩))
            go_meet
            case rel => exact ⟨_, ((t172 != t177)), (by first | rfl | (simp; done) | (simp [*]; done)), H', ⟨by first | omega | exact Nat.le_refl _⟩, ⟨by repeat (first | (with_reducible first | exact HB.out | apply below_alloc | apply pw_below_drewN | apply below_drew1) | exact HB.out)⟩⟩
      · rw [if_neg c11] at H
        have c11b0 : (t172 == t173) = false := beq_eq_false_iff_ne.mpr c11
        have c11b1 : (t172 != t173) = true := bne_iff_ne.mpr c11
        (first | rw [c11b0] | (simp only [i64_w, i32_w]; rw [c11b0]) | skip)
        have H' := Aside0.mk H
        clear H
        go_wp2_with (first | ((with_reducible refine gate_callee (f := 19) rfl ?_); refine goesL_ (some 26) rfl rfl Try.func19 (by kernel_rfl) rfl #[.int .i64 t168, .int .i64 t169] rfl (by (try simp only [List.map_toArray, List.map_cons, List.map_nil]); first | done | rfl | (simp only [List.length_drop, List.length_take]; rfl)) ?_; (with_reducible refine (spec_Later.calls t168 t169 t173 _ A10.out).mono ?_); rintro e w' ⟨rfl, ⟨nd, rfl⟩⟩; refine ⟨_, rfl, ?_⟩))
        go_meet
        case rel => exact ⟨_, (true), (by first | rfl | (simp; done) | (simp [*]; done)), H', ⟨by first | omega | exact Nat.le_refl _⟩, ⟨by repeat (first | (with_reducible first | exact HB.out | apply below_alloc | apply pw_below_drewN | apply below_drew1) | exact HB.out)⟩⟩
    case rest =>
      clear HC7
      try clear c1
      try clear c2
      try clear p2
      try clear c3
      try clear c10
      try clear c11
      try clear c11b0
      try clear c11b1
      try clear c12
      try clear c12b0
      try clear c13
      try clear c13b0
      try clear c14
      try clear c14b0
      try clear c15
      try clear c15b0
      try clear c18
      try clear c18b0
      try clear c19
      try clear c19b0
      try clear c20
      obtain ⟨kq, x52_6, rfl, HA, HJ6, HB⟩ := hcut
      cases kq with
      | zero => exact absurd HA.out (by simp [laws_FnLater.j0])
      | succ kj6 =>
        have H := HA.out
        clear HA
        simp only [laws_FnLater.j0] at H
        by_cases c22 : x52_6 = true
        · subst c22
          have H1 : (some false) = some r := by rw [if_pos rfl] at H; exact H
          clear H
          have H := H1
          clear H1
          obtain rfl := Option.some.inj H
          go_wp2
          go_ret
          exact ⟨by first | rfl | (simp [errW_none, errW_some] <;> rfl) | (simp [*, errW_none, errW_some] <;> rfl), by repeat (first | (with_reducible first | exact HB.out | apply below_alloc | apply pw_below_drewN | apply below_drew1) | exact HB.out)⟩
        · replace c22 := Bool.eq_false_iff.mpr c22
          subst c22
          have H1 : (if t170 ≥ 0 then (if t169 ≥ 0 then ((impl_Later.f kj6 t168 t169).bind fun t178 => ((impl_Later.f kj6 t178 t170).bind fun t179 => ((impl_Later.f kj6 t169 t170).bind fun t180 => ((impl_Later.f kj6 t168 t180).bind fun t181 => (if t179 = t181 then (laws_FnLater.j1 kj6 t168 t169 t170 false) else (laws_FnLater.j1 kj6 t168 t169 t170 (decide (t168 ≥ 0)))))))) else (laws_FnLater.j1 kj6 t168 t169 t170 false)) else (laws_FnLater.j1 kj6 t168 t169 t170 false)) = some r := by rw [if_neg (show ¬ (false = true) by decide)] at H; exact H
          clear H
          have H := H1
          clear H1
          have HC23 := Aside0.mk H
          clear H
          go_upto_region 8 with (fail)
          go_cut [75] (fun v75 wc => ∃ (kq : Nat) (x75_22 : Bool), v75 = .bool x75_22 ∧ Aside0 (laws_FnLater.j1 kq t168 t169 t170 x75_22 = some r) ∧ Aside0 (kq ≤ kj6) ∧ Aside0 (Below w.heap.size w wc))
          case first =>
            have H := HC23.out
            clear HC23
            by_cases c24 : t170 ≥ 0
            · rw [if_pos c24] at H
              have c24b0 : decide (0 ≤ t170) = true := decide_eq_true c24
              clear c24
              (first | rw [c24b0] | (simp only [i64_w, i32_w]; rw [c24b0]) | skip)
              by_cases c25 : t169 ≥ 0
              · rw [if_pos c25] at H
                have c25b0 : decide (0 ≤ t169) = true := decide_eq_true c25
                clear c25
                replace H := Option.bind_eq_some_iff.mp H
                obtain ⟨t178, A260, H⟩ := H
                replace H : ((impl_Later.f kj6 t178 t170).bind fun t179 => ((impl_Later.f kj6 t169 t170).bind fun t180 => ((impl_Later.f kj6 t168 t180).bind fun t181 => (if t179 = t181 then (laws_FnLater.j1 kj6 t168 t169 t170 false) else (laws_FnLater.j1 kj6 t168 t169 t170 (decide (t168 ≥ 0))))))) = some r := H
                have A26 := Aside0.mk A260
                clear A260
                replace H := Option.bind_eq_some_iff.mp H
                obtain ⟨t179, A270, H⟩ := H
                replace H : ((impl_Later.f kj6 t169 t170).bind fun t180 => ((impl_Later.f kj6 t168 t180).bind fun t181 => (if t179 = t181 then (laws_FnLater.j1 kj6 t168 t169 t170 false) else (laws_FnLater.j1 kj6 t168 t169 t170 (decide (t168 ≥ 0)))))) = some r := H
                have A27 := Aside0.mk A270
                clear A270
                replace H := Option.bind_eq_some_iff.mp H
                obtain ⟨t180, A280, H⟩ := H
                replace H : ((impl_Later.f kj6 t168 t180).bind fun t181 => (if t179 = t181 then (laws_FnLater.j1 kj6 t168 t169 t170 false) else (laws_FnLater.j1 kj6 t168 t169 t170 (decide (t168 ≥ 0))))) = some r := H
                have A28 := Aside0.mk A280
                clear A280
                replace H := Option.bind_eq_some_iff.mp H
                obtain ⟨t181, A290, H⟩ := H
                replace H : (if t179 = t181 then (laws_FnLater.j1 kj6 t168 t169 t170 false) else (laws_FnLater.j1 kj6 t168 t169 t170 (decide (t168 ≥ 0)))) = some r := H
                have A29 := Aside0.mk A290
                clear A290
                by_cases c30 : t179 = t181
                · rw [if_pos c30] at H
                  have c30b0 : (t179 == t181) = true := beq_iff_eq.mpr c30
                  have c30b1 : (t179 != t181) = false := bne_eq_false_iff_eq.mpr c30
                  clear c30
                  have H' := Aside0.mk H
                  clear H
                  go_wp2_with (first | (go_at_call 20; (with_reducible refine (impl_Later.calls kj6 t168 t169 t178 _ A26.out).mono ?_); rintro e w' ⟨rfl, ⟨nd, rfl⟩⟩) | (go_at_call 20; (with_reducible refine (impl_Later.calls kj6 t178 t170 t179 _ A27.out).mono ?_); rintro e w' ⟨rfl, ⟨nd, rfl⟩⟩) | (go_at_call 20; (with_reducible refine (impl_Later.calls kj6 t169 t170 t180 _ A28.out).mono ?_); rintro e w' ⟨rfl, ⟨nd, rfl⟩⟩) | (go_at_call 20; (with_reducible refine (impl_Later.calls kj6 t168 t180 t181 _ A29.out).mono ?_); rintro e w' ⟨rfl, ⟨nd, rfl⟩⟩))
                  go_meet
                  case rel => exact ⟨_, (false), (by first | rfl | (simp; done) | (simp [*]; done)), H', ⟨by have := HJ6.out; first | omega | exact Nat.le_refl _⟩, ⟨by repeat (first | (with_reducible first | exact HB.out | apply below_alloc | apply pw_below_drewN | apply below_drew1) | exact HB.out)⟩⟩
                · rw [if_neg c30] at H
                  have c30b0 : (t179 == t181) = false := beq_eq_false_iff_ne.mpr c30
                  have c30b1 : (t179 != t181) = true := bne_iff_ne.mpr c30
                  have H' := Aside0.mk H
                  clear H
                  go_wp2_with (first | (go_at_call 20; (with_reducible refine (impl_Later.calls kj6 t168 t169 t178 _ A26.out).mono ?_); rintro e w' ⟨rfl, ⟨nd, rfl⟩⟩) | (go_at_call 20; (with_reducible refine (impl_Later.calls kj6 t178 t170 t179 _ A27.out).mono ?_); rintro e w' ⟨rfl, ⟨nd, rfl⟩⟩) | (go_at_call 20; (with_reducible refine (impl_Later.calls kj6 t169 t170 t180 _ A28.out).mono ?_); rintro e w' ⟨rfl, ⟨nd, rfl⟩⟩) | (go_at_call 20; (with_reducible refine (impl_Later.calls kj6 t168 t180 t181 _ A29.out).mono ?_); rintro e w' ⟨rfl, ⟨nd, rfl⟩⟩))
                  go_meet
                  case rel => exact ⟨_, (decide (t168 ≥ 0)), (by first | rfl | (simp; done) | (simp [*]; done)), H', ⟨by have := HJ6.out; first | omega | exact Nat.le_refl _⟩, ⟨by repeat (first | (with_reducible first | exact HB.out | apply below_alloc | apply pw_below_drewN | apply below_drew1) | exact HB.out)⟩⟩
              · rw [if_neg c25] at H
                have c25b0 : decide (0 ≤ t169) = false := decide_eq_false c25
                clear c25
                have H' := Aside0.mk H
                clear H
                go_wp2
                go_meet
                case rel => exact ⟨_, (false), (by first | rfl | (simp; done) | (simp [*]; done)), H', ⟨by have := HJ6.out; first | omega | exact Nat.le_refl _⟩, ⟨by repeat (first | (with_reducible first | exact HB.out | apply below_alloc | apply pw_below_drewN | apply below_drew1) | exact HB.out)⟩⟩
            · rw [if_neg c24] at H
              have c24b0 : decide (0 ≤ t170) = false := decide_eq_false c24
              clear c24
              (first | rw [c24b0] | (simp only [i64_w, i32_w]; rw [c24b0]) | skip)
              have H' := Aside0.mk H
              clear H
              go_wp2
              go_meet
              case rel => exact ⟨_, (false), (by first | rfl | (simp; done) | (simp [*]; done)), H', ⟨by have := HJ6.out; first | omega | exact Nat.le_refl _⟩, ⟨by repeat (first | (with_reducible first | exact HB.out | apply below_alloc | apply pw_below_drewN | apply below_drew1) | exact HB.out)⟩⟩
          case rest =>
            clear HC23
            try clear c1
            try clear c2
            try clear p2
            try clear c3
            try clear c10
            try clear c11
            try clear c11b0
            try clear c11b1
            try clear c12
            try clear c12b0
            try clear c13
            try clear c13b0
            try clear c14
            try clear c14b0
            try clear c15
            try clear c15b0
            try clear c18
            try clear c18b0
            try clear c19
            try clear c19b0
            try clear c20
            try clear c22
            try clear c24
            try clear c24b0
            try clear c25
            try clear c25b0
            try clear c29
            try clear c30
            try clear c30b0
            try clear c30b1
            try clear p2
            obtain ⟨kq, x75_22, rfl, HA, HJ22, HB⟩ := hcut
            cases kq with
            | zero => exact absurd HA.out (by simp [laws_FnLater.j1])
            | succ kj22 =>
              have H := HA.out
              clear HA
              simp only [laws_FnLater.j1] at H
              by_cases c31 : x75_22 = true
              · subst c31
                have H1 : (some false) = some r := by rw [if_pos rfl] at H; exact H
                clear H
                have H := H1
                clear H1
                obtain rfl := Option.some.inj H
                go_wp2
                go_ret
                exact ⟨by first | rfl | (simp [errW_none, errW_some] <;> rfl) | (simp [*, errW_none, errW_some] <;> rfl), by repeat (first | (with_reducible first | exact HB.out | apply below_alloc | apply pw_below_drewN | apply below_drew1) | exact HB.out)⟩
              · replace c31 := Bool.eq_false_iff.mpr c31
                subst c31
                have H1 : (if t168 > t170 then (some true) else ((impl_Later.f kj22 t168 t169).bind fun t182 => ((impl_Later.f kj22 t170 t169).bind fun t183 => (some (decide (t182 ≤ t183)))))) = some r := by rw [if_neg (show ¬ (false = true) by decide)] at H; exact H
                clear H
                have H := H1
                clear H1
                by_cases c32 : t168 > t170
                · rw [if_pos c32] at H
                  have c32b0 : decide (t170 < t168) = true := decide_eq_true c32
                  clear c32
                  obtain rfl := Option.some.inj H
                  go_wp2
                  go_ret
                  exact ⟨by first | rfl | (simp [errW_none, errW_some] <;> rfl) | (simp [*, errW_none, errW_some] <;> rfl), by repeat (first | (with_reducible first | exact HB.out | apply below_alloc | apply pw_below_drewN | apply below_drew1) | exact HB.out)⟩
                · rw [if_neg c32] at H
                  have c32b0 : decide (t170 < t168) = false := decide_eq_false c32
                  clear c32
                  replace H := Option.bind_eq_some_iff.mp H
                  obtain ⟨t182, A330, H⟩ := H
                  replace H : ((impl_Later.f kj22 t170 t169).bind fun t183 => (some (decide (t182 ≤ t183)))) = some r := H
                  have A33 := Aside0.mk A330
                  clear A330
                  replace H := Option.bind_eq_some_iff.mp H
                  obtain ⟨t183, A340, H⟩ := H
                  replace H : (some (decide (t182 ≤ t183))) = some r := H
                  have A34 := Aside0.mk A340
                  clear A340
                  obtain rfl := Option.some.inj H
                  go_wp2_with (first | (go_at_call 20; (with_reducible refine (impl_Later.calls kj22 t168 t169 t182 _ A33.out).mono ?_); rintro e w' ⟨rfl, ⟨nd, rfl⟩⟩) | (go_at_call 20; (with_reducible refine (impl_Later.calls kj22 t170 t169 t183 _ A34.out).mono ?_); rintro e w' ⟨rfl, ⟨nd, rfl⟩⟩))
                  go_ret
                  exact ⟨by first | rfl | (simp [errW_none, errW_some] <;> rfl) | (simp [*, errW_none, errW_some] <;> rfl), by repeat (first | (with_reducible first | exact HB.out | apply below_alloc | apply pw_below_drewN | apply below_drew1) | exact HB.out)⟩

/-- THE ONE PURE STATEMENT of laws_FnLater: yours. -/
def laws_FnLater.Pure : Prop := ∀ (l0 : List Int), l0.length ≤ maxLen → l0.length * 1 ≤ 140737488351232 → (∀ x ∈ l0, (Lit.int .u8 x).wf = true) → ∃ k, laws_FnLater.f k l0 = some true
theorem laws_FnLater.walk (P : laws_FnLater.Pure) (a0 : Option Addr) (len0 cap0 : Nat) (z0 : List Int) (w : World) (w0 : (a0 = none ∧ len0 = 0 ∧ cap0 = 0 ∧ z0 = []) ∨ ∃ x, a0 = some x ∧ len0 ≤ cap0 ∧ cap0 ≤ maxLen ∧ z0.length = cap0 ∧ (∀ i, i < z0.length → w.cell? (x.add i) = some (.int .u8 (z0.getD i 0))) ∧ ∀ n ∈ z0, (Lit.int .u8 n).wf = true) (y0 : len0 * 1 ≤ 140737488351232) :
    Calls Try.prog 10 #[.slice a0 len0 cap0] w fun e w' => e = .returned (.bool true) ∧ Below w.heap.size w w' := by
  obtain ⟨l0, rfl, hr0, hm0, hw0, hc0⟩ := ReadsInt.ofRowC w0
  obtain ⟨k, h⟩ := P l0 hm0 y0 hw0
  refine (laws_FnLater.calls k _ _ l0 true w (Kd.C_of_reads (d := (0 : Int)) (h1 := fun _ => rfl) hr0) hc0 h).mono ?_
  rintro e w' ⟨rfl, hd⟩
  exact ⟨rfl, hd⟩

end Go.Proofs.Ytbkoifghabnmeaa.PFnLater
