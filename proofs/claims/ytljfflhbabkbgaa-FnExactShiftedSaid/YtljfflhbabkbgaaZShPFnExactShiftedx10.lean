/- Texts of the claim of the law FnExactShifted, made smaller by a program of this session: what the claim does not use is left out. No condition. -/
import Derived.Test.YtljfflhbabkbgaaZShPFnExactShiftedx0
import Derived.Test.YtljfflhbabkbgaaZShPFnExactShiftedx6
import Derived.Test.YtljfflhbabkbgaaZShPFnExactShiftedx7
import Derived.Test.YtljfflhbabkbgaaZShPFnExactShiftedx9
namespace Go.Proofs.Ytljfflhbabkbgaa.PFnExactShifted
open Go.RowKit Go.Proofs.YtljfflhbabkbgaaW.PrintWords Go.Proofs.YtljfflhbabkbgaaW.PrintLast Go.Proofs.YtljfflhbabkbgaaW.PrintMore
open List (setIfInBounds_toArray set_cons_zero set_cons_succ map_toArray map_cons map_nil length_drop length_take)
open Option (bind_eq_some_iff)
open Go.World (block_lt_of_cell?)
open Kd (R_drew R_drewN R_alloc C_drewN C_drew C_alloc R_reads' C_below)
attribute [local go_sem] max2_int min2_int max_two min_two max_three min_three max_four min_four   -- for this text's walks alone
set_option linter.unusedVariables false
set_option linter.unusedSimpArgs false
def impl_merge.f : Nat → List (S31) → List (S31) → Option ((List (S31)))
  | 0, _, _ => none
  | k + 1, l0, l1 => if (l0.length : Int) = 0 then ((impl_Twig_72.f l1).bind fun t331 => (some t331)) else (if (l1.length : Int) = 0 then ((impl_Twig_72.f l0).bind fun t334 => (some t334)) else (if 0 < (l1.length : Int) then (if 0 < (l0.length : Int) then ((impl_Twig_compare.f k ((rd_T31 l1 0).f0) ((rd_T31 l1 0).f1) ((rd_T31 l1 0).f2) ((rd_T31 l0 0).f0) ((rd_T31 l0 0).f1) ((rd_T31 l0 0).f2)).bind fun t339 => (if t339 < 0 then ((impl_parts.f l1).bind fun bt340 => ((impl_merge.f k bt340.2 l0).bind fun t347 => ((impl_joined.f k ((rd_T31 l1 0).f0) ((rd_T31 l1 0).f1) ((rd_T31 l1 0).f2) bt340.1 t347).bind fun t350 => (some t350)))) else ((impl_parts.f l0).bind fun bt353 => ((impl_merge.f k bt353.2 l1).bind fun t360 => ((impl_joined.f k ((rd_T31 l0 0).f0) ((rd_T31 l0 0).f1) ((rd_T31 l0 0).f2) bt353.1 t360).bind fun t363 => (some t363)))))) else (none)) else (none)))
def impl_merge.T5 : Bool × List (List Nat × List Nat) := (true, [([], []), ([0], [0]), ([1], [1]), ([], []), ([3], [3]), ([4], [4]), ([2, 5], [2, 5]), ([6], [6])])
def impl_merge.B5 : List Nat := [0, 1, 3, 0, 8, 24, 63, 127]
theorem impl_merge.tab5 : rtab .any (opsOf Try.f58 5) = impl_merge.T5 := by kernel_rfl
theorem impl_merge.bits5 : waitsOk impl_merge.T5.2 impl_merge.B5 = true := by kernel_rfl
def impl_merge.T8 : Bool × List (List Nat × List Nat) := (true, [([], []), ([0], [0]), ([1], [1]), ([], []), ([], []), ([], []), ([4, 5], [4, 5]), ([2, 3, 6, 6], [2, 3, 6]), ([7, 7, 0, 1, 2, 3, 4, 5, 6, 7], [7])])
def impl_merge.B8 : List Nat := [0, 1, 3, 0, 0, 0, 48, 127, 255]
theorem impl_merge.tab8 : rtab .any (opsOf Try.f58 8) = impl_merge.T8 := by kernel_rfl
theorem impl_merge.bits8 : waitsOk impl_merge.T8.2 impl_merge.B8 = true := by kernel_rfl
set_option maxHeartbeats 8000000 in
set_option maxRecDepth 100000 in
theorem impl_merge.calls (k : Nat) : ∀ (A0 : Option Addr) (c0 : Nat) (l0 : List (S31)) (A1 : Option Addr) (c1 : Nat) (l1 : List (S31)) (r : List (S31)) (w : World) (hr0 : Kd.C k31 w A0 l0.length l0) (hc0 : l0.length ≤ c0) (hr1 : Kd.C k31 w A1 l1.length l1) (hc1 : l1.length ≤ c1) (h : impl_merge.f k l0 l1 = some r),
    Calls Try.prog 58 #[.slice A0 l0.length c0, .slice A1 l1.length c1] w fun e w' => ∃ v0_ : Value, e = .returned (v0_) ∧ Kd.R k31 31 w' w.heap.size (fun _ => True) v0_ r ∧ Below w.heap.size w w' := by
  induction k using Nat.strongRecOn with
  | _ k ih =>
  intro A0 c0 l0 A1 c1 l1 r w hr0 hc0 hr1 hc1 h
  cases k with
  | zero => exact absurd h (by simp [impl_merge.f])
  | succ k =>
  simp only [impl_merge.f] at h
  have hu31 := Try.underlying31
  have HR0 := Aside0.mk hr0
  have HC0 := Aside0.mk hc0
  clear hr0 hc0
  have HR1 := Aside0.mk hr1
  have HC1 := Aside0.mk hc1
  clear hr1 hc1
  have HB := Aside0.mk (Below.refl w.heap.size w)
  have H : (if (l0.length : Int) = 0 then ((impl_Twig_72.f l1).bind fun t331 => (some t331)) else (if (l1.length : Int) = 0 then ((impl_Twig_72.f l0).bind fun t334 => (some t334)) else (if 0 < (l1.length : Int) then (if 0 < (l0.length : Int) then ((impl_Twig_compare.f k ((rd_T31 l1 0).f0) ((rd_T31 l1 0).f1) ((rd_T31 l1 0).f2) ((rd_T31 l0 0).f0) ((rd_T31 l0 0).f1) ((rd_T31 l0 0).f2)).bind fun t339 => (if t339 < 0 then ((impl_parts.f l1).bind fun bt340 => ((impl_merge.f k bt340.2 l0).bind fun t347 => ((impl_joined.f k ((rd_T31 l1 0).f0) ((rd_T31 l1 0).f1) ((rd_T31 l1 0).f2) bt340.1 t347).bind fun t350 => (some t350)))) else ((impl_parts.f l0).bind fun bt353 => ((impl_merge.f k bt353.2 l1).bind fun t360 => ((impl_joined.f k ((rd_T31 l0 0).f0) ((rd_T31 l0 0).f1) ((rd_T31 l0 0).f2) bt353.1 t360).bind fun t363 => (some t363)))))) else (none)) else (none)))) = some r := h
  clear h
  by_cases c3 : (l0.length : Int) = 0
  · rw [if_pos c3] at H
    have c3b0 : ((l0.length : Int) == 0) = true := beq_iff_eq.mpr c3
    have c3b1 : ((l0.length : Int) != 0) = false := bne_eq_false_iff_eq.mpr c3
    clear c3
    replace H := bind_eq_some_iff.mp H
    obtain ⟨t331, A40, H⟩ := H
    replace H : (some t331) = some r := H
    have A4 := Aside0.mk A40
    clear A40
    obtain rfl := Option.some.inj H
    go_enter Try.func58, Try.ntmps58
    go_wp2_with (first | ((with_reducible refine gate_callee (f := 72) rfl ?_); refine goesL_ (some 11) rfl rfl Try.func72 (by kernel_rfl) rfl #[.slice A1 l1.length c1] rfl (by (try simp only [map_toArray, map_cons, map_nil]); first | done | rfl | (simp only [length_drop, length_take]; rfl)) ?_; (with_reducible refine (impl_Twig_72.calls _ _ l1 t331 _ ?side1 ?side2 A4.out).mono ?_); (case side1 => repeat (first | exact HR1.out | (with_reducible refine C_alloc ?_ _) | (with_reducible refine C_drewN ?_ _) | (with_reducible refine C_drew ?_))); (case side2 => exact HC1.out); rintro e w5 ⟨v332, rfl, ho0, hb⟩; refine ⟨_, rfl, ?_⟩; have n0_ := Aside0.mk (Kd.R_lower ho0 (below_size (by repeat (first | (with_reducible first | exact HB.out | apply below_alloc | apply pw_below_drewN | apply below_drew1) | exact HB.out)))); have n1_ := Aside0.mk (below_step (by repeat (first | (with_reducible first | exact HB.out | apply below_alloc | apply pw_below_drewN | apply below_drew1) | exact HB.out)) hb); clear HB; have HO333 := n0_; have HB := n1_; clear n0_ n1_; (try clear hb); (try clear hb2); (try clear hk); (try clear hi); (try clear ho0)))
    go_ret
    exact ⟨_, by first | rfl | (simp [errW_none, errW_some] <;> rfl) | (simp [*, errW_none, errW_some] <;> rfl), by (with_reducible repeat (first | apply R_alloc | apply R_drewN | apply R_drew)); exact HO333.out, by repeat (first | (with_reducible first | exact HB.out | apply below_alloc | apply pw_below_drewN | apply below_drew1) | exact HB.out)⟩
  · rw [if_neg c3] at H
    have c3b0 : ((l0.length : Int) == 0) = false := beq_eq_false_iff_ne.mpr c3
    have c3b1 : ((l0.length : Int) != 0) = true := bne_iff_ne.mpr c3
    have c3b2 : ¬ (l0 = []) := fun h_ => c3 (by rw [h_]; rfl)
    by_cases c6 : (l1.length : Int) = 0
    · rw [if_pos c6] at H
      have c6b0 : ((l1.length : Int) == 0) = true := beq_iff_eq.mpr c6
      have c6b1 : ((l1.length : Int) != 0) = false := bne_eq_false_iff_eq.mpr c6
      clear c6
      replace H := bind_eq_some_iff.mp H
      obtain ⟨t334, A70, H⟩ := H
      replace H : (some t334) = some r := H
      have A7 := Aside0.mk A70
      clear A70
      obtain rfl := Option.some.inj H
      go_enter Try.func58, Try.ntmps58
      go_wp2_with (first | ((with_reducible refine gate_callee (f := 72) rfl ?_); refine goesL_ (some 16) rfl rfl Try.func72 (by kernel_rfl) rfl #[.slice A0 l0.length c0] rfl (by (try simp only [map_toArray, map_cons, map_nil]); first | done | rfl | (simp only [length_drop, length_take]; rfl)) ?_; (with_reducible refine (impl_Twig_72.calls _ _ l0 t334 _ ?side1 ?side2 A7.out).mono ?_); (case side1 => repeat (first | exact HR0.out | (with_reducible refine C_alloc ?_ _) | (with_reducible refine C_drewN ?_ _) | (with_reducible refine C_drew ?_))); (case side2 => exact HC0.out); rintro e w8 ⟨v335, rfl, ho0, hb⟩; refine ⟨_, rfl, ?_⟩; have n0_ := Aside0.mk (Kd.R_lower ho0 (below_size (by repeat (first | (with_reducible first | exact HB.out | apply below_alloc | apply pw_below_drewN | apply below_drew1) | exact HB.out)))); have n1_ := Aside0.mk (below_step (by repeat (first | (with_reducible first | exact HB.out | apply below_alloc | apply pw_below_drewN | apply below_drew1) | exact HB.out)) hb); clear HB; have HO336 := n0_; have HB := n1_; clear n0_ n1_; (try clear hb); (try clear hb2); (try clear hk); (try clear hi); (try clear ho0)))
      go_ret
      exact ⟨_, by first | rfl | (simp [errW_none, errW_some] <;> rfl) | (simp [*, errW_none, errW_some] <;> rfl), by (with_reducible repeat (first | apply R_alloc | apply R_drewN | apply R_drew)); exact HO336.out, by repeat (first | (with_reducible first | exact HB.out | apply below_alloc | apply pw_below_drewN | apply below_drew1) | exact HB.out)⟩
    · rw [if_neg c6] at H
      have c6b0 : ((l1.length : Int) == 0) = false := beq_eq_false_iff_ne.mpr c6
      have c6b1 : ((l1.length : Int) != 0) = true := bne_iff_ne.mpr c6
      have c6b2 : ¬ (l1 = []) := fun h_ => c6 (by rw [h_]; rfl)
      by_cases c9 : 0 < (l1.length : Int)
      · rw [if_pos c9] at H
        have c9b0 : decide (0 < (l1.length : Int)) = true := decide_eq_true c9
        have c9b1 : decide (0 < l1.length) = true := decide_eq_true (by omega)
        clear c9
        by_cases c10 : 0 < (l0.length : Int)
        · rw [if_pos c10] at H
          have c10b0 : decide (0 < (l0.length : Int)) = true := decide_eq_true c10
          have c10b1 : decide (0 < l0.length) = true := decide_eq_true (by omega)
          clear c10
          replace H := bind_eq_some_iff.mp H
          obtain ⟨t339, A110, H⟩ := H
          replace H : (if t339 < 0 then ((impl_parts.f l1).bind fun bt340 => ((impl_merge.f k bt340.2 l0).bind fun t347 => ((impl_joined.f k ((rd_T31 l1 0).f0) ((rd_T31 l1 0).f1) ((rd_T31 l1 0).f2) bt340.1 t347).bind fun t350 => (some t350)))) else ((impl_parts.f l0).bind fun bt353 => ((impl_merge.f k bt353.2 l1).bind fun t360 => ((impl_joined.f k ((rd_T31 l0 0).f0) ((rd_T31 l0 0).f1) ((rd_T31 l0 0).f2) bt353.1 t360).bind fun t363 => (some t363))))) = some r := H
          have A11 := Aside0.mk A110
          clear A110
          by_cases c12 : t339 < 0
          · rw [if_pos c12] at H
            have c12b0 : decide (t339 < 0) = true := decide_eq_true c12
            clear c12
            replace H := bind_eq_some_iff.mp H
            obtain ⟨⟨t340, t343⟩, A130, H⟩ := H
            replace H : ((impl_merge.f k t343 l0).bind fun t347 => ((impl_joined.f k ((rd_T31 l1 0).f0) ((rd_T31 l1 0).f1) ((rd_T31 l1 0).f2) t340 t347).bind fun t350 => (some t350))) = some r := H
            have A13 := Aside0.mk A130
            clear A130
            replace H := bind_eq_some_iff.mp H
            obtain ⟨t347, A140, H⟩ := H
            replace H : ((impl_joined.f k ((rd_T31 l1 0).f0) ((rd_T31 l1 0).f1) ((rd_T31 l1 0).f2) t340 t347).bind fun t350 => (some t350)) = some r := H
            have A14 := Aside0.mk A140
            clear A140
            replace H := bind_eq_some_iff.mp H
            obtain ⟨t350, A150, H⟩ := H
            replace H : (some t350) = some r := H
            have A15 := Aside0.mk A150
            clear A150
            obtain rfl := Option.some.inj H
            go_enter Try.func58, Try.ntmps58
            try go_wp2
            have n0_ := Aside0.mk (below_drew1 HB.out)
            clear HB
            have HB := n0_
            clear n0_
            have p337 : 0 ≤ (0 : Int) := (by omega)
            have q337 : 0 < (l1.length : Int) := of_decide_eq_true (by first | (with_reducible assumption) | assumption)
            obtain ⟨ad337, e337, hx337_0, hx337_1, hx337_2⟩ := at_T31 HR1.out 0 p337 q337
            have hw337_2 := hx337_2
            (try rw [show ((0 : Int)).toNat = 0 from rfl] at hw337_2)
            (try rw [show 0 * 3 = 0 from rfl] at hw337_2)
            (try rw [Addr.add_zero'] at hw337_2)
            have hw337_1 := hx337_1
            (try rw [show ((0 : Int)).toNat = 0 from rfl] at hw337_1)
            (try rw [show 0 * 3 = 0 from rfl] at hw337_1)
            (try rw [Addr.add_zero'] at hw337_1)
            have hw337_0 := hx337_0
            (try rw [show ((0 : Int)).toNat = 0 from rfl] at hw337_0)
            (try rw [show 0 * 3 = 0 from rfl] at hw337_0)
            (try rw [Addr.add_zero'] at hw337_0)
            cases e337
            have qi337 : (0 < l1.length) = True := eq_true (by omega)
            (try rw [show ((0 : Int)).toNat = 0 from rfl] at hx337_0)
            (try rw [show 0 * 3 = 0 from rfl] at hx337_0)
            (try rw [Addr.add_zero'] at hx337_0)
            (try rw [show ((0 : Int)).toNat = 0 from rfl] at hx337_1)
            (try rw [show 0 * 3 = 0 from rfl] at hx337_1)
            (try rw [Addr.add_zero'] at hx337_1)
            (try rw [show ((0 : Int)).toNat = 0 from rfl] at hx337_2)
            (try rw [show 0 * 3 = 0 from rfl] at hx337_2)
            (try rw [Addr.add_zero'] at hx337_2)
            replace hx337_0 := (HB.out.cell (block_lt_of_cell? w _ hx337_0)).trans hx337_0
            replace hx337_1 := (HB.out.cell (block_lt_of_cell? w _ hx337_1)).trans hx337_1
            replace hx337_2 := (HB.out.cell (block_lt_of_cell? w _ hx337_2)).trans hx337_2
            replace p337 := eq_true p337
            replace q337 := eq_true q337
            have p338 : 0 ≤ (0 : Int) := (by omega)
            have q338 : 0 < (l0.length : Int) := of_decide_eq_true (by first | (with_reducible assumption) | assumption)
            obtain ⟨ad338, e338, hx338_0, hx338_1, hx338_2⟩ := at_T31 HR0.out 0 p338 q338
            have hw338_2 := hx338_2
            (try rw [show ((0 : Int)).toNat = 0 from rfl] at hw338_2)
            (try rw [show 0 * 3 = 0 from rfl] at hw338_2)
            (try rw [Addr.add_zero'] at hw338_2)
            have hw338_1 := hx338_1
            (try rw [show ((0 : Int)).toNat = 0 from rfl] at hw338_1)
            (try rw [show 0 * 3 = 0 from rfl] at hw338_1)
            (try rw [Addr.add_zero'] at hw338_1)
            have hw338_0 := hx338_0
            (try rw [show ((0 : Int)).toNat = 0 from rfl] at hw338_0)
            (try rw [show 0 * 3 = 0 from rfl] at hw338_0)
            (try rw [Addr.add_zero'] at hw338_0)
            cases e338
            have qi338 : (0 < l0.length) = True := eq_true (by omega)
            (try rw [show ((0 : Int)).toNat = 0 from rfl] at hx338_0)
            (try rw [show 0 * 3 = 0 from rfl] at hx338_0)
            (try rw [Addr.add_zero'] at hx338_0)
            (try rw [show ((0 : Int)).toNat = 0 from rfl] at hx338_1)
            (try rw [show 0 * 3 = 0 from rfl] at hx338_1)
            (try rw [Addr.add_zero'] at hx338_1)
            (try rw [show ((0 : Int)).toNat = 0 from rfl] at hx338_2)
            (try rw [show 0 * 3 = 0 from rfl] at hx338_2)
            (try rw [Addr.add_zero'] at hx338_2)
            replace hx338_0 := (HB.out.cell (block_lt_of_cell? w _ hx338_0)).trans hx338_0
            replace hx338_1 := (HB.out.cell (block_lt_of_cell? w _ hx338_1)).trans hx338_1
            replace hx338_2 := (HB.out.cell (block_lt_of_cell? w _ hx338_2)).trans hx338_2
            replace p338 := eq_true p338
            replace q338 := eq_true q338
            refine start_ (n := 8) (S := fun w' => w'.cell? ad337 = some (.int .i64 ((rd_T31 l1 0).f0)) ∧ w'.cell? ⟨ad337.block, ad337.off + 1, none⟩ = some (.int .i64 ((rd_T31 l1 0).f1)) ∧ w'.cell? ⟨ad337.block, ad337.off + 2, none⟩ = some (.int .i64 ((rd_T31 l1 0).f2)) ∧ w'.cell? ad338 = some (.int .i64 ((rd_T31 l0 0).f0)) ∧ w'.cell? ⟨ad338.block, ad338.off + 1, none⟩ = some (.int .i64 ((rd_T31 l0 0).f1)) ∧ w'.cell? ⟨ad338.block, ad338.off + 2, none⟩ = some (.int .i64 ((rd_T31 l0 0).f2))) (ds := []) #[false, false, false, false, false, false, false, false] (by kernel_rfl) rfl rfl ⟨((HB.out.cell (block_lt_of_cell? w _ hw337_0)).trans hw337_0), ((HB.out.cell (block_lt_of_cell? w _ hw337_1)).trans hw337_1), ((HB.out.cell (block_lt_of_cell? w _ hw337_2)).trans hw337_2), ((HB.out.cell (block_lt_of_cell? w _ hw338_0)).trans hw338_0), ((HB.out.cell (block_lt_of_cell? w _ hw338_1)).trans hw338_1), ((HB.out.cell (block_lt_of_cell? w _ hw338_2)).trans hw338_2)⟩ (fun hHeld => ?_); refine with_tabW impl_merge.tab5 impl_merge.bits5 (fun HT_ HW_ => ?_)
            generalize w.drew = w16 at HB hx337_0 hx337_1 hx337_2 hx338_0 hx338_1 hx338_2 hHeld ⊢
            refine pure_ (i := 0) (N := some 17) (v := ?_) (a' := ?_) #[true, false, false, false, false, false, false, false] rfl rfl (any_of HT_.out (by kernel_rfl)) (fun _ _ _ h => h) (Or.inl ⟨by rfl, ?_⟩) ?_ ?_
            rotate_left
            · intro w'
              go_simp
              with_reducible rfl
            rotate_left
            · simp only [Act.put, setIfInBounds_toArray, set_cons_zero, set_cons_succ, i64_w, i32_w]
              rfl
            refine pure_ (i := 1) (N := some 18) (v := ?_) (a' := ?_) #[true, true, false, false, false, false, false, false] rfl rfl (any_of HT_.out (by kernel_rfl)) (fun _ _ _ h => h) (Or.inl ⟨by rfl, ?_⟩) ?_ ?_
            rotate_left
            · intro w'
              go_simp
              with_reducible rfl
            rotate_left
            · simp only [Act.put, setIfInBounds_toArray, set_cons_zero, set_cons_succ, i64_w, i32_w]
              rfl
            refine pure_ (i := 3) (N := some 20) (v := ?_) (a' := ?_) #[true, true, false, true, false, false, false, false] rfl rfl (any_of HT_.out (by kernel_rfl)) (fun _ _ _ h => h) (Or.inl ⟨by rfl, ?_⟩) ?_ ?_
            rotate_left
            · intro w'
              go_simp
              with_reducible rfl
            rotate_left
            · simp only [Act.put, setIfInBounds_toArray, set_cons_zero, set_cons_succ, i64_w, i32_w]
              rfl
            refine pure_ (i := 4) (N := some 21) (v := ?_) (a' := ?_) #[true, true, false, true, true, false, false, false] rfl rfl (any_of HT_.out (by kernel_rfl)) (fun _ _ _ h => h) (Or.inl ⟨by rfl, ?_⟩) ?_ ?_
            rotate_left
            · intro w'
              go_simp
              with_reducible rfl
            rotate_left
            · simp only [Act.put, setIfInBounds_toArray, set_cons_zero, set_cons_succ, i64_w, i32_w]
              rfl
            refine take_ (i := 2) (N := some 19) (v := ?_) (a' := ?_) #[true, true, true, true, true, false, false, false] rfl rfl (take_ofW HT_.out HW_.out (by kernel_rfl)) (fun _ _ _ h => h) (Or.inl ⟨by rfl, ?_⟩) hHeld ?_ ?_
            rotate_left
            · rintro w' ⟨s0, s1, s2, s3, s4, s5⟩
              go_simp
              with_reducible rfl
            rotate_left
            · simp only [Act.put, setIfInBounds_toArray, set_cons_zero, set_cons_succ, i64_w, i32_w]
              rfl
            refine take_ (i := 5) (N := some 22) (v := ?_) (a' := ?_) #[true, true, true, true, true, true, false, false] rfl rfl (take_ofW HT_.out HW_.out (by kernel_rfl)) (fun _ _ _ h => h) (Or.inl ⟨by rfl, ?_⟩) hHeld ?_ ?_
            rotate_left
            · rintro w' ⟨s0, s1, s2, s3, s4, s5⟩
              go_simp
              with_reducible rfl
            rotate_left
            · simp only [Act.put, setIfInBounds_toArray, set_cons_zero, set_cons_succ, i64_w, i32_w]
              rfl
            refine one_ (i := 6) (N := some 23) #[true, true, true, true, true, true, true, false] rfl rfl (one_of HT_.out (by kernel_rfl)) (by decide) (fun K hK => ?_)
            refine goes_ Try.func77 (by kernel_rfl) rfl #[.agg #[.int .i64 ((rd_T31 l1 0).f0), .int .i64 ((rd_T31 l1 0).f1), .int .i64 ((rd_T31 l1 0).f2)], .agg #[.int .i64 ((rd_T31 l0 0).f0), .int .i64 ((rd_T31 l0 0).f1), .int .i64 ((rd_T31 l0 0).f2)]] (by rfl) rfl rfl (by (try simp only [map_toArray, map_cons, map_nil]); first | done | rfl | (simp only [length_drop, length_take]; rfl)) ?_
            with_reducible refine (impl_Twig_compare.calls k ((rd_T31 l1 0).f0) ((rd_T31 l1 0).f1) ((rd_T31 l1 0).f2) ((rd_T31 l0 0).f0) ((rd_T31 l0 0).f1) ((rd_T31 l0 0).f2) t339 _ A11.out).mono ?_
            rintro e w17 ⟨rfl, hb⟩
            refine ⟨_, rfl, ?_⟩
            have n0_ := Aside0.mk (below_step (by repeat (first | (with_reducible first | exact HB.out | apply below_alloc | apply pw_below_drewN | apply below_drew1) | exact HB.out)) hb)
            clear HB
            have HB := n0_
            clear n0_
            (try clear hb)
            (try clear hb2)
            (try clear hk)
            (try clear hi)
            refine hK.out _ _ ⟨((HB.out.cell (block_lt_of_cell? w _ hw337_0)).trans hw337_0), ((HB.out.cell (block_lt_of_cell? w _ hw337_1)).trans hw337_1), ((HB.out.cell (block_lt_of_cell? w _ hw337_2)).trans hw337_2), ((HB.out.cell (block_lt_of_cell? w _ hw338_0)).trans hw338_0), ((HB.out.cell (block_lt_of_cell? w _ hw338_1)).trans hw338_1), ((HB.out.cell (block_lt_of_cell? w _ hw338_2)).trans hw338_2)⟩ (fun hHeld => ?_)
            clear hK K
            refine norm_ (a' := ?_) ?_ ?_
            rotate_left
            · show Act.put _ (some 23) _ = _
              simp only [Act.put, setIfInBounds_toArray, set_cons_zero, set_cons_succ, i64_w, i32_w]
              rfl
            refine pure_ (i := 7) (N := some 24) (v := ?_) (a' := ?_) #[true, true, true, true, true, true, true, true] rfl rfl (any_of HT_.out (by kernel_rfl)) (fun _ _ _ h => h) (Or.inl ⟨by rfl, ?_⟩) ?_ ?_
            rotate_left
            · intro w'
              go_simp
              with_reducible rfl
            rotate_left
            · simp only [Act.put, setIfInBounds_toArray, set_cons_zero, set_cons_succ, i64_w, i32_w]
              rfl
            refine done_ (done_of HT_.out (by kernel_rfl)) ?_
            try go_wp2_with (first | ((with_reducible refine gate_callee (f := 57) rfl ?_); refine goesL_ (some 29) rfl rfl Try.func57 (by kernel_rfl) rfl #[.slice (some ad337) l1.length c1] rfl (by (try simp only [map_toArray, map_cons, map_nil]); first | done | rfl | (simp only [length_drop, length_take]; rfl)) ?_; (with_reducible refine (impl_parts.calls (fun k_ => k_ < w.heap.size) _ _ l1 t340 t343 _ ?side1 A13.out).mono ?_); (case side1 => exact Kd.V_mk HC1.out (Kd.F_below (Kd.C_F k31_heap HR1.out) (by repeat (first | (with_reducible first | exact HB.out | apply below_alloc | apply pw_below_drewN | apply below_drew1) | exact HB.out)))); rintro e w18 ⟨v341, v344, rfl, ho0, ho1, hb⟩; refine ⟨_, rfl, ?_⟩; have n0_ := Aside0.mk (Kd.V_lower (Kd.V_mono (ok' := fun k_ => True) ho0 (fun k_ hk_ => trivial)) (below_size (by repeat (first | (with_reducible first | exact HB.out | apply below_alloc | apply pw_below_drewN | apply below_drew1) | exact HB.out)))); have n1_ := Aside0.mk (Kd.V_lower (Kd.V_mono (ok' := fun k_ => True) ho1 (fun k_ hk_ => trivial)) (below_size (by repeat (first | (with_reducible first | exact HB.out | apply below_alloc | apply pw_below_drewN | apply below_drew1) | exact HB.out)))); have n2_ := Aside0.mk (below_step (by repeat (first | (with_reducible first | exact HB.out | apply below_alloc | apply pw_below_drewN | apply below_drew1) | exact HB.out)) hb); clear HB; have HO342 := n0_; have HO345 := n1_; have HB := n2_; clear n0_ n1_ n2_; (try clear hb); (try clear hb2); (try clear hk); (try clear hi); (try clear ho0); (try clear ho1)))
            have n0_ := Aside0.mk (Kd.V_drew HO342.out)
            have n1_ := Aside0.mk (Kd.V_drew HO345.out)
            have n2_ := Aside0.mk (below_drew1 HB.out)
            clear HO342
            clear HO345
            clear HB
            have HO342 := n0_
            have HO345 := n1_
            have HB := n2_
            clear n0_ n1_ n2_
            have p346 : 0 ≤ (0 : Int) := (by omega)
            have q346 : 0 < (l1.length : Int) := of_decide_eq_true (by first | (with_reducible assumption) | assumption)
            obtain ⟨ad346, e346, hx346_0, hx346_1, hx346_2⟩ := at_T31 HR1.out 0 p346 q346
            have hw346_2 := hx346_2
            (try rw [show ((0 : Int)).toNat = 0 from rfl] at hw346_2)
            (try rw [show 0 * 3 = 0 from rfl] at hw346_2)
            (try rw [Addr.add_zero'] at hw346_2)
            have hw346_1 := hx346_1
            (try rw [show ((0 : Int)).toNat = 0 from rfl] at hw346_1)
            (try rw [show 0 * 3 = 0 from rfl] at hw346_1)
            (try rw [Addr.add_zero'] at hw346_1)
            have hw346_0 := hx346_0
            (try rw [show ((0 : Int)).toNat = 0 from rfl] at hw346_0)
            (try rw [show 0 * 3 = 0 from rfl] at hw346_0)
            (try rw [Addr.add_zero'] at hw346_0)
            obtain rfl : ad337 = ad346 := (by injection e346)
            have qi346 : (0 < l1.length) = True := eq_true (by omega)
            (try rw [show ((0 : Int)).toNat = 0 from rfl] at hx346_0)
            (try rw [show 0 * 3 = 0 from rfl] at hx346_0)
            (try rw [Addr.add_zero'] at hx346_0)
            (try rw [show ((0 : Int)).toNat = 0 from rfl] at hx346_1)
            (try rw [show 0 * 3 = 0 from rfl] at hx346_1)
            (try rw [Addr.add_zero'] at hx346_1)
            (try rw [show ((0 : Int)).toNat = 0 from rfl] at hx346_2)
            (try rw [show 0 * 3 = 0 from rfl] at hx346_2)
            (try rw [Addr.add_zero'] at hx346_2)
            replace hx346_0 := (HB.out.cell (block_lt_of_cell? w _ hx346_0)).trans hx346_0
            replace hx346_1 := (HB.out.cell (block_lt_of_cell? w _ hx346_1)).trans hx346_1
            replace hx346_2 := (HB.out.cell (block_lt_of_cell? w _ hx346_2)).trans hx346_2
            replace p346 := eq_true p346
            replace q346 := eq_true q346
            obtain ⟨Ao20, co20, eo20⟩ := Kd.V_slice HO345.out
            (first | subst eo20 | (injection eo20 with f1_ f2_ f3_; have f4_ := f1_.symm; have f5_ := f3_.symm; clear f1_ f2_ f3_; subst f4_; subst f5_))
            refine start_ (n := 9) (S := fun w' => w'.cell? ad337 = some (.int .i64 ((rd_T31 l1 0).f0)) ∧ w'.cell? ⟨ad337.block, ad337.off + 1, none⟩ = some (.int .i64 ((rd_T31 l1 0).f1)) ∧ w'.cell? ⟨ad337.block, ad337.off + 2, none⟩ = some (.int .i64 ((rd_T31 l1 0).f2))) (ds := []) #[false, false, false, false, false, false, false, false, false] (by kernel_rfl) rfl rfl ⟨((HB.out.cell (block_lt_of_cell? w _ hw346_0)).trans hw346_0), ((HB.out.cell (block_lt_of_cell? w _ hw346_1)).trans hw346_1), ((HB.out.cell (block_lt_of_cell? w _ hw346_2)).trans hw346_2)⟩ (fun hHeld => ?_); refine with_tabW impl_merge.tab8 impl_merge.bits8 (fun HT_ HW_ => ?_)
            generalize w18.drew = w19 at HO342 HO345 HB hx346_0 hx346_1 hx346_2 hHeld ⊢
            refine pure_ (i := 0) (N := some 32) (v := ?_) (a' := ?_) #[true, false, false, false, false, false, false, false, false] rfl rfl (any_of HT_.out (by kernel_rfl)) (fun _ _ _ h => h) (Or.inl ⟨by rfl, ?_⟩) ?_ ?_
            rotate_left
            · intro w'
              go_simp
              with_reducible rfl
            rotate_left
            · simp only [Act.put, setIfInBounds_toArray, set_cons_zero, set_cons_succ, i64_w, i32_w]
              rfl
            refine pure_ (i := 1) (N := some 33) (v := ?_) (a' := ?_) #[true, true, false, false, false, false, false, false, false] rfl rfl (any_of HT_.out (by kernel_rfl)) (fun _ _ _ h => h) (Or.inl ⟨by rfl, ?_⟩) ?_ ?_
            rotate_left
            · intro w'
              go_simp
              with_reducible rfl
            rotate_left
            · simp only [Act.put, setIfInBounds_toArray, set_cons_zero, set_cons_succ, i64_w, i32_w]
              rfl
            refine pure_ (i := 3) (N := some 35) (v := ?_) (a' := ?_) #[true, true, false, true, false, false, false, false, false] rfl rfl (any_of HT_.out (by kernel_rfl)) (fun _ _ _ h => h) (Or.inl ⟨by rfl, ?_⟩) ?_ ?_
            rotate_left
            · intro w'
              go_simp
              with_reducible rfl
            rotate_left
            · simp only [Act.put, setIfInBounds_toArray, set_cons_zero, set_cons_succ, i64_w, i32_w]
              rfl
            refine pure_ (i := 4) (N := some 36) (v := ?_) (a' := ?_) #[true, true, false, true, true, false, false, false, false] rfl rfl (any_of HT_.out (by kernel_rfl)) (fun _ _ _ h => h) (Or.inl ⟨by rfl, ?_⟩) ?_ ?_
            rotate_left
            · intro w'
              go_simp
              with_reducible rfl
            rotate_left
            · simp only [Act.put, setIfInBounds_toArray, set_cons_zero, set_cons_succ, i64_w, i32_w]
              rfl
            refine pure_ (i := 5) (N := some 37) (v := ?_) (a' := ?_) #[true, true, false, true, true, true, false, false, false] rfl rfl (any_of HT_.out (by kernel_rfl)) (fun _ _ _ h => h) (Or.inl ⟨by rfl, ?_⟩) ?_ ?_
            rotate_left
            · intro w'
              go_simp
              with_reducible rfl
            rotate_left
            · simp only [Act.put, setIfInBounds_toArray, set_cons_zero, set_cons_succ, i64_w, i32_w]
              rfl
            refine take_ (i := 2) (N := some 34) (v := ?_) (a' := ?_) #[true, true, true, true, true, true, false, false, false] rfl rfl (take_ofW HT_.out HW_.out (by kernel_rfl)) (fun _ _ _ h => h) (Or.inl ⟨by rfl, ?_⟩) hHeld ?_ ?_
            rotate_left
            · rintro w' ⟨s0, s1, s2⟩
              go_simp
              with_reducible rfl
            rotate_left
            · simp only [Act.put, setIfInBounds_toArray, set_cons_zero, set_cons_succ, i64_w, i32_w]
              rfl
            refine one_ (i := 6) (N := some 38) #[true, true, true, true, true, true, true, false, false] rfl rfl (one_of HT_.out (by kernel_rfl)) (by decide) (fun K hK => ?_)
            refine goes_ Try.func58 (by kernel_rfl) rfl #[.slice Ao20 t343.length co20, .slice (some ad338) l0.length c0] (by rfl) rfl rfl (by (try simp only [map_toArray, map_cons, map_nil]); first | done | rfl | (simp only [length_drop, length_take]; rfl)) ?_
            with_reducible refine (ih k (by omega) _ _ t343 _ _ l0 t347 _ ?side1 ?side2 ?side3 ?side4 A14.out).mono ?_
            (case side1 => repeat (first | exact (Kd.V_reads' HO345.out).2.2 | (with_reducible refine C_alloc ?_ _) | (with_reducible refine C_drewN ?_ _) | (with_reducible refine C_drew ?_)))
            (case side2 => exact (Kd.V_reads' HO345.out).2.1)
            (case side3 => repeat (first | exact (C_below HR0.out HB.out) | (with_reducible refine C_alloc ?_ _) | (with_reducible refine C_drewN ?_ _) | (with_reducible refine C_drew ?_)))
            (case side4 => exact HC0.out)
            rintro e w21 ⟨v348, rfl, ho0, hb⟩
            refine ⟨_, rfl, ?_⟩
            have n0_ := Aside0.mk (Kd.V_elder' (by (with_reducible repeat (first | apply Kd.V_alloc | apply Kd.V_drewN | apply Kd.V_drew)); exact HO342.out) (Kd.R_base ho0) hb)
            have n1_ := Aside0.mk (Kd.V_elder' (by (with_reducible repeat (first | apply Kd.V_alloc | apply Kd.V_drewN | apply Kd.V_drew)); exact HO345.out) (Kd.R_base ho0) hb)
            have n2_ := Aside0.mk (Kd.R_lower ho0 (below_size (by repeat (first | (with_reducible first | exact HB.out | apply below_alloc | apply pw_below_drewN | apply below_drew1) | exact HB.out))))
            have n3_ := Aside0.mk (below_step (by repeat (first | (with_reducible first | exact HB.out | apply below_alloc | apply pw_below_drewN | apply below_drew1) | exact HB.out)) hb)
            clear HO342
            clear HO345
            clear HB
            have HO342 := n0_
            have HO345 := n1_
            have HO349 := n2_
            have HB := n3_
            clear n0_ n1_ n2_ n3_
            (try clear hb)
            (try clear hb2)
            (try clear hk)
            (try clear hi)
            (try clear ho0)
            obtain ⟨Ao22, co22, eo22⟩ := Kd.V_slice HO342.out
            (first | subst eo22 | (injection eo22 with f1_ f2_ f3_; have f4_ := f1_.symm; have f5_ := f3_.symm; clear f1_ f2_ f3_; subst f4_; subst f5_))
            obtain ⟨Ao23, co23, eo23⟩ := Kd.R_slice HO349.out
            (first | subst eo23 | (injection eo23 with f1_ f2_ f3_; have f4_ := f1_.symm; have f5_ := f3_.symm; clear f1_ f2_ f3_; subst f4_; subst f5_))
            refine hK.out _ _ ⟨((HB.out.cell (block_lt_of_cell? w _ hw346_0)).trans hw346_0), ((HB.out.cell (block_lt_of_cell? w _ hw346_1)).trans hw346_1), ((HB.out.cell (block_lt_of_cell? w _ hw346_2)).trans hw346_2)⟩ (fun hHeld => ?_)
            clear hK K
            refine norm_ (a' := ?_) ?_ ?_
            rotate_left
            · show Act.put _ (some 38) _ = _
              simp only [Act.put, setIfInBounds_toArray, set_cons_zero, set_cons_succ, i64_w, i32_w]
              rfl
            refine one_ (i := 7) (N := some 39) #[true, true, true, true, true, true, true, true, false] rfl rfl (one_of HT_.out (by kernel_rfl)) (by decide) (fun K hK => ?_)
            refine goes_ Try.func87 (by kernel_rfl) rfl #[.agg #[.int .i64 ((rd_T31 l1 0).f0), .int .i64 ((rd_T31 l1 0).f1), .int .i64 ((rd_T31 l1 0).f2)], .slice Ao22 t340.length co22, .slice Ao23 t347.length co23] (by rfl) rfl rfl (by (try simp only [map_toArray, map_cons, map_nil]); first | done | rfl | (simp only [length_drop, length_take]; rfl)) ?_
            with_reducible refine (impl_joined.calls k ((rd_T31 l1 0).f0) ((rd_T31 l1 0).f1) ((rd_T31 l1 0).f2) _ _ t340 _ _ t347 t350 _ ?side1 ?side2 ?side3 ?side4 A15.out).mono ?_
            (case side1 => repeat (first | exact (Kd.V_reads' HO342.out).2.2 | (with_reducible refine C_alloc ?_ _) | (with_reducible refine C_drewN ?_ _) | (with_reducible refine C_drew ?_)))
            (case side2 => exact (Kd.V_reads' HO342.out).2.1)
            (case side3 => repeat (first | exact (R_reads' HO349.out).2.2 | (with_reducible refine C_alloc ?_ _) | (with_reducible refine C_drewN ?_ _) | (with_reducible refine C_drew ?_)))
            (case side4 => exact (R_reads' HO349.out).2.1)
            rintro e w24 ⟨v351, rfl, ho0, hb⟩
            refine ⟨_, rfl, ?_⟩
            have n0_ := Aside0.mk (Kd.V_elder' (by (with_reducible repeat (first | apply Kd.V_alloc | apply Kd.V_drewN | apply Kd.V_drew)); exact HO342.out) (Kd.R_base ho0) hb)
            have n1_ := Aside0.mk (Kd.V_elder' (by (with_reducible repeat (first | apply Kd.V_alloc | apply Kd.V_drewN | apply Kd.V_drew)); exact HO345.out) (Kd.R_base ho0) hb)
            have n2_ := Aside0.mk (Kd.R_elder' (by (with_reducible repeat (first | apply R_alloc | apply R_drewN | apply R_drew)); exact HO349.out) (Kd.R_base ho0) hb)
            have n3_ := Aside0.mk (Kd.R_lower (Kd.R_new' ho0 (Kd.R_lt (by (with_reducible repeat (first | apply R_alloc | apply R_drewN | apply R_drew)); exact HO349.out))) (below_size (by repeat (first | (with_reducible first | exact HB.out | apply below_alloc | apply pw_below_drewN | apply below_drew1) | exact HB.out))))
            have n4_ := Aside0.mk (below_step (by repeat (first | (with_reducible first | exact HB.out | apply below_alloc | apply pw_below_drewN | apply below_drew1) | exact HB.out)) hb)
            clear HO342
            clear HO345
            clear HO349
            clear HB
            have HO342 := n0_
            have HO345 := n1_
            have HO349 := n2_
            have HO352 := n3_
            have HB := n4_
            clear n0_ n1_ n2_ n3_ n4_
            (try clear hb)
            (try clear hb2)
            (try clear hk)
            (try clear hi)
            (try clear ho0)
            refine hK.out _ _ ⟨((HB.out.cell (block_lt_of_cell? w _ hw346_0)).trans hw346_0), ((HB.out.cell (block_lt_of_cell? w _ hw346_1)).trans hw346_1), ((HB.out.cell (block_lt_of_cell? w _ hw346_2)).trans hw346_2)⟩ (fun hHeld => ?_)
            clear hK K
            refine norm_ (a' := ?_) ?_ ?_
            rotate_left
            · show Act.put _ (some 39) _ = _
              simp only [Act.put, setIfInBounds_toArray, set_cons_zero, set_cons_succ, i64_w, i32_w]
              rfl
            refine pure_ (i := 8) (N := some 4) (v := ?_) (a' := ?_) #[true, true, true, true, true, true, true, true, true] rfl rfl (any_of HT_.out (by kernel_rfl)) (fun _ _ _ h => h) (Or.inl ⟨by rfl, ?_⟩) ?_ ?_
            rotate_left
            · intro w'
              go_simp
              with_reducible rfl
            rotate_left
            · simp only [Act.put, setIfInBounds_toArray, set_cons_zero, set_cons_succ, i64_w, i32_w]
              rfl
            refine done_ (done_of HT_.out (by kernel_rfl)) ?_
            try go_wp2
            go_ret
            exact ⟨_, by first | rfl | (simp [errW_none, errW_some] <;> rfl) | (simp [*, errW_none, errW_some] <;> rfl), by (with_reducible repeat (first | apply R_alloc | apply R_drewN | apply R_drew)); exact Kd.R_mono HO352.out (fun _ hk => trivial), by repeat (first | (with_reducible first | exact HB.out | apply below_alloc | apply pw_below_drewN | apply below_drew1) | exact HB.out)⟩
          · rw [if_neg c12] at H
            have c12b0 : decide (t339 < 0) = false := decide_eq_false c12
            clear c12
            replace H := bind_eq_some_iff.mp H
            obtain ⟨⟨t353, t356⟩, A250, H⟩ := H
            replace H : ((impl_merge.f k t356 l1).bind fun t360 => ((impl_joined.f k ((rd_T31 l0 0).f0) ((rd_T31 l0 0).f1) ((rd_T31 l0 0).f2) t353 t360).bind fun t363 => (some t363))) = some r := H
            have A25 := Aside0.mk A250
            clear A250
            replace H := bind_eq_some_iff.mp H
            obtain ⟨t360, A260, H⟩ := H
            replace H : ((impl_joined.f k ((rd_T31 l0 0).f0) ((rd_T31 l0 0).f1) ((rd_T31 l0 0).f2) t353 t360).bind fun t363 => (some t363)) = some r := H
            have A26 := Aside0.mk A260
            clear A260
            replace H := bind_eq_some_iff.mp H
            obtain ⟨t363, A270, H⟩ := H
            replace H : (some t363) = some r := H
            have A27 := Aside0.mk A270
            clear A270
            obtain rfl := Option.some.inj H
            go_enter Try.func58, Try.ntmps58
            try go_wp2
            have n0_ := Aside0.mk (below_drew1 HB.out)
            clear HB
            have HB := n0_
            clear n0_
            have p337 : 0 ≤ (0 : Int) := (by omega)
            have q337 : 0 < (l1.length : Int) := of_decide_eq_true (by first | (with_reducible assumption) | assumption)
            obtain ⟨ad337, e337, hx337_0, hx337_1, hx337_2⟩ := at_T31 HR1.out 0 p337 q337
            have hw337_2 := hx337_2
            (try rw [show ((0 : Int)).toNat = 0 from rfl] at hw337_2)
            (try rw [show 0 * 3 = 0 from rfl] at hw337_2)
            (try rw [Addr.add_zero'] at hw337_2)
            have hw337_1 := hx337_1
            (try rw [show ((0 : Int)).toNat = 0 from rfl] at hw337_1)
            (try rw [show 0 * 3 = 0 from rfl] at hw337_1)
            (try rw [Addr.add_zero'] at hw337_1)
            have hw337_0 := hx337_0
            (try rw [show ((0 : Int)).toNat = 0 from rfl] at hw337_0)
            (try rw [show 0 * 3 = 0 from rfl] at hw337_0)
            (try rw [Addr.add_zero'] at hw337_0)
            cases e337
            have qi337 : (0 < l1.length) = True := eq_true (by omega)
            (try rw [show ((0 : Int)).toNat = 0 from rfl] at hx337_0)
            (try rw [show 0 * 3 = 0 from rfl] at hx337_0)
            (try rw [Addr.add_zero'] at hx337_0)
            (try rw [show ((0 : Int)).toNat = 0 from rfl] at hx337_1)
            (try rw [show 0 * 3 = 0 from rfl] at hx337_1)
            (try rw [Addr.add_zero'] at hx337_1)
            (try rw [show ((0 : Int)).toNat = 0 from rfl] at hx337_2)
            (try rw [show 0 * 3 = 0 from rfl] at hx337_2)
            (try rw [Addr.add_zero'] at hx337_2)
            replace hx337_0 := (HB.out.cell (block_lt_of_cell? w _ hx337_0)).trans hx337_0
            replace hx337_1 := (HB.out.cell (block_lt_of_cell? w _ hx337_1)).trans hx337_1
            replace hx337_2 := (HB.out.cell (block_lt_of_cell? w _ hx337_2)).trans hx337_2
            replace p337 := eq_true p337
            replace q337 := eq_true q337
            have p338 : 0 ≤ (0 : Int) := (by omega)
            have q338 : 0 < (l0.length : Int) := of_decide_eq_true (by first | (with_reducible assumption) | assumption)
            obtain ⟨ad338, e338, hx338_0, hx338_1, hx338_2⟩ := at_T31 HR0.out 0 p338 q338
            have hw338_2 := hx338_2
            (try rw [show ((0 : Int)).toNat = 0 from rfl] at hw338_2)
            (try rw [show 0 * 3 = 0 from rfl] at hw338_2)
            (try rw [Addr.add_zero'] at hw338_2)
            have hw338_1 := hx338_1
            (try rw [show ((0 : Int)).toNat = 0 from rfl] at hw338_1)
            (try rw [show 0 * 3 = 0 from rfl] at hw338_1)
            (try rw [Addr.add_zero'] at hw338_1)
            have hw338_0 := hx338_0
            (try rw [show ((0 : Int)).toNat = 0 from rfl] at hw338_0)
            (try rw [show 0 * 3 = 0 from rfl] at hw338_0)
            (try rw [Addr.add_zero'] at hw338_0)
            cases e338
            have qi338 : (0 < l0.length) = True := eq_true (by omega)
            (try rw [show ((0 : Int)).toNat = 0 from rfl] at hx338_0)
            (try rw [show 0 * 3 = 0 from rfl] at hx338_0)
            (try rw [Addr.add_zero'] at hx338_0)
            (try rw [show ((0 : Int)).toNat = 0 from rfl] at hx338_1)
            (try rw [show 0 * 3 = 0 from rfl] at hx338_1)
            (try rw [Addr.add_zero'] at hx338_1)
            (try rw [show ((0 : Int)).toNat = 0 from rfl] at hx338_2)
            (try rw [show 0 * 3 = 0 from rfl] at hx338_2)
            (try rw [Addr.add_zero'] at hx338_2)
            replace hx338_0 := (HB.out.cell (block_lt_of_cell? w _ hx338_0)).trans hx338_0
            replace hx338_1 := (HB.out.cell (block_lt_of_cell? w _ hx338_1)).trans hx338_1
            replace hx338_2 := (HB.out.cell (block_lt_of_cell? w _ hx338_2)).trans hx338_2
            replace p338 := eq_true p338
            replace q338 := eq_true q338
            refine start_ (n := 8) (S := fun w' => w'.cell? ad337 = some (.int .i64 ((rd_T31 l1 0).f0)) ∧ w'.cell? ⟨ad337.block, ad337.off + 1, none⟩ = some (.int .i64 ((rd_T31 l1 0).f1)) ∧ w'.cell? ⟨ad337.block, ad337.off + 2, none⟩ = some (.int .i64 ((rd_T31 l1 0).f2)) ∧ w'.cell? ad338 = some (.int .i64 ((rd_T31 l0 0).f0)) ∧ w'.cell? ⟨ad338.block, ad338.off + 1, none⟩ = some (.int .i64 ((rd_T31 l0 0).f1)) ∧ w'.cell? ⟨ad338.block, ad338.off + 2, none⟩ = some (.int .i64 ((rd_T31 l0 0).f2))) (ds := []) #[false, false, false, false, false, false, false, false] (by kernel_rfl) rfl rfl ⟨((HB.out.cell (block_lt_of_cell? w _ hw337_0)).trans hw337_0), ((HB.out.cell (block_lt_of_cell? w _ hw337_1)).trans hw337_1), ((HB.out.cell (block_lt_of_cell? w _ hw337_2)).trans hw337_2), ((HB.out.cell (block_lt_of_cell? w _ hw338_0)).trans hw338_0), ((HB.out.cell (block_lt_of_cell? w _ hw338_1)).trans hw338_1), ((HB.out.cell (block_lt_of_cell? w _ hw338_2)).trans hw338_2)⟩ (fun hHeld => ?_); refine with_tabW impl_merge.tab5 impl_merge.bits5 (fun HT_ HW_ => ?_)
            generalize w.drew = w28 at HB hx337_0 hx337_1 hx337_2 hx338_0 hx338_1 hx338_2 hHeld ⊢
            refine pure_ (i := 0) (N := some 17) (v := ?_) (a' := ?_) #[true, false, false, false, false, false, false, false] rfl rfl (any_of HT_.out (by kernel_rfl)) (fun _ _ _ h => h) (Or.inl ⟨by rfl, ?_⟩) ?_ ?_
            rotate_left
            · intro w'
              go_simp
              with_reducible rfl
            rotate_left
            · simp only [Act.put, setIfInBounds_toArray, set_cons_zero, set_cons_succ, i64_w, i32_w]
              rfl
            refine pure_ (i := 1) (N := some 18) (v := ?_) (a' := ?_) #[true, true, false, false, false, false, false, false] rfl rfl (any_of HT_.out (by kernel_rfl)) (fun _ _ _ h => h) (Or.inl ⟨by rfl, ?_⟩) ?_ ?_
            rotate_left
            · intro w'
              go_simp
              with_reducible rfl
            rotate_left
            · simp only [Act.put, setIfInBounds_toArray, set_cons_zero, set_cons_succ, i64_w, i32_w]
              rfl
            refine pure_ (i := 3) (N := some 20) (v := ?_) (a' := ?_) #[true, true, false, true, false, false, false, false] rfl rfl (any_of HT_.out (by kernel_rfl)) (fun _ _ _ h => h) (Or.inl ⟨by rfl, ?_⟩) ?_ ?_
            rotate_left
            · intro w'
              go_simp
              with_reducible rfl
            rotate_left
            · simp only [Act.put, setIfInBounds_toArray, set_cons_zero, set_cons_succ, i64_w, i32_w]
              rfl
            refine pure_ (i := 4) (N := some 21) (v := ?_) (a' := ?_) #[true, true, false, true, true, false, false, false] rfl rfl (any_of HT_.out (by kernel_rfl)) (fun _ _ _ h => h) (Or.inl ⟨by rfl, ?_⟩) ?_ ?_
            rotate_left
            · intro w'
              go_simp
              with_reducible rfl
            rotate_left
            · simp only [Act.put, setIfInBounds_toArray, set_cons_zero, set_cons_succ, i64_w, i32_w]
              rfl
            refine take_ (i := 2) (N := some 19) (v := ?_) (a' := ?_) #[true, true, true, true, true, false, false, false] rfl rfl (take_ofW HT_.out HW_.out (by kernel_rfl)) (fun _ _ _ h => h) (Or.inl ⟨by rfl, ?_⟩) hHeld ?_ ?_
            rotate_left
            · rintro w' ⟨s0, s1, s2, s3, s4, s5⟩
              go_simp
              with_reducible rfl
            rotate_left
            · simp only [Act.put, setIfInBounds_toArray, set_cons_zero, set_cons_succ, i64_w, i32_w]
              rfl
            refine take_ (i := 5) (N := some 22) (v := ?_) (a' := ?_) #[true, true, true, true, true, true, false, false] rfl rfl (take_ofW HT_.out HW_.out (by kernel_rfl)) (fun _ _ _ h => h) (Or.inl ⟨by rfl, ?_⟩) hHeld ?_ ?_
            rotate_left
            · rintro w' ⟨s0, s1, s2, s3, s4, s5⟩
              go_simp
              with_reducible rfl
            rotate_left
            · simp only [Act.put, setIfInBounds_toArray, set_cons_zero, set_cons_succ, i64_w, i32_w]
              rfl
            refine one_ (i := 6) (N := some 23) #[true, true, true, true, true, true, true, false] rfl rfl (one_of HT_.out (by kernel_rfl)) (by decide) (fun K hK => ?_)
            refine goes_ Try.func77 (by kernel_rfl) rfl #[.agg #[.int .i64 ((rd_T31 l1 0).f0), .int .i64 ((rd_T31 l1 0).f1), .int .i64 ((rd_T31 l1 0).f2)], .agg #[.int .i64 ((rd_T31 l0 0).f0), .int .i64 ((rd_T31 l0 0).f1), .int .i64 ((rd_T31 l0 0).f2)]] (by rfl) rfl rfl (by (try simp only [map_toArray, map_cons, map_nil]); first | done | rfl | (simp only [length_drop, length_take]; rfl)) ?_
            with_reducible refine (impl_Twig_compare.calls k ((rd_T31 l1 0).f0) ((rd_T31 l1 0).f1) ((rd_T31 l1 0).f2) ((rd_T31 l0 0).f0) ((rd_T31 l0 0).f1) ((rd_T31 l0 0).f2) t339 _ A11.out).mono ?_
            rintro e w29 ⟨rfl, hb⟩
            refine ⟨_, rfl, ?_⟩
            have n0_ := Aside0.mk (below_step (by repeat (first | (with_reducible first | exact HB.out | apply below_alloc | apply pw_below_drewN | apply below_drew1) | exact HB.out)) hb)
            clear HB
            have HB := n0_
            clear n0_
            (try clear hb)
            (try clear hb2)
            (try clear hk)
            (try clear hi)
            refine hK.out _ _ ⟨((HB.out.cell (block_lt_of_cell? w _ hw337_0)).trans hw337_0), ((HB.out.cell (block_lt_of_cell? w _ hw337_1)).trans hw337_1), ((HB.out.cell (block_lt_of_cell? w _ hw337_2)).trans hw337_2), ((HB.out.cell (block_lt_of_cell? w _ hw338_0)).trans hw338_0), ((HB.out.cell (block_lt_of_cell? w _ hw338_1)).trans hw338_1), ((HB.out.cell (block_lt_of_cell? w _ hw338_2)).trans hw338_2)⟩ (fun hHeld => ?_)
            clear hK K
            refine norm_ (a' := ?_) ?_ ?_
            rotate_left
            · show Act.put _ (some 23) _ = _
              simp only [Act.put, setIfInBounds_toArray, set_cons_zero, set_cons_succ, i64_w, i32_w]
              rfl
            refine pure_ (i := 7) (N := some 24) (v := ?_) (a' := ?_) #[true, true, true, true, true, true, true, true] rfl rfl (any_of HT_.out (by kernel_rfl)) (fun _ _ _ h => h) (Or.inl ⟨by rfl, ?_⟩) ?_ ?_
            rotate_left
            · intro w'
              go_simp
              with_reducible rfl
            rotate_left
            · simp only [Act.put, setIfInBounds_toArray, set_cons_zero, set_cons_succ, i64_w, i32_w]
              rfl
            refine done_ (done_of HT_.out (by kernel_rfl)) ?_
            try go_wp2_with (first | ((with_reducible refine gate_callee (f := 57) rfl ?_); refine goesL_ (some 29) rfl rfl Try.func57 (by kernel_rfl) rfl #[.slice (some ad338) l0.length c0] rfl (by (try simp only [map_toArray, map_cons, map_nil]); first | done | rfl | (simp only [length_drop, length_take]; rfl)) ?_; (with_reducible refine (impl_parts.calls (fun k_ => k_ < w.heap.size) _ _ l0 t353 t356 _ ?side1 A25.out).mono ?_); (case side1 => exact Kd.V_mk HC0.out (Kd.F_below (Kd.C_F k31_heap HR0.out) (by repeat (first | (with_reducible first | exact HB.out | apply below_alloc | apply pw_below_drewN | apply below_drew1) | exact HB.out)))); rintro e w30 ⟨v354, v357, rfl, ho0, ho1, hb⟩; refine ⟨_, rfl, ?_⟩; have n0_ := Aside0.mk (Kd.V_lower (Kd.V_mono (ok' := fun k_ => True) ho0 (fun k_ hk_ => trivial)) (below_size (by repeat (first | (with_reducible first | exact HB.out | apply below_alloc | apply pw_below_drewN | apply below_drew1) | exact HB.out)))); have n1_ := Aside0.mk (Kd.V_lower (Kd.V_mono (ok' := fun k_ => True) ho1 (fun k_ hk_ => trivial)) (below_size (by repeat (first | (with_reducible first | exact HB.out | apply below_alloc | apply pw_below_drewN | apply below_drew1) | exact HB.out)))); have n2_ := Aside0.mk (below_step (by repeat (first | (with_reducible first | exact HB.out | apply below_alloc | apply pw_below_drewN | apply below_drew1) | exact HB.out)) hb); clear HB; have HO355 := n0_; have HO358 := n1_; have HB := n2_; clear n0_ n1_ n2_; (try clear hb); (try clear hb2); (try clear hk); (try clear hi); (try clear ho0); (try clear ho1)))
            have n0_ := Aside0.mk (Kd.V_drew HO355.out)
            have n1_ := Aside0.mk (Kd.V_drew HO358.out)
            have n2_ := Aside0.mk (below_drew1 HB.out)
            clear HO355
            clear HO358
            clear HB
            have HO355 := n0_
            have HO358 := n1_
            have HB := n2_
            clear n0_ n1_ n2_
            have p359 : 0 ≤ (0 : Int) := (by omega)
            have q359 : 0 < (l0.length : Int) := of_decide_eq_true (by first | (with_reducible assumption) | assumption)
            obtain ⟨ad359, e359, hx359_0, hx359_1, hx359_2⟩ := at_T31 HR0.out 0 p359 q359
            have hw359_2 := hx359_2
            (try rw [show ((0 : Int)).toNat = 0 from rfl] at hw359_2)
            (try rw [show 0 * 3 = 0 from rfl] at hw359_2)
            (try rw [Addr.add_zero'] at hw359_2)
            have hw359_1 := hx359_1
            (try rw [show ((0 : Int)).toNat = 0 from rfl] at hw359_1)
            (try rw [show 0 * 3 = 0 from rfl] at hw359_1)
            (try rw [Addr.add_zero'] at hw359_1)
            have hw359_0 := hx359_0
            (try rw [show ((0 : Int)).toNat = 0 from rfl] at hw359_0)
            (try rw [show 0 * 3 = 0 from rfl] at hw359_0)
            (try rw [Addr.add_zero'] at hw359_0)
            obtain rfl : ad338 = ad359 := (by injection e359)
            have qi359 : (0 < l0.length) = True := eq_true (by omega)
            (try rw [show ((0 : Int)).toNat = 0 from rfl] at hx359_0)
            (try rw [show 0 * 3 = 0 from rfl] at hx359_0)
            (try rw [Addr.add_zero'] at hx359_0)
            (try rw [show ((0 : Int)).toNat = 0 from rfl] at hx359_1)
            (try rw [show 0 * 3 = 0 from rfl] at hx359_1)
            (try rw [Addr.add_zero'] at hx359_1)
            (try rw [show ((0 : Int)).toNat = 0 from rfl] at hx359_2)
            (try rw [show 0 * 3 = 0 from rfl] at hx359_2)
            (try rw [Addr.add_zero'] at hx359_2)
            replace hx359_0 := (HB.out.cell (block_lt_of_cell? w _ hx359_0)).trans hx359_0
            replace hx359_1 := (HB.out.cell (block_lt_of_cell? w _ hx359_1)).trans hx359_1
            replace hx359_2 := (HB.out.cell (block_lt_of_cell? w _ hx359_2)).trans hx359_2
            replace p359 := eq_true p359
            replace q359 := eq_true q359
            obtain ⟨Ao32, co32, eo32⟩ := Kd.V_slice HO358.out
            (first | subst eo32 | (injection eo32 with f1_ f2_ f3_; have f4_ := f1_.symm; have f5_ := f3_.symm; clear f1_ f2_ f3_; subst f4_; subst f5_))
            refine start_ (n := 9) (S := fun w' => w'.cell? ad338 = some (.int .i64 ((rd_T31 l0 0).f0)) ∧ w'.cell? ⟨ad338.block, ad338.off + 1, none⟩ = some (.int .i64 ((rd_T31 l0 0).f1)) ∧ w'.cell? ⟨ad338.block, ad338.off + 2, none⟩ = some (.int .i64 ((rd_T31 l0 0).f2))) (ds := []) #[false, false, false, false, false, false, false, false, false] (by kernel_rfl) rfl rfl ⟨((HB.out.cell (block_lt_of_cell? w _ hw359_0)).trans hw359_0), ((HB.out.cell (block_lt_of_cell? w _ hw359_1)).trans hw359_1), ((HB.out.cell (block_lt_of_cell? w _ hw359_2)).trans hw359_2)⟩ (fun hHeld => ?_); refine with_tabW impl_merge.tab8 impl_merge.bits8 (fun HT_ HW_ => ?_)
            generalize w30.drew = w31 at HO355 HO358 HB hx359_0 hx359_1 hx359_2 hHeld ⊢
            refine pure_ (i := 0) (N := some 32) (v := ?_) (a' := ?_) #[true, false, false, false, false, false, false, false, false] rfl rfl (any_of HT_.out (by kernel_rfl)) (fun _ _ _ h => h) (Or.inl ⟨by rfl, ?_⟩) ?_ ?_
            rotate_left
            · intro w'
              go_simp
              with_reducible rfl
            rotate_left
            · simp only [Act.put, setIfInBounds_toArray, set_cons_zero, set_cons_succ, i64_w, i32_w]
              rfl
            refine pure_ (i := 1) (N := some 33) (v := ?_) (a' := ?_) #[true, true, false, false, false, false, false, false, false] rfl rfl (any_of HT_.out (by kernel_rfl)) (fun _ _ _ h => h) (Or.inl ⟨by rfl, ?_⟩) ?_ ?_
            rotate_left
            · intro w'
              go_simp
              with_reducible rfl
            rotate_left
            · simp only [Act.put, setIfInBounds_toArray, set_cons_zero, set_cons_succ, i64_w, i32_w]
              rfl
            refine pure_ (i := 3) (N := some 35) (v := ?_) (a' := ?_) #[true, true, false, true, false, false, false, false, false] rfl rfl (any_of HT_.out (by kernel_rfl)) (fun _ _ _ h => h) (Or.inl ⟨by rfl, ?_⟩) ?_ ?_
            rotate_left
            · intro w'
              go_simp
              with_reducible rfl
            rotate_left
            · simp only [Act.put, setIfInBounds_toArray, set_cons_zero, set_cons_succ, i64_w, i32_w]
              rfl
            refine pure_ (i := 4) (N := some 36) (v := ?_) (a' := ?_) #[true, true, false, true, true, false, false, false, false] rfl rfl (any_of HT_.out (by kernel_rfl)) (fun _ _ _ h => h) (Or.inl ⟨by rfl, ?_⟩) ?_ ?_
            rotate_left
            · intro w'
              go_simp
              with_reducible rfl
            rotate_left
            · simp only [Act.put, setIfInBounds_toArray, set_cons_zero, set_cons_succ, i64_w, i32_w]
              rfl
            refine pure_ (i := 5) (N := some 37) (v := ?_) (a' := ?_) #[true, true, false, true, true, true, false, false, false] rfl rfl (any_of HT_.out (by kernel_rfl)) (fun _ _ _ h => h) (Or.inl ⟨by rfl, ?_⟩) ?_ ?_
            rotate_left
            · intro w'
              go_simp
              with_reducible rfl
            rotate_left
            · simp only [Act.put, setIfInBounds_toArray, set_cons_zero, set_cons_succ, i64_w, i32_w]
              rfl
            refine take_ (i := 2) (N := some 34) (v := ?_) (a' := ?_) #[true, true, true, true, true, true, false, false, false] rfl rfl (take_ofW HT_.out HW_.out (by kernel_rfl)) (fun _ _ _ h => h) (Or.inl ⟨by rfl, ?_⟩) hHeld ?_ ?_
            rotate_left
            · rintro w' ⟨s0, s1, s2⟩
              go_simp
              with_reducible rfl
            rotate_left
            · simp only [Act.put, setIfInBounds_toArray, set_cons_zero, set_cons_succ, i64_w, i32_w]
              rfl
            refine one_ (i := 6) (N := some 38) #[true, true, true, true, true, true, true, false, false] rfl rfl (one_of HT_.out (by kernel_rfl)) (by decide) (fun K hK => ?_)
            refine goes_ Try.func58 (by kernel_rfl) rfl #[.slice Ao32 t356.length co32, .slice (some ad337) l1.length c1] (by rfl) rfl rfl (by (try simp only [map_toArray, map_cons, map_nil]); first | done | rfl | (simp only [length_drop, length_take]; rfl)) ?_
            with_reducible refine (ih k (by omega) _ _ t356 _ _ l1 t360 _ ?side1 ?side2 ?side3 ?side4 A26.out).mono ?_
            (case side1 => repeat (first | exact (Kd.V_reads' HO358.out).2.2 | (with_reducible refine C_alloc ?_ _) | (with_reducible refine C_drewN ?_ _) | (with_reducible refine C_drew ?_)))
            (case side2 => exact (Kd.V_reads' HO358.out).2.1)
            (case side3 => repeat (first | exact (C_below HR1.out HB.out) | (with_reducible refine C_alloc ?_ _) | (with_reducible refine C_drewN ?_ _) | (with_reducible refine C_drew ?_)))
            (case side4 => exact HC1.out)
            rintro e w33 ⟨v361, rfl, ho0, hb⟩
            refine ⟨_, rfl, ?_⟩
            have n0_ := Aside0.mk (Kd.V_elder' (by (with_reducible repeat (first | apply Kd.V_alloc | apply Kd.V_drewN | apply Kd.V_drew)); exact HO355.out) (Kd.R_base ho0) hb)
            have n1_ := Aside0.mk (Kd.V_elder' (by (with_reducible repeat (first | apply Kd.V_alloc | apply Kd.V_drewN | apply Kd.V_drew)); exact HO358.out) (Kd.R_base ho0) hb)
            have n2_ := Aside0.mk (Kd.R_lower ho0 (below_size (by repeat (first | (with_reducible first | exact HB.out | apply below_alloc | apply pw_below_drewN | apply below_drew1) | exact HB.out))))
            have n3_ := Aside0.mk (below_step (by repeat (first | (with_reducible first | exact HB.out | apply below_alloc | apply pw_below_drewN | apply below_drew1) | exact HB.out)) hb)
            clear HO355
            clear HO358
            clear HB
            have HO355 := n0_
            have HO358 := n1_
            have HO362 := n2_
            have HB := n3_
            clear n0_ n1_ n2_ n3_
            (try clear hb)
            (try clear hb2)
            (try clear hk)
            (try clear hi)
            (try clear ho0)
            obtain ⟨Ao34, co34, eo34⟩ := Kd.V_slice HO355.out
            (first | subst eo34 | (injection eo34 with f1_ f2_ f3_; have f4_ := f1_.symm; have f5_ := f3_.symm; clear f1_ f2_ f3_; subst f4_; subst f5_))
            obtain ⟨Ao35, co35, eo35⟩ := Kd.R_slice HO362.out
            (first | subst eo35 | (injection eo35 with f1_ f2_ f3_; have f4_ := f1_.symm; have f5_ := f3_.symm; clear f1_ f2_ f3_; subst f4_; subst f5_))
            refine hK.out _ _ ⟨((HB.out.cell (block_lt_of_cell? w _ hw359_0)).trans hw359_0), ((HB.out.cell (block_lt_of_cell? w _ hw359_1)).trans hw359_1), ((HB.out.cell (block_lt_of_cell? w _ hw359_2)).trans hw359_2)⟩ (fun hHeld => ?_)
            clear hK K
            refine norm_ (a' := ?_) ?_ ?_
            rotate_left
            · show Act.put _ (some 38) _ = _
              simp only [Act.put, setIfInBounds_toArray, set_cons_zero, set_cons_succ, i64_w, i32_w]
              rfl
            refine one_ (i := 7) (N := some 39) #[true, true, true, true, true, true, true, true, false] rfl rfl (one_of HT_.out (by kernel_rfl)) (by decide) (fun K hK => ?_)
            refine goes_ Try.func87 (by kernel_rfl) rfl #[.agg #[.int .i64 ((rd_T31 l0 0).f0), .int .i64 ((rd_T31 l0 0).f1), .int .i64 ((rd_T31 l0 0).f2)], .slice Ao34 t353.length co34, .slice Ao35 t360.length co35] (by rfl) rfl rfl (by (try simp only [map_toArray, map_cons, map_nil]); first | done | rfl | (simp only [length_drop, length_take]; rfl)) ?_
            with_reducible refine (impl_joined.calls k ((rd_T31 l0 0).f0) ((rd_T31 l0 0).f1) ((rd_T31 l0 0).f2) _ _ t353 _ _ t360 t363 _ ?side1 ?side2 ?side3 ?side4 A27.out).mono ?_
            (case side1 => repeat (first | exact (Kd.V_reads' HO355.out).2.2 | (with_reducible refine C_alloc ?_ _) | (with_reducible refine C_drewN ?_ _) | (with_reducible refine C_drew ?_)))
            (case side2 => exact (Kd.V_reads' HO355.out).2.1)
            (case side3 => repeat (first | exact (R_reads' HO362.out).2.2 | (with_reducible refine C_alloc ?_ _) | (with_reducible refine C_drewN ?_ _) | (with_reducible refine C_drew ?_)))
            (case side4 => exact (R_reads' HO362.out).2.1)
            rintro e w36 ⟨v364, rfl, ho0, hb⟩
            refine ⟨_, rfl, ?_⟩
            have n0_ := Aside0.mk (Kd.V_elder' (by (with_reducible repeat (first | apply Kd.V_alloc | apply Kd.V_drewN | apply Kd.V_drew)); exact HO355.out) (Kd.R_base ho0) hb)
            have n1_ := Aside0.mk (Kd.V_elder' (by (with_reducible repeat (first | apply Kd.V_alloc | apply Kd.V_drewN | apply Kd.V_drew)); exact HO358.out) (Kd.R_base ho0) hb)
            have n2_ := Aside0.mk (Kd.R_elder' (by (with_reducible repeat (first | apply R_alloc | apply R_drewN | apply R_drew)); exact HO362.out) (Kd.R_base ho0) hb)
            have n3_ := Aside0.mk (Kd.R_lower (Kd.R_new' ho0 (Kd.R_lt (by (with_reducible repeat (first | apply R_alloc | apply R_drewN | apply R_drew)); exact HO362.out))) (below_size (by repeat (first | (with_reducible first | exact HB.out | apply below_alloc | apply pw_below_drewN | apply below_drew1) | exact HB.out))))
            have n4_ := Aside0.mk (below_step (by repeat (first | (with_reducible first | exact HB.out | apply below_alloc | apply pw_below_drewN | apply below_drew1) | exact HB.out)) hb)
            clear HO355
            clear HO358
            clear HO362
            clear HB
            have HO355 := n0_
            have HO358 := n1_
            have HO362 := n2_
            have HO365 := n3_
            have HB := n4_
            clear n0_ n1_ n2_ n3_ n4_
            (try clear hb)
            (try clear hb2)
            (try clear hk)
            (try clear hi)
            (try clear ho0)
            refine hK.out _ _ ⟨((HB.out.cell (block_lt_of_cell? w _ hw359_0)).trans hw359_0), ((HB.out.cell (block_lt_of_cell? w _ hw359_1)).trans hw359_1), ((HB.out.cell (block_lt_of_cell? w _ hw359_2)).trans hw359_2)⟩ (fun hHeld => ?_)
            clear hK K
            refine norm_ (a' := ?_) ?_ ?_
            rotate_left
            · show Act.put _ (some 39) _ = _
              simp only [Act.put, setIfInBounds_toArray, set_cons_zero, set_cons_succ, i64_w, i32_w]
              rfl
            refine pure_ (i := 8) (N := some 4) (v := ?_) (a' := ?_) #[true, true, true, true, true, true, true, true, true] rfl rfl (any_of HT_.out (by kernel_rfl)) (fun _ _ _ h => h) (Or.inl ⟨by rfl, ?_⟩) ?_ ?_
            rotate_left
            · intro w'
              go_simp
              with_reducible rfl
            rotate_left
            · simp only [Act.put, setIfInBounds_toArray, set_cons_zero, set_cons_succ, i64_w, i32_w]
              rfl
            refine done_ (done_of HT_.out (by kernel_rfl)) ?_
            try go_wp2
            go_ret
            exact ⟨_, by first | rfl | (simp [errW_none, errW_some] <;> rfl) | (simp [*, errW_none, errW_some] <;> rfl), by (with_reducible repeat (first | apply R_alloc | apply R_drewN | apply R_drew)); exact Kd.R_mono HO365.out (fun _ hk => trivial), by repeat (first | (with_reducible first | exact HB.out | apply below_alloc | apply pw_below_drewN | apply below_drew1) | exact HB.out)⟩
        · rw [if_neg c10] at H
          exact absurd H (by simp)
      · rw [if_neg c9] at H
        exact absurd H (by simp)
end Go.Proofs.Ytljfflhbabkbgaa.PFnExactShifted
