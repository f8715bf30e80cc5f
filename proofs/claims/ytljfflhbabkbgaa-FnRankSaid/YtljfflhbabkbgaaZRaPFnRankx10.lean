/- Texts of the claim of the law FnRank, made smaller by a program of this session: what the claim does not use is left out. No condition. -/
import Derived.Test.YtljfflhbabkbgaaZRaPFnRankx0
import Derived.Test.YtljfflhbabkbgaaZRaPFnRankx4
import Derived.Test.YtljfflhbabkbgaaZRaPFnRankx5
import Derived.Test.YtljfflhbabkbgaaZRaPFnRankx9
namespace Go.Proofs.Ytljfflhbabkbgaa.PFnRank
open Go.RowKit Go.Proofs.YtljfflhbabkbgaaW.PrintWords Go.Proofs.YtljfflhbabkbgaaW.PrintLast Go.Proofs.YtljfflhbabkbgaaW.PrintMore
open List (setIfInBounds_toArray map_toArray map_cons map_nil length_drop length_take)
open Option (bind_eq_some_iff)
open Go.World (block_lt_of_cell?)
open Kd (R_drew R_drewN R_alloc C_drewN C_drew C_alloc R_reads' C_below)
attribute [local go_sem] max2_int min2_int max_two min_two max_three min_three max_four min_four   -- for this text's walks alone
set_option linter.unusedVariables false
set_option linter.unusedSimpArgs false
def impl_merge.f : Nat → List (S31) → List (S31) → Option ((List (S31)))
  | 0, _, _ => none
  | k + 1, l0, l1 => if (l0.length : Int) = 0 then ((impl_Twig_72.f l1).bind fun t324 => (some t324)) else (if (l1.length : Int) = 0 then ((impl_Twig_72.f l0).bind fun t327 => (some t327)) else (if 0 < (l1.length : Int) then (if 0 < (l0.length : Int) then ((impl_Twig_compare.f k ((rd_T31 l1 0).f0) ((rd_T31 l1 0).f1) ((rd_T31 l1 0).f2) ((rd_T31 l0 0).f0) ((rd_T31 l0 0).f1) ((rd_T31 l0 0).f2)).bind fun t332 => (if t332 < 0 then ((impl_parts.f l1).bind fun bt333 => ((impl_merge.f k bt333.2 l0).bind fun t340 => ((impl_joined.f k ((rd_T31 l1 0).f0) ((rd_T31 l1 0).f1) ((rd_T31 l1 0).f2) bt333.1 t340).bind fun t343 => (some t343)))) else ((impl_parts.f l0).bind fun bt346 => ((impl_merge.f k bt346.2 l1).bind fun t353 => ((impl_joined.f k ((rd_T31 l0 0).f0) ((rd_T31 l0 0).f1) ((rd_T31 l0 0).f2) bt346.1 t353).bind fun t356 => (some t356)))))) else (none)) else (none)))
def impl_merge.T5 : Bool × List (List Nat × List Nat) := (true, [([], []), ([0], [0]), ([1], [1]), ([], []), ([3], [3]), ([4], [4]), ([2, 5], [2, 5]), ([6], [6])])
def impl_merge.B5 : List Nat := [0, 1, 3, 0, 8, 24, 63, 127]
theorem impl_merge.tab5 : rtab .any (opsOf Try.f58 5) = impl_merge.T5 := by kernel_rfl
theorem impl_merge.bits5 : waitsOk impl_merge.T5.2 impl_merge.B5 = true := by kernel_rfl
def impl_merge.T8 : Bool × List (List Nat × List Nat) := (true, [([], []), ([0], [0]), ([1], [1]), ([], []), ([], []), ([], []), ([4, 5], [4, 5]), ([2, 3, 6, 6], [2, 3, 6]), ([7, 7, 0, 1, 2, 3, 4, 5, 6, 7], [7])])
def impl_merge.B8 : List Nat := [0, 1, 3, 0, 0, 0, 48, 127, 255]
theorem impl_merge.tab8 : rtab .any (opsOf Try.f58 8) = impl_merge.T8 := by kernel_rfl
theorem impl_merge.bits8 : waitsOk impl_merge.T8.2 impl_merge.B8 = true := by kernel_rfl
set_option maxHeartbeats 8000000 in
set_option maxRecDepth 100000 in
theorem impl_merge.calls (k : Nat) : ∀ (A0 : Option Addr) (c0 : Nat) (l0 : List (S31)) (A1 : Option Addr) (c1 : Nat) (l1 : List (S31)) (r : List (S31)) (w : World) (hr0 : Kd.C k31 w A0 l0.length l0) (hc0 : l0.length ≤ c0) (hr1 : Kd.C k31 w A1 l1.length l1) (hc1 : l1.length ≤ c1) (h : impl_merge.f k l0 l1 = some r),
    Calls Try.prog 58 #[.slice A0 l0.length c0, .slice A1 l1.length c1] w fun e w' => ∃ v0_ : Value, e = .returned (v0_) ∧ Kd.R k31 31 w' w.heap.size (fun _ => True) v0_ r ∧ Below w.heap.size w w' := by
  induction k using Nat.strongRecOn with
  | _ k ih =>
  intro A0 c0 l0 A1 c1 l1 r w hr0 hc0 hr1 hc1 h
  cases k with
  | zero => exact absurd h (by simp [impl_merge.f])
  | succ k =>
  simp only [impl_merge.f] at h
  have hu31 := Try.underlying31
  have HR0 := Aside0.mk hr0
  have HC0 := Aside0.mk hc0
  clear hr0 hc0
  have HR1 := Aside0.mk hr1
  have HC1 := Aside0.mk hc1
  clear hr1 hc1
  have HB := Aside0.mk (Below.refl w.heap.size w)
  have H : (if (l0.length : Int) = 0 then ((impl_Twig_72.f l1).bind fun t324 => (some t324)) else (if (l1.length : Int) = 0 then ((impl_Twig_72.f l0).bind fun t327 => (some t327)) else (if 0 < (l1.length : Int) then (if 0 < (l0.length : Int) then ((impl_Twig_compare.f k ((rd_T31 l1 0).f0) ((rd_T31 l1 0).f1) ((rd_T31 l1 0).f2) ((rd_T31 l0 0).f0) ((rd_T31 l0 0).f1) ((rd_T31 l0 0).f2)).bind fun t332 => (if t332 < 0 then ((impl_parts.f l1).bind fun bt333 => ((impl_merge.f k bt333.2 l0).bind fun t340 => ((impl_joined.f k ((rd_T31 l1 0).f0) ((rd_T31 l1 0).f1) ((rd_T31 l1 0).f2) bt333.1 t340).bind fun t343 => (some t343)))) else ((impl_parts.f l0).bind fun bt346 => ((impl_merge.f k bt346.2 l1).bind fun t353 => ((impl_joined.f k ((rd_T31 l0 0).f0) ((rd_T31 l0 0).f1) ((rd_T31 l0 0).f2) bt346.1 t353).bind fun t356 => (some t356)))))) else (none)) else (none)))) = some r := h
  clear h
  by_cases c3 : (l0.length : Int) = 0
  · rw [if_pos c3] at H
    have c3b0 : ((l0.length : Int) == 0) = true := beq_iff_eq.mpr c3
    have c3b1 : ((l0.length : Int) != 0) = false := bne_eq_false_iff_eq.mpr c3
    clear c3
    replace H := bind_eq_some_iff.mp H
    obtain ⟨t324, A40, H⟩ := H
    replace H : (some t324) = some r := H
    have A4 := Aside0.mk A40
    clear A40
    obtain rfl := Option.some.inj H
    go_enter Try.func58, Try.ntmps58
    go_wp2_with (first | ((with_reducible refine gate_callee (f := 72) rfl ?_); refine goesL_ (some 11) rfl rfl Try.func72 (by kernel_rfl) rfl #[.slice A1 l1.length c1] rfl (by (try simp only [map_toArray, map_cons, map_nil]); first | done | rfl | (simp only [length_drop, length_take]; rfl)) ?_; (with_reducible refine (impl_Twig_72.calls _ _ l1 t324 _ ?side1 ?side2 A4.out).mono ?_); (case side1 => repeat (first | exact HR1.out | (with_reducible refine C_alloc ?_ _) | (with_reducible refine C_drewN ?_ _) | (with_reducible refine C_drew ?_))); (case side2 => exact HC1.out); rintro e w5 ⟨v325, rfl, ho0, hb⟩; refine ⟨_, rfl, ?_⟩; have n0_ := Aside0.mk (Kd.R_lower ho0 (below_size (by repeat (first | (with_reducible first | exact HB.out | apply bwA | apply bwN | apply bw1) | exact HB.out)))); have n1_ := Aside0.mk (below_step (by repeat (first | (with_reducible first | exact HB.out | apply bwA | apply bwN | apply bw1) | exact HB.out)) hb); clear HB; have HO326 := n0_; have HB := n1_; clear n0_ n1_; (try clear hb); (try clear hb2); (try clear hk); (try clear hi); (try clear ho0)))
    go_ret
    exact ⟨_, by first | rfl | (simp [errW_none, errW_some] <;> rfl) | (simp [*, errW_none, errW_some] <;> rfl), by (with_reducible repeat (first | apply R_alloc | apply R_drewN | apply R_drew)); exact HO326.out, by repeat (first | (with_reducible first | exact HB.out | apply bwA | apply bwN | apply bw1) | exact HB.out)⟩
  · rw [if_neg c3] at H
    have c3b0 : ((l0.length : Int) == 0) = false := beq_eq_false_iff_ne.mpr c3
    have c3b1 : ((l0.length : Int) != 0) = true := bne_iff_ne.mpr c3
    have c3b2 : ¬ (l0 = []) := fun h_ => c3 (by rw [h_]; rfl)
    by_cases c6 : (l1.length : Int) = 0
    · rw [if_pos c6] at H
      have c6b0 : ((l1.length : Int) == 0) = true := beq_iff_eq.mpr c6
      have c6b1 : ((l1.length : Int) != 0) = false := bne_eq_false_iff_eq.mpr c6
      clear c6
      replace H := bind_eq_some_iff.mp H
      obtain ⟨t327, A70, H⟩ := H
      replace H : (some t327) = some r := H
      have A7 := Aside0.mk A70
      clear A70
      obtain rfl := Option.some.inj H
      go_enter Try.func58, Try.ntmps58
      go_wp2_with (first | ((with_reducible refine gate_callee (f := 72) rfl ?_); refine goesL_ (some 16) rfl rfl Try.func72 (by kernel_rfl) rfl #[.slice A0 l0.length c0] rfl (by (try simp only [map_toArray, map_cons, map_nil]); first | done | rfl | (simp only [length_drop, length_take]; rfl)) ?_; (with_reducible refine (impl_Twig_72.calls _ _ l0 t327 _ ?side1 ?side2 A7.out).mono ?_); (case side1 => repeat (first | exact HR0.out | (with_reducible refine C_alloc ?_ _) | (with_reducible refine C_drewN ?_ _) | (with_reducible refine C_drew ?_))); (case side2 => exact HC0.out); rintro e w8 ⟨v328, rfl, ho0, hb⟩; refine ⟨_, rfl, ?_⟩; have n0_ := Aside0.mk (Kd.R_lower ho0 (below_size (by repeat (first | (with_reducible first | exact HB.out | apply bwA | apply bwN | apply bw1) | exact HB.out)))); have n1_ := Aside0.mk (below_step (by repeat (first | (with_reducible first | exact HB.out | apply bwA | apply bwN | apply bw1) | exact HB.out)) hb); clear HB; have HO329 := n0_; have HB := n1_; clear n0_ n1_; (try clear hb); (try clear hb2); (try clear hk); (try clear hi); (try clear ho0)))
      go_ret
      exact ⟨_, by first | rfl | (simp [errW_none, errW_some] <;> rfl) | (simp [*, errW_none, errW_some] <;> rfl), by (with_reducible repeat (first | apply R_alloc | apply R_drewN | apply R_drew)); exact HO329.out, by repeat (first | (with_reducible first | exact HB.out | apply bwA | apply bwN | apply bw1) | exact HB.out)⟩
    · rw [if_neg c6] at H
      have c6b0 : ((l1.length : Int) == 0) = false := beq_eq_false_iff_ne.mpr c6
      have c6b1 : ((l1.length : Int) != 0) = true := bne_iff_ne.mpr c6
      have c6b2 : ¬ (l1 = []) := fun h_ => c6 (by rw [h_]; rfl)
      by_cases c9 : 0 < (l1.length : Int)
      · rw [if_pos c9] at H
        have c9b0 : decide (0 < (l1.length : Int)) = true := decide_eq_true c9
        have c9b1 : decide (0 < l1.length) = true := decide_eq_true (by omega)
        clear c9
        by_cases c10 : 0 < (l0.length : Int)
        · rw [if_pos c10] at H
          have c10b0 : decide (0 < (l0.length : Int)) = true := decide_eq_true c10
          have c10b1 : decide (0 < l0.length) = true := decide_eq_true (by omega)
          clear c10
          replace H := bind_eq_some_iff.mp H
          obtain ⟨t332, A110, H⟩ := H
          replace H : (if t332 < 0 then ((impl_parts.f l1).bind fun bt333 => ((impl_merge.f k bt333.2 l0).bind fun t340 => ((impl_joined.f k ((rd_T31 l1 0).f0) ((rd_T31 l1 0).f1) ((rd_T31 l1 0).f2) bt333.1 t340).bind fun t343 => (some t343)))) else ((impl_parts.f l0).bind fun bt346 => ((impl_merge.f k bt346.2 l1).bind fun t353 => ((impl_joined.f k ((rd_T31 l0 0).f0) ((rd_T31 l0 0).f1) ((rd_T31 l0 0).f2) bt346.1 t353).bind fun t356 => (some t356))))) = some r := H
          have A11 := Aside0.mk A110
          clear A110
          by_cases c12 : t332 < 0
          · rw [if_pos c12] at H
            have c12b0 : decide (t332 < 0) = true := decide_eq_true c12
            clear c12
            replace H := bind_eq_some_iff.mp H
            obtain ⟨⟨t333, t336⟩, A130, H⟩ := H
            replace H : ((impl_merge.f k t336 l0).bind fun t340 => ((impl_joined.f k ((rd_T31 l1 0).f0) ((rd_T31 l1 0).f1) ((rd_T31 l1 0).f2) t333 t340).bind fun t343 => (some t343))) = some r := H
            have A13 := Aside0.mk A130
            clear A130
            replace H := bind_eq_some_iff.mp H
            obtain ⟨t340, A140, H⟩ := H
            replace H : ((impl_joined.f k ((rd_T31 l1 0).f0) ((rd_T31 l1 0).f1) ((rd_T31 l1 0).f2) t333 t340).bind fun t343 => (some t343)) = some r := H
            have A14 := Aside0.mk A140
            clear A140
            replace H := bind_eq_some_iff.mp H
            obtain ⟨t343, A150, H⟩ := H
            replace H : (some t343) = some r := H
            have A15 := Aside0.mk A150
            clear A150
            obtain rfl := Option.some.inj H
            go_enter Try.func58, Try.ntmps58
            try go_wp2
            have n0_ := Aside0.mk (bw1 HB.out)
            clear HB
            have HB := n0_
            clear n0_
            have p330 : 0 ≤ (0 : Int) := (by omega)
            have q330 : 0 < (l1.length : Int) := of_decide_eq_true (by first | (with_reducible assumption) | assumption)
            obtain ⟨ad330, e330, hx330_0, hx330_1, hx330_2⟩ := at_T31 HR1.out 0 p330 q330
            have hw330_2 := hx330_2
            (try rw [show ((0 : Int)).toNat = 0 from rfl] at hw330_2)
            (try rw [show 0 * 3 = 0 from rfl] at hw330_2)
            (try rw [Addr.add_zero'] at hw330_2)
            have hw330_1 := hx330_1
            (try rw [show ((0 : Int)).toNat = 0 from rfl] at hw330_1)
            (try rw [show 0 * 3 = 0 from rfl] at hw330_1)
            (try rw [Addr.add_zero'] at hw330_1)
            have hw330_0 := hx330_0
            (try rw [show ((0 : Int)).toNat = 0 from rfl] at hw330_0)
            (try rw [show 0 * 3 = 0 from rfl] at hw330_0)
            (try rw [Addr.add_zero'] at hw330_0)
            cases e330
            have qi330 : (0 < l1.length) = True := eq_true (by omega)
            (try rw [show ((0 : Int)).toNat = 0 from rfl] at hx330_0)
            (try rw [show 0 * 3 = 0 from rfl] at hx330_0)
            (try rw [Addr.add_zero'] at hx330_0)
            (try rw [show ((0 : Int)).toNat = 0 from rfl] at hx330_1)
            (try rw [show 0 * 3 = 0 from rfl] at hx330_1)
            (try rw [Addr.add_zero'] at hx330_1)
            (try rw [show ((0 : Int)).toNat = 0 from rfl] at hx330_2)
            (try rw [show 0 * 3 = 0 from rfl] at hx330_2)
            (try rw [Addr.add_zero'] at hx330_2)
            replace hx330_0 := (HB.out.cell (block_lt_of_cell? w _ hx330_0)).trans hx330_0
            replace hx330_1 := (HB.out.cell (block_lt_of_cell? w _ hx330_1)).trans hx330_1
            replace hx330_2 := (HB.out.cell (block_lt_of_cell? w _ hx330_2)).trans hx330_2
            replace p330 := eq_true p330
            replace q330 := eq_true q330
            have p331 : 0 ≤ (0 : Int) := (by omega)
            have q331 : 0 < (l0.length : Int) := of_decide_eq_true (by first | (with_reducible assumption) | assumption)
            obtain ⟨ad331, e331, hx331_0, hx331_1, hx331_2⟩ := at_T31 HR0.out 0 p331 q331
            have hw331_2 := hx331_2
            (try rw [show ((0 : Int)).toNat = 0 from rfl] at hw331_2)
            (try rw [show 0 * 3 = 0 from rfl] at hw331_2)
            (try rw [Addr.add_zero'] at hw331_2)
            have hw331_1 := hx331_1
            (try rw [show ((0 : Int)).toNat = 0 from rfl] at hw331_1)
            (try rw [show 0 * 3 = 0 from rfl] at hw331_1)
            (try rw [Addr.add_zero'] at hw331_1)
            have hw331_0 := hx331_0
            (try rw [show ((0 : Int)).toNat = 0 from rfl] at hw331_0)
            (try rw [show 0 * 3 = 0 from rfl] at hw331_0)
            (try rw [Addr.add_zero'] at hw331_0)
            cases e331
            have qi331 : (0 < l0.length) = True := eq_true (by omega)
            (try rw [show ((0 : Int)).toNat = 0 from rfl] at hx331_0)
            (try rw [show 0 * 3 = 0 from rfl] at hx331_0)
            (try rw [Addr.add_zero'] at hx331_0)
            (try rw [show ((0 : Int)).toNat = 0 from rfl] at hx331_1)
            (try rw [show 0 * 3 = 0 from rfl] at hx331_1)
            (try rw [Addr.add_zero'] at hx331_1)
            (try rw [show ((0 : Int)).toNat = 0 from rfl] at hx331_2)
            (try rw [show 0 * 3 = 0 from rfl] at hx331_2)
            (try rw [Addr.add_zero'] at hx331_2)
            replace hx331_0 := (HB.out.cell (block_lt_of_cell? w _ hx331_0)).trans hx331_0
            replace hx331_1 := (HB.out.cell (block_lt_of_cell? w _ hx331_1)).trans hx331_1
            replace hx331_2 := (HB.out.cell (block_lt_of_cell? w _ hx331_2)).trans hx331_2
            replace p331 := eq_true p331
            replace q331 := eq_true q331
            refine start_ (n := 8) (S := fun w' => w'.cell? ad330 = some (.int .i64 ((rd_T31 l1 0).f0)) ∧ w'.cell? ⟨ad330.block, ad330.off + 1, none⟩ = some (.int .i64 ((rd_T31 l1 0).f1)) ∧ w'.cell? ⟨ad330.block, ad330.off + 2, none⟩ = some (.int .i64 ((rd_T31 l1 0).f2)) ∧ w'.cell? ad331 = some (.int .i64 ((rd_T31 l0 0).f0)) ∧ w'.cell? ⟨ad331.block, ad331.off + 1, none⟩ = some (.int .i64 ((rd_T31 l0 0).f1)) ∧ w'.cell? ⟨ad331.block, ad331.off + 2, none⟩ = some (.int .i64 ((rd_T31 l0 0).f2))) (ds := []) #[false, false, false, false, false, false, false, false] (by kernel_rfl) rfl rfl ⟨((HB.out.cell (block_lt_of_cell? w _ hw330_0)).trans hw330_0), ((HB.out.cell (block_lt_of_cell? w _ hw330_1)).trans hw330_1), ((HB.out.cell (block_lt_of_cell? w _ hw330_2)).trans hw330_2), ((HB.out.cell (block_lt_of_cell? w _ hw331_0)).trans hw331_0), ((HB.out.cell (block_lt_of_cell? w _ hw331_1)).trans hw331_1), ((HB.out.cell (block_lt_of_cell? w _ hw331_2)).trans hw331_2)⟩ (fun hHeld => ?_); refine with_tabW impl_merge.tab5 impl_merge.bits5 (fun HT_ HW_ => ?_)
            generalize w.drew = w16 at HB hx330_0 hx330_1 hx330_2 hx331_0 hx331_1 hx331_2 hHeld ⊢
            refine pure_ (i := 0) (N := some 17) (v := ?_) (a' := ?_) #[true, false, false, false, false, false, false, false] rfl rfl (any_of HT_.out (by kernel_rfl)) (fun _ _ _ h => h) (Or.inl ⟨by rfl, ?_⟩) ?_ ?_
            rotate_left
            · intro w'
              go_simp
              with_reducible rfl
            rotate_left
            · simp only [Act.put, stA, stZ, stS, i64_w, i32_w]
              rfl
            refine pure_ (i := 1) (N := some 18) (v := ?_) (a' := ?_) #[true, true, false, false, false, false, false, false] rfl rfl (any_of HT_.out (by kernel_rfl)) (fun _ _ _ h => h) (Or.inl ⟨by rfl, ?_⟩) ?_ ?_
            rotate_left
            · intro w'
              go_simp
              with_reducible rfl
            rotate_left
            · simp only [Act.put, stA, stZ, stS, i64_w, i32_w]
              rfl
            refine pure_ (i := 3) (N := some 20) (v := ?_) (a' := ?_) #[true, true, false, true, false, false, false, false] rfl rfl (any_of HT_.out (by kernel_rfl)) (fun _ _ _ h => h) (Or.inl ⟨by rfl, ?_⟩) ?_ ?_
            rotate_left
            · intro w'
              go_simp
              with_reducible rfl
            rotate_left
            · simp only [Act.put, stA, stZ, stS, i64_w, i32_w]
              rfl
            refine pure_ (i := 4) (N := some 21) (v := ?_) (a' := ?_) #[true, true, false, true, true, false, false, false] rfl rfl (any_of HT_.out (by kernel_rfl)) (fun _ _ _ h => h) (Or.inl ⟨by rfl, ?_⟩) ?_ ?_
            rotate_left
            · intro w'
              go_simp
              with_reducible rfl
            rotate_left
            · simp only [Act.put, stA, stZ, stS, i64_w, i32_w]
              rfl
            refine take_ (i := 2) (N := some 19) (v := ?_) (a' := ?_) #[true, true, true, true, true, false, false, false] rfl rfl (take_ofW HT_.out HW_.out (by kernel_rfl)) (fun _ _ _ h => h) (Or.inl ⟨by rfl, ?_⟩) hHeld ?_ ?_
            rotate_left
            · rintro w' ⟨s0, s1, s2, s3, s4, s5⟩
              go_simp
              with_reducible rfl
            rotate_left
            · simp only [Act.put, stA, stZ, stS, i64_w, i32_w]
              rfl
            refine take_ (i := 5) (N := some 22) (v := ?_) (a' := ?_) #[true, true, true, true, true, true, false, false] rfl rfl (take_ofW HT_.out HW_.out (by kernel_rfl)) (fun _ _ _ h => h) (Or.inl ⟨by rfl, ?_⟩) hHeld ?_ ?_
            rotate_left
            · rintro w' ⟨s0, s1, s2, s3, s4, s5⟩
              go_simp
              with_reducible rfl
            rotate_left
            · simp only [Act.put, stA, stZ, stS, i64_w, i32_w]
              rfl
            refine one_ (i := 6) (N := some 23) #[true, true, true, true, true, true, true, false] rfl rfl (one_of HT_.out (by kernel_rfl)) (by decide) (fun K hK => ?_)
            refine goes_ Try.func77 (by kernel_rfl) rfl #[.agg #[.int .i64 ((rd_T31 l1 0).f0), .int .i64 ((rd_T31 l1 0).f1), .int .i64 ((rd_T31 l1 0).f2)], .agg #[.int .i64 ((rd_T31 l0 0).f0), .int .i64 ((rd_T31 l0 0).f1), .int .i64 ((rd_T31 l0 0).f2)]] (by rfl) rfl rfl (by (try simp only [map_toArray, map_cons, map_nil]); first | done | rfl | (simp only [length_drop, length_take]; rfl)) ?_
            with_reducible refine (impl_Twig_compare.calls k ((rd_T31 l1 0).f0) ((rd_T31 l1 0).f1) ((rd_T31 l1 0).f2) ((rd_T31 l0 0).f0) ((rd_T31 l0 0).f1) ((rd_T31 l0 0).f2) t332 _ A11.out).mono ?_
            rintro e w17 ⟨rfl, hb⟩
            refine ⟨_, rfl, ?_⟩
            have n0_ := Aside0.mk (below_step (by repeat (first | (with_reducible first | exact HB.out | apply bwA | apply bwN | apply bw1) | exact HB.out)) hb)
            clear HB
            have HB := n0_
            clear n0_
            (try clear hb)
            (try clear hb2)
            (try clear hk)
            (try clear hi)
            refine hK.out _ _ ⟨((HB.out.cell (block_lt_of_cell? w _ hw330_0)).trans hw330_0), ((HB.out.cell (block_lt_of_cell? w _ hw330_1)).trans hw330_1), ((HB.out.cell (block_lt_of_cell? w _ hw330_2)).trans hw330_2), ((HB.out.cell (block_lt_of_cell? w _ hw331_0)).trans hw331_0), ((HB.out.cell (block_lt_of_cell? w _ hw331_1)).trans hw331_1), ((HB.out.cell (block_lt_of_cell? w _ hw331_2)).trans hw331_2)⟩ (fun hHeld => ?_)
            clear hK K
            refine norm_ (a' := ?_) ?_ ?_
            rotate_left
            · show Act.put _ (some 23) _ = _
              simp only [Act.put, stA, stZ, stS, i64_w, i32_w]
              rfl
            refine pure_ (i := 7) (N := some 24) (v := ?_) (a' := ?_) #[true, true, true, true, true, true, true, true] rfl rfl (any_of HT_.out (by kernel_rfl)) (fun _ _ _ h => h) (Or.inl ⟨by rfl, ?_⟩) ?_ ?_
            rotate_left
            · intro w'
              go_simp
              with_reducible rfl
            rotate_left
            · simp only [Act.put, stA, stZ, stS, i64_w, i32_w]
              rfl
            refine done_ (done_of HT_.out (by kernel_rfl)) ?_
            try go_wp2_with (first | ((with_reducible refine gate_callee (f := 57) rfl ?_); refine goesL_ (some 29) rfl rfl Try.func57 (by kernel_rfl) rfl #[.slice (some ad330) l1.length c1] rfl (by (try simp only [map_toArray, map_cons, map_nil]); first | done | rfl | (simp only [length_drop, length_take]; rfl)) ?_; (with_reducible refine (impl_parts.calls (fun k_ => k_ < w.heap.size) _ _ l1 t333 t336 _ ?side1 A13.out).mono ?_); (case side1 => exact Kd.V_mk HC1.out (Kd.F_below (Kd.C_F k31_heap HR1.out) (by repeat (first | (with_reducible first | exact HB.out | apply bwA | apply bwN | apply bw1) | exact HB.out)))); rintro e w18 ⟨v334, v337, rfl, ho0, ho1, hb⟩; refine ⟨_, rfl, ?_⟩; have n0_ := Aside0.mk (Kd.V_lower (Kd.V_mono (ok' := fun k_ => True) ho0 (fun k_ hk_ => trivial)) (below_size (by repeat (first | (with_reducible first | exact HB.out | apply bwA | apply bwN | apply bw1) | exact HB.out)))); have n1_ := Aside0.mk (Kd.V_lower (Kd.V_mono (ok' := fun k_ => True) ho1 (fun k_ hk_ => trivial)) (below_size (by repeat (first | (with_reducible first | exact HB.out | apply bwA | apply bwN | apply bw1) | exact HB.out)))); have n2_ := Aside0.mk (below_step (by repeat (first | (with_reducible first | exact HB.out | apply bwA | apply bwN | apply bw1) | exact HB.out)) hb); clear HB; have HO335 := n0_; have HO338 := n1_; have HB := n2_; clear n0_ n1_ n2_; (try clear hb); (try clear hb2); (try clear hk); (try clear hi); (try clear ho0); (try clear ho1)))
            have n0_ := Aside0.mk (Kd.V_drew HO335.out)
            have n1_ := Aside0.mk (Kd.V_drew HO338.out)
            have n2_ := Aside0.mk (bw1 HB.out)
            clear HO335
            clear HO338
            clear HB
            have HO335 := n0_
            have HO338 := n1_
            have HB := n2_
            clear n0_ n1_ n2_
            have p339 : 0 ≤ (0 : Int) := (by omega)
            have q339 : 0 < (l1.length : Int) := of_decide_eq_true (by first | (with_reducible assumption) | assumption)
            obtain ⟨ad339, e339, hx339_0, hx339_1, hx339_2⟩ := at_T31 HR1.out 0 p339 q339
            have hw339_2 := hx339_2
            (try rw [show ((0 : Int)).toNat = 0 from rfl] at hw339_2)
            (try rw [show 0 * 3 = 0 from rfl] at hw339_2)
            (try rw [Addr.add_zero'] at hw339_2)
            have hw339_1 := hx339_1
            (try rw [show ((0 : Int)).toNat = 0 from rfl] at hw339_1)
            (try rw [show 0 * 3 = 0 from rfl] at hw339_1)
            (try rw [Addr.add_zero'] at hw339_1)
            have hw339_0 := hx339_0
            (try rw [show ((0 : Int)).toNat = 0 from rfl] at hw339_0)
            (try rw [show 0 * 3 = 0 from rfl] at hw339_0)
            (try rw [Addr.add_zero'] at hw339_0)
            obtain rfl : ad330 = ad339 := (by injection e339)
            have qi339 : (0 < l1.length) = True := eq_true (by omega)
            (try rw [show ((0 : Int)).toNat = 0 from rfl] at hx339_0)
            (try rw [show 0 * 3 = 0 from rfl] at hx339_0)
            (try rw [Addr.add_zero'] at hx339_0)
            (try rw [show ((0 : Int)).toNat = 0 from rfl] at hx339_1)
            (try rw [show 0 * 3 = 0 from rfl] at hx339_1)
            (try rw [Addr.add_zero'] at hx339_1)
            (try rw [show ((0 : Int)).toNat = 0 from rfl] at hx339_2)
            (try rw [show 0 * 3 = 0 from rfl] at hx339_2)
            (try rw [Addr.add_zero'] at hx339_2)
            replace hx339_0 := (HB.out.cell (block_lt_of_cell? w _ hx339_0)).trans hx339_0
            replace hx339_1 := (HB.out.cell (block_lt_of_cell? w _ hx339_1)).trans hx339_1
            replace hx339_2 := (HB.out.cell (block_lt_of_cell? w _ hx339_2)).trans hx339_2
            replace p339 := eq_true p339
            replace q339 := eq_true q339
            obtain ⟨Ao20, co20, eo20⟩ := Kd.V_slice HO338.out
            (first | subst eo20 | (injection eo20 with f1_ f2_ f3_; have f4_ := f1_.symm; have f5_ := f3_.symm; clear f1_ f2_ f3_; subst f4_; subst f5_))
            refine start_ (n := 9) (S := fun w' => w'.cell? ad330 = some (.int .i64 ((rd_T31 l1 0).f0)) ∧ w'.cell? ⟨ad330.block, ad330.off + 1, none⟩ = some (.int .i64 ((rd_T31 l1 0).f1)) ∧ w'.cell? ⟨ad330.block, ad330.off + 2, none⟩ = some (.int .i64 ((rd_T31 l1 0).f2))) (ds := []) #[false, false, false, false, false, false, false, false, false] (by kernel_rfl) rfl rfl ⟨((HB.out.cell (block_lt_of_cell? w _ hw339_0)).trans hw339_0), ((HB.out.cell (block_lt_of_cell? w _ hw339_1)).trans hw339_1), ((HB.out.cell (block_lt_of_cell? w _ hw339_2)).trans hw339_2)⟩ (fun hHeld => ?_); refine with_tabW impl_merge.tab8 impl_merge.bits8 (fun HT_ HW_ => ?_)
            generalize w18.drew = w19 at HO335 HO338 HB hx339_0 hx339_1 hx339_2 hHeld ⊢
            refine pure_ (i := 0) (N := some 32) (v := ?_) (a' := ?_) #[true, false, false, false, false, false, false, false, false] rfl rfl (any_of HT_.out (by kernel_rfl)) (fun _ _ _ h => h) (Or.inl ⟨by rfl, ?_⟩) ?_ ?_
            rotate_left
            · intro w'
              go_simp
              with_reducible rfl
            rotate_left
            · simp only [Act.put, stA, stZ, stS, i64_w, i32_w]
              rfl
            refine pure_ (i := 1) (N := some 33) (v := ?_) (a' := ?_) #[true, true, false, false, false, false, false, false, false] rfl rfl (any_of HT_.out (by kernel_rfl)) (fun _ _ _ h => h) (Or.inl ⟨by rfl, ?_⟩) ?_ ?_
            rotate_left
            · intro w'
              go_simp
              with_reducible rfl
            rotate_left
            · simp only [Act.put, stA, stZ, stS, i64_w, i32_w]
              rfl
            refine pure_ (i := 3) (N := some 35) (v := ?_) (a' := ?_) #[true, true, false, true, false, false, false, false, false] rfl rfl (any_of HT_.out (by kernel_rfl)) (fun _ _ _ h => h) (Or.inl ⟨by rfl, ?_⟩) ?_ ?_
            rotate_left
            · intro w'
              go_simp
              with_reducible rfl
            rotate_left
            · simp only [Act.put, stA, stZ, stS, i64_w, i32_w]
              rfl
            refine pure_ (i := 4) (N := some 36) (v := ?_) (a' := ?_) #[true, true, false, true, true, false, false, false, false] rfl rfl (any_of HT_.out (by kernel_rfl)) (fun _ _ _ h => h) (Or.inl ⟨by rfl, ?_⟩) ?_ ?_
            rotate_left
            · intro w'
              go_simp
              with_reducible rfl
            rotate_left
            · simp only [Act.put, stA, stZ, stS, i64_w, i32_w]
              rfl
            refine pure_ (i := 5) (N := some 37) (v := ?_) (a' := ?_) #[true, true, false, true, true, true, false, false, false] rfl rfl (any_of HT_.out (by kernel_rfl)) (fun _ _ _ h => h) (Or.inl ⟨by rfl, ?_⟩) ?_ ?_
            rotate_left
            · intro w'
              go_simp
              with_reducible rfl
            rotate_left
            · simp only [Act.put, stA, stZ, stS, i64_w, i32_w]
              rfl
            refine take_ (i := 2) (N := some 34) (v := ?_) (a' := ?_) #[true, true, true, true, true, true, false, false, false] rfl rfl (take_ofW HT_.out HW_.out (by kernel_rfl)) (fun _ _ _ h => h) (Or.inl ⟨by rfl, ?_⟩) hHeld ?_ ?_
            rotate_left
            · rintro w' ⟨s0, s1, s2⟩
              go_simp
              with_reducible rfl
            rotate_left
            · simp only [Act.put, stA, stZ, stS, i64_w, i32_w]
              rfl
            refine one_ (i := 6) (N := some 38) #[true, true, true, true, true, true, true, false, false] rfl rfl (one_of HT_.out (by kernel_rfl)) (by decide) (fun K hK => ?_)
            refine goes_ Try.func58 (by kernel_rfl) rfl #[.slice Ao20 t336.length co20, .slice (some ad331) l0.length c0] (by rfl) rfl rfl (by (try simp only [map_toArray, map_cons, map_nil]); first | done | rfl | (simp only [length_drop, length_take]; rfl)) ?_
            with_reducible refine (ih k (by omega) _ _ t336 _ _ l0 t340 _ ?side1 ?side2 ?side3 ?side4 A14.out).mono ?_
            (case side1 => repeat (first | exact (Kd.V_reads' HO338.out).2.2 | (with_reducible refine C_alloc ?_ _) | (with_reducible refine C_drewN ?_ _) | (with_reducible refine C_drew ?_)))
            (case side2 => exact (Kd.V_reads' HO338.out).2.1)
            (case side3 => repeat (first | exact (C_below HR0.out HB.out) | (with_reducible refine C_alloc ?_ _) | (with_reducible refine C_drewN ?_ _) | (with_reducible refine C_drew ?_)))
            (case side4 => exact HC0.out)
            rintro e w21 ⟨v341, rfl, ho0, hb⟩
            refine ⟨_, rfl, ?_⟩
            have n0_ := Aside0.mk (Kd.V_elder' (by (with_reducible repeat (first | apply Kd.V_alloc | apply Kd.V_drewN | apply Kd.V_drew)); exact HO335.out) (Kd.R_base ho0) hb)
            have n1_ := Aside0.mk (Kd.V_elder' (by (with_reducible repeat (first | apply Kd.V_alloc | apply Kd.V_drewN | apply Kd.V_drew)); exact HO338.out) (Kd.R_base ho0) hb)
            have n2_ := Aside0.mk (Kd.R_lower ho0 (below_size (by repeat (first | (with_reducible first | exact HB.out | apply bwA | apply bwN | apply bw1) | exact HB.out))))
            have n3_ := Aside0.mk (below_step (by repeat (first | (with_reducible first | exact HB.out | apply bwA | apply bwN | apply bw1) | exact HB.out)) hb)
            clear HO335
            clear HO338
            clear HB
            have HO335 := n0_
            have HO338 := n1_
            have HO342 := n2_
            have HB := n3_
            clear n0_ n1_ n2_ n3_
            (try clear hb)
            (try clear hb2)
            (try clear hk)
            (try clear hi)
            (try clear ho0)
            obtain ⟨Ao22, co22, eo22⟩ := Kd.V_slice HO335.out
            (first | subst eo22 | (injection eo22 with f1_ f2_ f3_; have f4_ := f1_.symm; have f5_ := f3_.symm; clear f1_ f2_ f3_; subst f4_; subst f5_))
            obtain ⟨Ao23, co23, eo23⟩ := Kd.R_slice HO342.out
            (first | subst eo23 | (injection eo23 with f1_ f2_ f3_; have f4_ := f1_.symm; have f5_ := f3_.symm; clear f1_ f2_ f3_; subst f4_; subst f5_))
            refine hK.out _ _ ⟨((HB.out.cell (block_lt_of_cell? w _ hw339_0)).trans hw339_0), ((HB.out.cell (block_lt_of_cell? w _ hw339_1)).trans hw339_1), ((HB.out.cell (block_lt_of_cell? w _ hw339_2)).trans hw339_2)⟩ (fun hHeld => ?_)
            clear hK K
            refine norm_ (a' := ?_) ?_ ?_
            rotate_left
            · show Act.put _ (some 38) _ = _
              simp only [Act.put, stA, stZ, stS, i64_w, i32_w]
              rfl
            refine one_ (i := 7) (N := some 39) #[true, true, true, true, true, true, true, true, false] rfl rfl (one_of HT_.out (by kernel_rfl)) (by decide) (fun K hK => ?_)
            refine goes_ Try.func87 (by kernel_rfl) rfl #[.agg #[.int .i64 ((rd_T31 l1 0).f0), .int .i64 ((rd_T31 l1 0).f1), .int .i64 ((rd_T31 l1 0).f2)], .slice Ao22 t333.length co22, .slice Ao23 t340.length co23] (by rfl) rfl rfl (by (try simp only [map_toArray, map_cons, map_nil]); first | done | rfl | (simp only [length_drop, length_take]; rfl)) ?_
            with_reducible refine (impl_joined.calls k ((rd_T31 l1 0).f0) ((rd_T31 l1 0).f1) ((rd_T31 l1 0).f2) _ _ t333 _ _ t340 t343 _ ?side1 ?side2 ?side3 ?side4 A15.out).mono ?_
            (case side1 => repeat (first | exact (Kd.V_reads' HO335.out).2.2 | (with_reducible refine C_alloc ?_ _) | (with_reducible refine C_drewN ?_ _) | (with_reducible refine C_drew ?_)))
            (case side2 => exact (Kd.V_reads' HO335.out).2.1)
            (case side3 => repeat (first | exact (R_reads' HO342.out).2.2 | (with_reducible refine C_alloc ?_ _) | (with_reducible refine C_drewN ?_ _) | (with_reducible refine C_drew ?_)))
            (case side4 => exact (R_reads' HO342.out).2.1)
            rintro e w24 ⟨v344, rfl, ho0, hb⟩
            refine ⟨_, rfl, ?_⟩
            have n0_ := Aside0.mk (Kd.V_elder' (by (with_reducible repeat (first | apply Kd.V_alloc | apply Kd.V_drewN | apply Kd.V_drew)); exact HO335.out) (Kd.R_base ho0) hb)
            have n1_ := Aside0.mk (Kd.V_elder' (by (with_reducible repeat (first | apply Kd.V_alloc | apply Kd.V_drewN | apply Kd.V_drew)); exact HO338.out) (Kd.R_base ho0) hb)
            have n2_ := Aside0.mk (Kd.R_elder' (by (with_reducible repeat (first | apply R_alloc | apply R_drewN | apply R_drew)); exact HO342.out) (Kd.R_base ho0) hb)
            have n3_ := Aside0.mk (Kd.R_lower (Kd.R_new' ho0 (Kd.R_lt (by (with_reducible repeat (first | apply R_alloc | apply R_drewN | apply R_drew)); exact HO342.out))) (below_size (by repeat (first | (with_reducible first | exact HB.out | apply bwA | apply bwN | apply bw1) | exact HB.out))))
            have n4_ := Aside0.mk (below_step (by repeat (first | (with_reducible first | exact HB.out | apply bwA | apply bwN | apply bw1) | exact HB.out)) hb)
            clear HO335
            clear HO338
            clear HO342
            clear HB
            have HO335 := n0_
            have HO338 := n1_
            have HO342 := n2_
            have HO345 := n3_
            have HB := n4_
            clear n0_ n1_ n2_ n3_ n4_
            (try clear hb)
            (try clear hb2)
            (try clear hk)
            (try clear hi)
            (try clear ho0)
            refine hK.out _ _ ⟨((HB.out.cell (block_lt_of_cell? w _ hw339_0)).trans hw339_0), ((HB.out.cell (block_lt_of_cell? w _ hw339_1)).trans hw339_1), ((HB.out.cell (block_lt_of_cell? w _ hw339_2)).trans hw339_2)⟩ (fun hHeld => ?_)
            clear hK K
            refine norm_ (a' := ?_) ?_ ?_
            rotate_left
            · show Act.put _ (some 39) _ = _
              simp only [Act.put, stA, stZ, stS, i64_w, i32_w]
              rfl
            refine pure_ (i := 8) (N := some 4) (v := ?_) (a' := ?_) #[true, true, true, true, true, true, true, true, true] rfl rfl (any_of HT_.out (by kernel_rfl)) (fun _ _ _ h => h) (Or.inl ⟨by rfl, ?_⟩) ?_ ?_
            rotate_left
            · intro w'
              go_simp
              with_reducible rfl
            rotate_left
            · simp only [Act.put, stA, stZ, stS, i64_w, i32_w]
              rfl
            refine done_ (done_of HT_.out (by kernel_rfl)) ?_
            try go_wp2
            go_ret
            exact ⟨_, by first | rfl | (simp [errW_none, errW_some] <;> rfl) | (simp [*, errW_none, errW_some] <;> rfl), by (with_reducible repeat (first | apply R_alloc | apply R_drewN | apply R_drew)); exact Kd.R_mono HO345.out (fun _ hk => trivial), by repeat (first | (with_reducible first | exact HB.out | apply bwA | apply bwN | apply bw1) | exact HB.out)⟩
          · rw [if_neg c12] at H
            have c12b0 : decide (t332 < 0) = false := decide_eq_false c12
            clear c12
            replace H := bind_eq_some_iff.mp H
            obtain ⟨⟨t346, t349⟩, A250, H⟩ := H
            replace H : ((impl_merge.f k t349 l1).bind fun t353 => ((impl_joined.f k ((rd_T31 l0 0).f0) ((rd_T31 l0 0).f1) ((rd_T31 l0 0).f2) t346 t353).bind fun t356 => (some t356))) = some r := H
            have A25 := Aside0.mk A250
            clear A250
            replace H := bind_eq_some_iff.mp H
            obtain ⟨t353, A260, H⟩ := H
            replace H : ((impl_joined.f k ((rd_T31 l0 0).f0) ((rd_T31 l0 0).f1) ((rd_T31 l0 0).f2) t346 t353).bind fun t356 => (some t356)) = some r := H
            have A26 := Aside0.mk A260
            clear A260
            replace H := bind_eq_some_iff.mp H
            obtain ⟨t356, A270, H⟩ := H
            replace H : (some t356) = some r := H
            have A27 := Aside0.mk A270
            clear A270
            obtain rfl := Option.some.inj H
            go_enter Try.func58, Try.ntmps58
            try go_wp2
            have n0_ := Aside0.mk (bw1 HB.out)
            clear HB
            have HB := n0_
            clear n0_
            have p330 : 0 ≤ (0 : Int) := (by omega)
            have q330 : 0 < (l1.length : Int) := of_decide_eq_true (by first | (with_reducible assumption) | assumption)
            obtain ⟨ad330, e330, hx330_0, hx330_1, hx330_2⟩ := at_T31 HR1.out 0 p330 q330
            have hw330_2 := hx330_2
            (try rw [show ((0 : Int)).toNat = 0 from rfl] at hw330_2)
            (try rw [show 0 * 3 = 0 from rfl] at hw330_2)
            (try rw [Addr.add_zero'] at hw330_2)
            have hw330_1 := hx330_1
            (try rw [show ((0 : Int)).toNat = 0 from rfl] at hw330_1)
            (try rw [show 0 * 3 = 0 from rfl] at hw330_1)
            (try rw [Addr.add_zero'] at hw330_1)
            have hw330_0 := hx330_0
            (try rw [show ((0 : Int)).toNat = 0 from rfl] at hw330_0)
            (try rw [show 0 * 3 = 0 from rfl] at hw330_0)
            (try rw [Addr.add_zero'] at hw330_0)
            cases e330
            have qi330 : (0 < l1.length) = True := eq_true (by omega)
            (try rw [show ((0 : Int)).toNat = 0 from rfl] at hx330_0)
            (try rw [show 0 * 3 = 0 from rfl] at hx330_0)
            (try rw [Addr.add_zero'] at hx330_0)
            (try rw [show ((0 : Int)).toNat = 0 from rfl] at hx330_1)
            (try rw [show 0 * 3 = 0 from rfl] at hx330_1)
            (try rw [Addr.add_zero'] at hx330_1)
            (try rw [show ((0 : Int)).toNat = 0 from rfl] at hx330_2)
            (try rw [show 0 * 3 = 0 from rfl] at hx330_2)
            (try rw [Addr.add_zero'] at hx330_2)
            replace hx330_0 := (HB.out.cell (block_lt_of_cell? w _ hx330_0)).trans hx330_0
            replace hx330_1 := (HB.out.cell (block_lt_of_cell? w _ hx330_1)).trans hx330_1
            replace hx330_2 := (HB.out.cell (block_lt_of_cell? w _ hx330_2)).trans hx330_2
            replace p330 := eq_true p330
            replace q330 := eq_true q330
            have p331 : 0 ≤ (0 : Int) := (by omega)
            have q331 : 0 < (l0.length : Int) := of_decide_eq_true (by first | (with_reducible assumption) | assumption)
            obtain ⟨ad331, e331, hx331_0, hx331_1, hx331_2⟩ := at_T31 HR0.out 0 p331 q331
            have hw331_2 := hx331_2
            (try rw [show ((0 : Int)).toNat = 0 from rfl] at hw331_2)
            (try rw [show 0 * 3 = 0 from rfl] at hw331_2)
            (try rw [Addr.add_zero'] at hw331_2)
            have hw331_1 := hx331_1
            (try rw [show ((0 : Int)).toNat = 0 from rfl] at hw331_1)
            (try rw [show 0 * 3 = 0 from rfl] at hw331_1)
            (try rw [Addr.add_zero'] at hw331_1)
            have hw331_0 := hx331_0
            (try rw [show ((0 : Int)).toNat = 0 from rfl] at hw331_0)
            (try rw [show 0 * 3 = 0 from rfl] at hw331_0)
            (try rw [Addr.add_zero'] at hw331_0)
            cases e331
            have qi331 : (0 < l0.length) = True := eq_true (by omega)
            (try rw [show ((0 : Int)).toNat = 0 from rfl] at hx331_0)
            (try rw [show 0 * 3 = 0 from rfl] at hx331_0)
            (try rw [Addr.add_zero'] at hx331_0)
            (try rw [show ((0 : Int)).toNat = 0 from rfl] at hx331_1)
            (try rw [show 0 * 3 = 0 from rfl] at hx331_1)
            (try rw [Addr.add_zero'] at hx331_1)
            (try rw [show ((0 : Int)).toNat = 0 from rfl] at hx331_2)
            (try rw [show 0 * 3 = 0 from rfl] at hx331_2)
            (try rw [Addr.add_zero'] at hx331_2)
            replace hx331_0 := (HB.out.cell (block_lt_of_cell? w _ hx331_0)).trans hx331_0
            replace hx331_1 := (HB.out.cell (block_lt_of_cell? w _ hx331_1)).trans hx331_1
            replace hx331_2 := (HB.out.cell (block_lt_of_cell? w _ hx331_2)).trans hx331_2
            replace p331 := eq_true p331
            replace q331 := eq_true q331
            refine start_ (n := 8) (S := fun w' => w'.cell? ad330 = some (.int .i64 ((rd_T31 l1 0).f0)) ∧ w'.cell? ⟨ad330.block, ad330.off + 1, none⟩ = some (.int .i64 ((rd_T31 l1 0).f1)) ∧ w'.cell? ⟨ad330.block, ad330.off + 2, none⟩ = some (.int .i64 ((rd_T31 l1 0).f2)) ∧ w'.cell? ad331 = some (.int .i64 ((rd_T31 l0 0).f0)) ∧ w'.cell? ⟨ad331.block, ad331.off + 1, none⟩ = some (.int .i64 ((rd_T31 l0 0).f1)) ∧ w'.cell? ⟨ad331.block, ad331.off + 2, none⟩ = some (.int .i64 ((rd_T31 l0 0).f2))) (ds := []) #[false, false, false, false, false, false, false, false] (by kernel_rfl) rfl rfl ⟨((HB.out.cell (block_lt_of_cell? w _ hw330_0)).trans hw330_0), ((HB.out.cell (block_lt_of_cell? w _ hw330_1)).trans hw330_1), ((HB.out.cell (block_lt_of_cell? w _ hw330_2)).trans hw330_2), ((HB.out.cell (block_lt_of_cell? w _ hw331_0)).trans hw331_0), ((HB.out.cell (block_lt_of_cell? w _ hw331_1)).trans hw331_1), ((HB.out.cell (block_lt_of_cell? w _ hw331_2)).trans hw331_2)⟩ (fun hHeld => ?_); refine with_tabW impl_merge.tab5 impl_merge.bits5 (fun HT_ HW_ => ?_)
            generalize w.drew = w28 at HB hx330_0 hx330_1 hx330_2 hx331_0 hx331_1 hx331_2 hHeld ⊢
            refine pure_ (i := 0) (N := some 17) (v := ?_) (a' := ?_) #[true, false, false, false, false, false, false, false] rfl rfl (any_of HT_.out (by kernel_rfl)) (fun _ _ _ h => h) (Or.inl ⟨by rfl, ?_⟩) ?_ ?_
            rotate_left
            · intro w'
              go_simp
              with_reducible rfl
            rotate_left
            · simp only [Act.put, stA, stZ, stS, i64_w, i32_w]
              rfl
            refine pure_ (i := 1) (N := some 18) (v := ?_) (a' := ?_) #[true, true, false, false, false, false, false, false] rfl rfl (any_of HT_.out (by kernel_rfl)) (fun _ _ _ h => h) (Or.inl ⟨by rfl, ?_⟩) ?_ ?_
            rotate_left
            · intro w'
              go_simp
              with_reducible rfl
            rotate_left
            · simp only [Act.put, stA, stZ, stS, i64_w, i32_w]
              rfl
            refine pure_ (i := 3) (N := some 20) (v := ?_) (a' := ?_) #[true, true, false, true, false, false, false, false] rfl rfl (any_of HT_.out (by kernel_rfl)) (fun _ _ _ h => h) (Or.inl ⟨by rfl, ?_⟩) ?_ ?_
            rotate_left
            · intro w'
              go_simp
              with_reducible rfl
            rotate_left
            · simp only [Act.put, stA, stZ, stS, i64_w, i32_w]
              rfl
            refine pure_ (i := 4) (N := some 21) (v := ?_) (a' := ?_) #[true, true, false, true, true, false, false, false] rfl rfl (any_of HT_.out (by kernel_rfl)) (fun _ _ _ h => h) (Or.inl ⟨by rfl, ?_⟩) ?_ ?_
            rotate_left
            · intro w'
              go_simp
              with_reducible rfl
            rotate_left
            · simp only [Act.put, stA, stZ, stS, i64_w, i32_w]
              rfl
            refine take_ (i := 2) (N := some 19) (v := ?_) (a' := ?_) #[true, true, true, true, true, false, false, false] rfl rfl (take_ofW HT_.out HW_.out (by kernel_rfl)) (fun _ _ _ h => h) (Or.inl ⟨by rfl, ?_⟩) hHeld ?_ ?_
            rotate_left
            · rintro w' ⟨s0, s1, s2, s3, s4, s5⟩
              go_simp
              with_reducible rfl
            rotate_left
            · simp only [Act.put, stA, stZ, stS, i64_w, i32_w]
              rfl
            refine take_ (i := 5) (N := some 22) (v := ?_) (a' := ?_) #[true, true, true, true, true, true, false, false] rfl rfl (take_ofW HT_.out HW_.out (by kernel_rfl)) (fun _ _ _ h => h) (Or.inl ⟨by rfl, ?_⟩) hHeld ?_ ?_
            rotate_left
            · rintro w' ⟨s0, s1, s2, s3, s4, s5⟩
              go_simp
              with_reducible rfl
            rotate_left
            · simp only [Act.put, stA, stZ, stS, i64_w, i32_w]
              rfl
            refine one_ (i := 6) (N := some 23) #[true, true, true, true, true, true, true, false] rfl rfl (one_of HT_.out (by kernel_rfl)) (by decide) (fun K hK => ?_)
            refine goes_ Try.func77 (by kernel_rfl) rfl #[.agg #[.int .i64 ((rd_T31 l1 0).f0), .int .i64 ((rd_T31 l1 0).f1), .int .i64 ((rd_T31 l1 0).f2)], .agg #[.int .i64 ((rd_T31 l0 0).f0), .int .i64 ((rd_T31 l0 0).f1), .int .i64 ((rd_T31 l0 0).f2)]] (by rfl) rfl rfl (by (try simp only [map_toArray, map_cons, map_nil]); first | done | rfl | (simp only [length_drop, length_take]; rfl)) ?_
            with_reducible refine (impl_Twig_compare.calls k ((rd_T31 l1 0).f0) ((rd_T31 l1 0).f1) ((rd_T31 l1 0).f2) ((rd_T31 l0 0).f0) ((rd_T31 l0 0).f1) ((rd_T31 l0 0).f2) t332 _ A11.out).mono ?_
            rintro e w29 ⟨rfl, hb⟩
            refine ⟨_, rfl, ?_⟩
            have n0_ := Aside0.mk (below_step (by repeat (first | (with_reducible first | exact HB.out | apply bwA | apply bwN | apply bw1) | exact HB.out)) hb)
            clear HB
            have HB := n0_
            clear n0_
            (try clear hb)
            (try clear hb2)
            (try clear hk)
            (try clear hi)
            refine hK.out _ _ ⟨((HB.out.cell (block_lt_of_cell? w _ hw330_0)).trans hw330_0), ((HB.out.cell (block_lt_of_cell? w _ hw330_1)).trans hw330_1), ((HB.out.cell (block_lt_of_cell? w _ hw330_2)).trans hw330_2), ((HB.out.cell (block_lt_of_cell? w _ hw331_0)).trans hw331_0), ((HB.out.cell (block_lt_of_cell? w _ hw331_1)).trans hw331_1), ((HB.out.cell (block_lt_of_cell? w _ hw331_2)).trans hw331_2)⟩ (fun hHeld => ?_)
            clear hK K
            refine norm_ (a' := ?_) ?_ ?_
            rotate_left
            · show Act.put _ (some 23) _ = _
              simp only [Act.put, stA, stZ, stS, i64_w, i32_w]
              rfl
            refine pure_ (i := 7) (N := some 24) (v := ?_) (a' := ?_) #[true, true, true, true, true, true, true, true] rfl rfl (any_of HT_.out (by kernel_rfl)) (fun _ _ _ h => h) (Or.inl ⟨by rfl, ?_⟩) ?_ ?_
            rotate_left
            · intro w'
              go_simp
              with_reducible rfl
            rotate_left
            · simp only [Act.put, stA, stZ, stS, i64_w, i32_w]
              rfl
            refine done_ (done_of HT_.out (by kernel_rfl)) ?_
            try go_wp2_with (first | ((with_reducible refine gate_callee (f := 57) rfl ?_); refine goesL_ (some 29) rfl rfl Try.func57 (by kernel_rfl) rfl #[.slice (some ad331) l0.length c0] rfl (by (try simp only [map_toArray, map_cons, map_nil]); first | done | rfl | (simp only [length_drop, length_take]; rfl)) ?_; (with_reducible refine (impl_parts.calls (fun k_ => k_ < w.heap.size) _ _ l0 t346 t349 _ ?side1 A25.out).mono ?_); (case side1 => exact Kd.V_mk HC0.out (Kd.F_below (Kd.C_F k31_heap HR0.out) (by repeat (first | (with_reducible first | exact HB.out | apply bwA | apply bwN | apply bw1) | exact HB.out)))); rintro e w30 ⟨v347, v350, rfl, ho0, ho1, hb⟩; refine ⟨_, rfl, ?_⟩; have n0_ := Aside0.mk (Kd.V_lower (Kd.V_mono (ok' := fun k_ => True) ho0 (fun k_ hk_ => trivial)) (below_size (by repeat (first | (with_reducible first | exact HB.out | apply bwA | apply bwN | apply bw1) | exact HB.out)))); have n1_ := Aside0.mk (Kd.V_lower (Kd.V_mono (ok' := fun k_ => True) ho1 (fun k_ hk_ => trivial)) (below_size (by repeat (first | (with_reducible first | exact HB.out | apply bwA | apply bwN | apply bw1) | exact HB.out)))); have n2_ := Aside0.mk (below_step (by repeat (first | (with_reducible first | exact HB.out | apply bwA | apply bwN | apply bw1) | exact HB.out)) hb); clear HB; have HO348 := n0_; have HO351 := n1_; have HB := n2_; clear n0_ n1_ n2_; (try clear hb); (try clear hb2); (try clear hk); (try clear hi); (try clear ho0); (try clear ho1)))
            have n0_ := Aside0.mk (Kd.V_drew HO348.out)
            have n1_ := Aside0.mk (Kd.V_drew HO351.out)
            have n2_ := Aside0.mk (bw1 HB.out)
            clear HO348
            clear HO351
            clear HB
            have HO348 := n0_
            have HO351 := n1_
            have HB := n2_
            clear n0_ n1_ n2_
            have p352 : 0 ≤ (0 : Int) := (by omega)
            have q352 : 0 < (l0.length : Int) := of_decide_eq_true (by first | (with_reducible assumption) | assumption)
            obtain ⟨ad352, e352, hx352_0, hx352_1, hx352_2⟩ := at_T31 HR0.out 0 p352 q352
            have hw352_2 := hx352_2
            (try rw [show ((0 : Int)).toNat = 0 from rfl] at hw352_2)
            (try rw [show 0 * 3 = 0 from rfl] at hw352_2)
            (try rw [Addr.add_zero'] at hw352_2)
            have hw352_1 := hx352_1
            (try rw [show ((0 : Int)).toNat = 0 from rfl] at hw352_1)
            (try rw [show 0 * 3 = 0 from rfl] at hw352_1)
            (try rw [Addr.add_zero'] at hw352_1)
            have hw352_0 := hx352_0
            (try rw [show ((0 : Int)).toNat = 0 from rfl] at hw352_0)
            (try rw [show 0 * 3 = 0 from rfl] at hw352_0)
            (try rw [Addr.add_zero'] at hw352_0)
            obtain rfl : ad331 = ad352 := (by injection e352)
            have qi352 : (0 < l0.length) = True := eq_true (by omega)
            (try rw [show ((0 : Int)).toNat = 0 from rfl] at hx352_0)
            (try rw [show 0 * 3 = 0 from rfl] at hx352_0)
            (try rw [Addr.add_zero'] at hx352_0)
            (try rw [show ((0 : Int)).toNat = 0 from rfl] at hx352_1)
            (try rw [show 0 * 3 = 0 from rfl] at hx352_1)
            (try rw [Addr.add_zero'] at hx352_1)
            (try rw [show ((0 : Int)).toNat = 0 from rfl] at hx352_2)
            (try rw [show 0 * 3 = 0 from rfl] at hx352_2)
            (try rw [Addr.add_zero'] at hx352_2)
            replace hx352_0 := (HB.out.cell (block_lt_of_cell? w _ hx352_0)).trans hx352_0
            replace hx352_1 := (HB.out.cell (block_lt_of_cell? w _ hx352_1)).trans hx352_1
            replace hx352_2 := (HB.out.cell (block_lt_of_cell? w _ hx352_2)).trans hx352_2
            replace p352 := eq_true p352
            replace q352 := eq_true q352
            obtain ⟨Ao32, co32, eo32⟩ := Kd.V_slice HO351.out
            (first | subst eo32 | (injection eo32 with f1_ f2_ f3_; have f4_ := f1_.symm; have f5_ := f3_.symm; clear f1_ f2_ f3_; subst f4_; subst f5_))
            refine start_ (n := 9) (S := fun w' => w'.cell? ad331 = some (.int .i64 ((rd_T31 l0 0).f0)) ∧ w'.cell? ⟨ad331.block, ad331.off + 1, none⟩ = some (.int .i64 ((rd_T31 l0 0).f1)) ∧ w'.cell? ⟨ad331.block, ad331.off + 2, none⟩ = some (.int .i64 ((rd_T31 l0 0).f2))) (ds := []) #[false, false, false, false, false, false, false, false, false] (by kernel_rfl) rfl rfl ⟨((HB.out.cell (block_lt_of_cell? w _ hw352_0)).trans hw352_0), ((HB.out.cell (block_lt_of_cell? w _ hw352_1)).trans hw352_1), ((HB.out.cell (block_lt_of_cell? w _ hw352_2)).trans hw352_2)⟩ (fun hHeld => ?_); refine with_tabW impl_merge.tab8 impl_merge.bits8 (fun HT_ HW_ => ?_)
            generalize w30.drew = w31 at HO348 HO351 HB hx352_0 hx352_1 hx352_2 hHeld ⊢
            refine pure_ (i := 0) (N := some 32) (v := ?_) (a' := ?_) #[true, false, false, false, false, false, false, false, false] rfl rfl (any_of HT_.out (by kernel_rfl)) (fun _ _ _ h => h) (Or.inl ⟨by rfl, ?_⟩) ?_ ?_
            rotate_left
            · intro w'
              go_simp
              with_reducible rfl
            rotate_left
            · simp only [Act.put, stA, stZ, stS, i64_w, i32_w]
              rfl
            refine pure_ (i := 1) (N := some 33) (v := ?_) (a' := ?_) #[true, true, false, false, false, false, false, false, false] rfl rfl (any_of HT_.out (by kernel_rfl)) (fun _ _ _ h => h) (Or.inl ⟨by rfl, ?_⟩) ?_ ?_
            rotate_left
            · intro w'
              go_simp
              with_reducible rfl
            rotate_left
            · simp only [Act.put, stA, stZ, stS, i64_w, i32_w]
              rfl
            refine pure_ (i := 3) (N := some 35) (v := ?_) (a' := ?_) #[true, true, false, true, false, false, false, false, false] rfl rfl (any_of HT_.out (by kernel_rfl)) (fun _ _ _ h => h) (Or.inl ⟨by rfl, ?_⟩) ?_ ?_
            rotate_left
            · intro w'
              go_simp
              with_reducible rfl
            rotate_left
            · simp only [Act.put, stA, stZ, stS, i64_w, i32_w]
              rfl
            refine pure_ (i := 4) (N := some 36) (v := ?_) (a' := ?_) #[true, true, false, true, true, false, false, false, false] rfl rfl (any_of HT_.out (by kernel_rfl)) (fun _ _ _ h => h) (Or.inl ⟨by rfl, ?_⟩) ?_ ?_
            rotate_left
            · intro w'
              go_simp
              with_reducible rfl
            rotate_left
            · simp only [Act.put, stA, stZ, stS, i64_w, i32_w]
              rfl
            refine pure_ (i := 5) (N := some 37) (v := ?_) (a' := ?_) #[true, true, false, true, true, true, false, false, false] rfl rfl (any_of HT_.out (by kernel_rfl)) (fun _ _ _ h => h) (Or.inl ⟨by rfl, ?_⟩) ?_ ?_
            rotate_left
            · intro w'
              go_simp
              with_reducible rfl
            rotate_left
            · simp only [Act.put, stA, stZ, stS, i64_w, i32_w]
              rfl
            refine take_ (i := 2) (N := some 34) (v := ?_) (a' := ?_) #[true, true, true, true, true, true, false, false, false] rfl rfl (take_ofW HT_.out HW_.out (by kernel_rfl)) (fun _ _ _ h => h) (Or.inl ⟨by rfl, ?_⟩) hHeld ?_ ?_
            rotate_left
            · rintro w' ⟨s0, s1, s2⟩
              go_simp
              with_reducible rfl
            rotate_left
            · simp only [Act.put, stA, stZ, stS, i64_w, i32_w]
              rfl
            refine one_ (i := 6) (N := some 38) #[true, true, true, true, true, true, true, false, false] rfl rfl (one_of HT_.out (by kernel_rfl)) (by decide) (fun K hK => ?_)
            refine goes_ Try.func58 (by kernel_rfl) rfl #[.slice Ao32 t349.length co32, .slice (some ad330) l1.length c1] (by rfl) rfl rfl (by (try simp only [map_toArray, map_cons, map_nil]); first | done | rfl | (simp only [length_drop, length_take]; rfl)) ?_
            with_reducible refine (ih k (by omega) _ _ t349 _ _ l1 t353 _ ?side1 ?side2 ?side3 ?side4 A26.out).mono ?_
            (case side1 => repeat (first | exact (Kd.V_reads' HO351.out).2.2 | (with_reducible refine C_alloc ?_ _) | (with_reducible refine C_drewN ?_ _) | (with_reducible refine C_drew ?_)))
            (case side2 => exact (Kd.V_reads' HO351.out).2.1)
            (case side3 => repeat (first | exact (C_below HR1.out HB.out) | (with_reducible refine C_alloc ?_ _) | (with_reducible refine C_drewN ?_ _) | (with_reducible refine C_drew ?_)))
            (case side4 => exact HC1.out)
            rintro e w33 ⟨v354, rfl, ho0, hb⟩
            refine ⟨_, rfl, ?_⟩
            have n0_ := Aside0.mk (Kd.V_elder' (by (with_reducible repeat (first | apply Kd.V_alloc | apply Kd.V_drewN | apply Kd.V_drew)); exact HO348.out) (Kd.R_base ho0) hb)
            have n1_ := Aside0.mk (Kd.V_elder' (by (with_reducible repeat (first | apply Kd.V_alloc | apply Kd.V_drewN | apply Kd.V_drew)); exact HO351.out) (Kd.R_base ho0) hb)
            have n2_ := Aside0.mk (Kd.R_lower ho0 (below_size (by repeat (first | (with_reducible first | exact HB.out | apply bwA | apply bwN | apply bw1) | exact HB.out))))
            have n3_ := Aside0.mk (below_step (by repeat (first | (with_reducible first | exact HB.out | apply bwA | apply bwN | apply bw1) | exact HB.out)) hb)
            clear HO348
            clear HO351
            clear HB
            have HO348 := n0_
            have HO351 := n1_
            have HO355 := n2_
            have HB := n3_
            clear n0_ n1_ n2_ n3_
            (try clear hb)
            (try clear hb2)
            (try clear hk)
            (try clear hi)
            (try clear ho0)
            obtain ⟨Ao34, co34, eo34⟩ := Kd.V_slice HO348.out
            (first | subst eo34 | (injection eo34 with f1_ f2_ f3_; have f4_ := f1_.symm; have f5_ := f3_.symm; clear f1_ f2_ f3_; subst f4_; subst f5_))
            obtain ⟨Ao35, co35, eo35⟩ := Kd.R_slice HO355.out
            (first | subst eo35 | (injection eo35 with f1_ f2_ f3_; have f4_ := f1_.symm; have f5_ := f3_.symm; clear f1_ f2_ f3_; subst f4_; subst f5_))
            refine hK.out _ _ ⟨((HB.out.cell (block_lt_of_cell? w _ hw352_0)).trans hw352_0), ((HB.out.cell (block_lt_of_cell? w _ hw352_1)).trans hw352_1), ((HB.out.cell (block_lt_of_cell? w _ hw352_2)).trans hw352_2)⟩ (fun hHeld => ?_)
            clear hK K
            refine norm_ (a' := ?_) ?_ ?_
            rotate_left
            · show Act.put _ (some 38) _ = _
              simp only [Act.put, stA, stZ, stS, i64_w, i32_w]
              rfl
            refine one_ (i := 7) (N := some 39) #[true, true, true, true, true, true, true, true, false] rfl rfl (one_of HT_.out (by kernel_rfl)) (by decide) (fun K hK => ?_)
            refine goes_ Try.func87 (by kernel_rfl) rfl #[.agg #[.int .i64 ((rd_T31 l0 0).f0), .int .i64 ((rd_T31 l0 0).f1), .int .i64 ((rd_T31 l0 0).f2)], .slice Ao34 t346.length co34, .slice Ao35 t353.length co35] (by rfl) rfl rfl (by (try simp only [map_toArray, map_cons, map_nil]); first | done | rfl | (simp only [length_drop, length_take]; rfl)) ?_
            with_reducible refine (impl_joined.calls k ((rd_T31 l0 0).f0) ((rd_T31 l0 0).f1) ((rd_T31 l0 0).f2) _ _ t346 _ _ t353 t356 _ ?side1 ?side2 ?side3 ?side4 A27.out).mono ?_
            (case side1 => repeat (first | exact (Kd.V_reads' HO348.out).2.2 | (with_reducible refine C_alloc ?_ _) | (with_reducible refine C_drewN ?_ _) | (with_reducible refine C_drew ?_)))
            (case side2 => exact (Kd.V_reads' HO348.out).2.1)
            (case side3 => repeat (first | exact (R_reads' HO355.out).2.2 | (with_reducible refine C_alloc ?_ _) | (with_reducible refine C_drewN ?_ _) | (with_reducible refine C_drew ?_)))
            (case side4 => exact (R_reads' HO355.out).2.1)
            rintro e w36 ⟨v357, rfl, ho0, hb⟩
            refine ⟨_, rfl, ?_⟩
            have n0_ := Aside0.mk (Kd.V_elder' (by (with_reducible repeat (first | apply Kd.V_alloc | apply Kd.V_drewN | apply Kd.V_drew)); exact HO348.out) (Kd.R_base ho0) hb)
            have n1_ := Aside0.mk (Kd.V_elder' (by (with_reducible repeat (first | apply Kd.V_alloc | apply Kd.V_drewN | apply Kd.V_drew)); exact HO351.out) (Kd.R_base ho0) hb)
            have n2_ := Aside0.mk (Kd.R_elder' (by (with_reducible repeat (first | apply R_alloc | apply R_drewN | apply R_drew)); exact HO355.out) (Kd.R_base ho0) hb)
            have n3_ := Aside0.mk (Kd.R_lower (Kd.R_new' ho0 (Kd.R_lt (by (with_reducible repeat (first | apply R_alloc | apply R_drewN | apply R_drew)); exact HO355.out))) (below_size (by repeat (first | (with_reducible first | exact HB.out | apply bwA | apply bwN | apply bw1) | exact HB.out))))
            have n4_ := Aside0.mk (below_step (by repeat (first | (with_reducible first | exact HB.out | apply bwA | apply bwN | apply bw1) | exact HB.out)) hb)
            clear HO348
            clear HO351
            clear HO355
            clear HB
            have HO348 := n0_
            have HO351 := n1_
            have HO355 := n2_
            have HO358 := n3_
            have HB := n4_
            clear n0_ n1_ n2_ n3_ n4_
            (try clear hb)
            (try clear hb2)
            (try clear hk)
            (try clear hi)
            (try clear ho0)
            refine hK.out _ _ ⟨((HB.out.cell (block_lt_of_cell? w _ hw352_0)).trans hw352_0), ((HB.out.cell (block_lt_of_cell? w _ hw352_1)).trans hw352_1), ((HB.out.cell (block_lt_of_cell? w _ hw352_2)).trans hw352_2)⟩ (fun hHeld => ?_)
            clear hK K
            refine norm_ (a' := ?_) ?_ ?_
            rotate_left
            · show Act.put _ (some 39) _ = _
              simp only [Act.put, stA, stZ, stS, i64_w, i32_w]
              rfl
            refine pure_ (i := 8) (N := some 4) (v := ?_) (a' := ?_) #[true, true, true, true, true, true, true, true, true] rfl rfl (any_of HT_.out (by kernel_rfl)) (fun _ _ _ h => h) (Or.inl ⟨by rfl, ?_⟩) ?_ ?_
            rotate_left
            · intro w'
              go_simp
              with_reducible rfl
            rotate_left
            · simp only [Act.put, stA, stZ, stS, i64_w, i32_w]
              rfl
            refine done_ (done_of HT_.out (by kernel_rfl)) ?_
            try go_wp2
            go_ret
            exact ⟨_, by first | rfl | (simp [errW_none, errW_some] <;> rfl) | (simp [*, errW_none, errW_some] <;> rfl), by (with_reducible repeat (first | apply R_alloc | apply R_drewN | apply R_drew)); exact Kd.R_mono HO358.out (fun _ hk => trivial), by repeat (first | (with_reducible first | exact HB.out | apply bwA | apply bwN | apply bw1) | exact HB.out)⟩
        · rw [if_neg c10] at H
          exact absurd H (by simp)
      · rw [if_neg c9] at H
        exact absurd H (by simp)
end Go.Proofs.Ytljfflhbabkbgaa.PFnRank
