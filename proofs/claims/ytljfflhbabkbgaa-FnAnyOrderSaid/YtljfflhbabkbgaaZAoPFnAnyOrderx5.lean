/- Texts of the claim of the law FnAnyOrder, made smaller by a program of this session: what the claim does not use is left out. No condition. -/
import Derived.Test.YtljfflhbabkbgaaZAoPFnAnyOrderx0
import Derived.Test.YtljfflhbabkbgaaZAoPFnAnyOrderx2
import Derived.Test.YtljfflhbabkbgaaZAoPFnAnyOrderx4
namespace Go.Proofs.Ytljfflhbabkbgaa.PFnAnyOrder
open Go.RowKit Go.Proofs.YtljfflhbabkbgaaW.PrintWords Go.Proofs.YtljfflhbabkbgaaW.PrintLast Go.Proofs.YtljfflhbabkbgaaW.PrintMore
open List (setIfInBounds_toArray map_toArray map_cons map_nil length_drop length_take)
open Option (bind_eq_some_iff)
open Go.World (block_lt_of_cell?)
open Kd (R_drew R_drewN R_alloc C_drewN C_drew C_alloc R_reads' C_below)
attribute [local go_sem] max2_int min2_int max_two min_two max_three min_three max_four min_four   -- for this text's walks alone
set_option linter.unusedVariables false
set_option linter.unusedSimpArgs false
def impl_merge.f : Nat → List (S31) → List (S31) → Option ((List (S31)))
  | 0, _, _ => none
  | k + 1, l0, l1 => if (l0.length : Int) = 0 then ((impl_Twig_72.f l1).bind fun t192 => (some t192)) else (if (l1.length : Int) = 0 then ((impl_Twig_72.f l0).bind fun t195 => (some t195)) else (if 0 < (l1.length : Int) then (if 0 < (l0.length : Int) then ((impl_Twig_compare.f k ((rd_T31 l1 0).f0) ((rd_T31 l1 0).f1) ((rd_T31 l1 0).f2) ((rd_T31 l0 0).f0) ((rd_T31 l0 0).f1) ((rd_T31 l0 0).f2)).bind fun t200 => (if t200 < 0 then ((impl_parts.f l1).bind fun bt201 => ((impl_merge.f k bt201.2 l0).bind fun t208 => ((impl_joined.f k ((rd_T31 l1 0).f0) ((rd_T31 l1 0).f1) ((rd_T31 l1 0).f2) bt201.1 t208).bind fun t211 => (some t211)))) else ((impl_parts.f l0).bind fun bt214 => ((impl_merge.f k bt214.2 l1).bind fun t221 => ((impl_joined.f k ((rd_T31 l0 0).f0) ((rd_T31 l0 0).f1) ((rd_T31 l0 0).f2) bt214.1 t221).bind fun t224 => (some t224)))))) else (none)) else (none)))
def impl_merge.T5 : Bool × List (List Nat × List Nat) := (true, [([], []), ([0], [0]), ([1], [1]), ([], []), ([3], [3]), ([4], [4]), ([2, 5], [2, 5]), ([6], [6])])
def impl_merge.B5 : List Nat := [0, 1, 3, 0, 8, 24, 63, 127]
theorem impl_merge.tab5 : rtab .any (opsOf Try.f58 5) = impl_merge.T5 := by kernel_rfl
theorem impl_merge.bits5 : waitsOk impl_merge.T5.2 impl_merge.B5 = true := by kernel_rfl
def impl_merge.T8 : Bool × List (List Nat × List Nat) := (true, [([], []), ([0], [0]), ([1], [1]), ([], []), ([], []), ([], []), ([4, 5], [4, 5]), ([2, 3, 6, 6], [2, 3, 6]), ([7, 7, 0, 1, 2, 3, 4, 5, 6, 7], [7])])
def impl_merge.B8 : List Nat := [0, 1, 3, 0, 0, 0, 48, 127, 255]
theorem impl_merge.tab8 : rtab .any (opsOf Try.f58 8) = impl_merge.T8 := by kernel_rfl
theorem impl_merge.bits8 : waitsOk impl_merge.T8.2 impl_merge.B8 = true := by kernel_rfl
set_option maxHeartbeats 8000000 in
set_option maxRecDepth 100000 in
theorem impl_merge.calls (k : Nat) : ∀ (A0 : Option Addr) (c0 : Nat) (l0 : List (S31)) (A1 : Option Addr) (c1 : Nat) (l1 : List (S31)) (r : List (S31)) (w : World) (hr0 : Kd.C k31 w A0 l0.length l0) (hc0 : l0.length ≤ c0) (hr1 : Kd.C k31 w A1 l1.length l1) (hc1 : l1.length ≤ c1) (h : impl_merge.f k l0 l1 = some r),
    Calls Try.prog 58 #[.slice A0 l0.length c0, .slice A1 l1.length c1] w fun e w' => ∃ v0_ : Value, e = .returned (v0_) ∧ Kd.R k31 31 w' w.heap.size (fun _ => True) v0_ r ∧ Below w.heap.size w w' := by
  induction k using Nat.strongRecOn with
  | _ k ih =>
  intro A0 c0 l0 A1 c1 l1 r w hr0 hc0 hr1 hc1 h
  cases k with
  | zero => exact absurd h (by simp [impl_merge.f])
  | succ k =>
  simp only [impl_merge.f] at h
  have hu31 := Try.underlying31
  have HR0 := Aside0.mk hr0
  have HC0 := Aside0.mk hc0
  clear hr0 hc0
  have HR1 := Aside0.mk hr1
  have HC1 := Aside0.mk hc1
  clear hr1 hc1
  have HB := Aside0.mk (Below.refl w.heap.size w)
  have H : (if (l0.length : Int) = 0 then ((impl_Twig_72.f l1).bind fun t192 => (some t192)) else (if (l1.length : Int) = 0 then ((impl_Twig_72.f l0).bind fun t195 => (some t195)) else (if 0 < (l1.length : Int) then (if 0 < (l0.length : Int) then ((impl_Twig_compare.f k ((rd_T31 l1 0).f0) ((rd_T31 l1 0).f1) ((rd_T31 l1 0).f2) ((rd_T31 l0 0).f0) ((rd_T31 l0 0).f1) ((rd_T31 l0 0).f2)).bind fun t200 => (if t200 < 0 then ((impl_parts.f l1).bind fun bt201 => ((impl_merge.f k bt201.2 l0).bind fun t208 => ((impl_joined.f k ((rd_T31 l1 0).f0) ((rd_T31 l1 0).f1) ((rd_T31 l1 0).f2) bt201.1 t208).bind fun t211 => (some t211)))) else ((impl_parts.f l0).bind fun bt214 => ((impl_merge.f k bt214.2 l1).bind fun t221 => ((impl_joined.f k ((rd_T31 l0 0).f0) ((rd_T31 l0 0).f1) ((rd_T31 l0 0).f2) bt214.1 t221).bind fun t224 => (some t224)))))) else (none)) else (none)))) = some r := h
  clear h
  by_cases c3 : (l0.length : Int) = 0
  · rw [if_pos c3] at H
    have c3b0 : ((l0.length : Int) == 0) = true := beq_iff_eq.mpr c3
    have c3b1 : ((l0.length : Int) != 0) = false := bne_eq_false_iff_eq.mpr c3
    clear c3
    replace H := bind_eq_some_iff.mp H
    obtain ⟨t192, A40, H⟩ := H
    replace H : (some t192) = some r := H
    have A4 := Aside0.mk A40
    clear A40
    obtain rfl := Option.some.inj H
    go_enter Try.func58, Try.ntmps58
    go_wp2_with (first | ((with_reducible refine gate_callee (f := 72) rfl ?_); refine goesL_ (some 11) rfl rfl Try.func72 (by kernel_rfl) rfl #[.slice A1 l1.length c1] rfl (by (try simp only [map_toArray, map_cons, map_nil]); first | done | rfl | (simp only [length_drop, length_take]; rfl)) ?_; (with_reducible refine (impl_Twig_72.calls _ _ l1 t192 _ ?side1 ?side2 A4.out).mono ?_); (case side1 => repeat (first | exact HR1.out | (with_reducible refine C_alloc ?_ _) | (with_reducible refine C_drewN ?_ _) | (with_reducible refine C_drew ?_))); (case side2 => exact HC1.out); rintro e w5 ⟨v193, rfl, ho0, hb⟩; refine ⟨_, rfl, ?_⟩; have n0_ := Aside0.mk (Kd.R_lower ho0 (below_size (by repeat (first | (with_reducible first | exact HB.out | apply bwA | apply bwN | apply bw1) | exact HB.out)))); have n1_ := Aside0.mk (below_step (by repeat (first | (with_reducible first | exact HB.out | apply bwA | apply bwN | apply bw1) | exact HB.out)) hb); clear HB; have HO194 := n0_; have HB := n1_; clear n0_ n1_; (try clear hb); (try clear hb2); (try clear hk); (try clear hi); (try clear ho0)))
    go_ret
    exact ⟨_, by first | rfl | (simp [errW_none, errW_some] <;> rfl) | (simp [*, errW_none, errW_some] <;> rfl), by (with_reducible repeat (first | apply R_alloc | apply R_drewN | apply R_drew)); exact HO194.out, by repeat (first | (with_reducible first | exact HB.out | apply bwA | apply bwN | apply bw1) | exact HB.out)⟩
  · rw [if_neg c3] at H
    have c3b0 : ((l0.length : Int) == 0) = false := beq_eq_false_iff_ne.mpr c3
    have c3b1 : ((l0.length : Int) != 0) = true := bne_iff_ne.mpr c3
    have c3b2 : ¬ (l0 = []) := fun h_ => c3 (by rw [h_]; rfl)
    by_cases c6 : (l1.length : Int) = 0
    · rw [if_pos c6] at H
      have c6b0 : ((l1.length : Int) == 0) = true := beq_iff_eq.mpr c6
      have c6b1 : ((l1.length : Int) != 0) = false := bne_eq_false_iff_eq.mpr c6
      clear c6
      replace H := bind_eq_some_iff.mp H
      obtain ⟨t195, A70, H⟩ := H
      replace H : (some t195) = some r := H
      have A7 := Aside0.mk A70
      clear A70
      obtain rfl := Option.some.inj H
      go_enter Try.func58, Try.ntmps58
      go_wp2_with (first | ((with_reducible refine gate_callee (f := 72) rfl ?_); refine goesL_ (some 16) rfl rfl Try.func72 (by kernel_rfl) rfl #[.slice A0 l0.length c0] rfl (by (try simp only [map_toArray, map_cons, map_nil]); first | done | rfl | (simp only [length_drop, length_take]; rfl)) ?_; (with_reducible refine (impl_Twig_72.calls _ _ l0 t195 _ ?side1 ?side2 A7.out).mono ?_); (case side1 => repeat (first | exact HR0.out | (with_reducible refine C_alloc ?_ _) | (with_reducible refine C_drewN ?_ _) | (with_reducible refine C_drew ?_))); (case side2 => exact HC0.out); rintro e w8 ⟨v196, rfl, ho0, hb⟩; refine ⟨_, rfl, ?_⟩; have n0_ := Aside0.mk (Kd.R_lower ho0 (below_size (by repeat (first | (with_reducible first | exact HB.out | apply bwA | apply bwN | apply bw1) | exact HB.out)))); have n1_ := Aside0.mk (below_step (by repeat (first | (with_reducible first | exact HB.out | apply bwA | apply bwN | apply bw1) | exact HB.out)) hb); clear HB; have HO197 := n0_; have HB := n1_; clear n0_ n1_; (try clear hb); (try clear hb2); (try clear hk); (try clear hi); (try clear ho0)))
      go_ret
      exact ⟨_, by first | rfl | (simp [errW_none, errW_some] <;> rfl) | (simp [*, errW_none, errW_some] <;> rfl), by (with_reducible repeat (first | apply R_alloc | apply R_drewN | apply R_drew)); exact HO197.out, by repeat (first | (with_reducible first | exact HB.out | apply bwA | apply bwN | apply bw1) | exact HB.out)⟩
    · rw [if_neg c6] at H
      have c6b0 : ((l1.length : Int) == 0) = false := beq_eq_false_iff_ne.mpr c6
      have c6b1 : ((l1.length : Int) != 0) = true := bne_iff_ne.mpr c6
      have c6b2 : ¬ (l1 = []) := fun h_ => c6 (by rw [h_]; rfl)
      by_cases c9 : 0 < (l1.length : Int)
      · rw [if_pos c9] at H
        have c9b0 : decide (0 < (l1.length : Int)) = true := decide_eq_true c9
        have c9b1 : decide (0 < l1.length) = true := decide_eq_true (by omega)
        clear c9
        by_cases c10 : 0 < (l0.length : Int)
        · rw [if_pos c10] at H
          have c10b0 : decide (0 < (l0.length : Int)) = true := decide_eq_true c10
          have c10b1 : decide (0 < l0.length) = true := decide_eq_true (by omega)
          clear c10
          replace H := bind_eq_some_iff.mp H
          obtain ⟨t200, A110, H⟩ := H
          replace H : (if t200 < 0 then ((impl_parts.f l1).bind fun bt201 => ((impl_merge.f k bt201.2 l0).bind fun t208 => ((impl_joined.f k ((rd_T31 l1 0).f0) ((rd_T31 l1 0).f1) ((rd_T31 l1 0).f2) bt201.1 t208).bind fun t211 => (some t211)))) else ((impl_parts.f l0).bind fun bt214 => ((impl_merge.f k bt214.2 l1).bind fun t221 => ((impl_joined.f k ((rd_T31 l0 0).f0) ((rd_T31 l0 0).f1) ((rd_T31 l0 0).f2) bt214.1 t221).bind fun t224 => (some t224))))) = some r := H
          have A11 := Aside0.mk A110
          clear A110
          by_cases c12 : t200 < 0
          · rw [if_pos c12] at H
            have c12b0 : decide (t200 < 0) = true := decide_eq_true c12
            clear c12
            replace H := bind_eq_some_iff.mp H
            obtain ⟨⟨t201, t204⟩, A130, H⟩ := H
            replace H : ((impl_merge.f k t204 l0).bind fun t208 => ((impl_joined.f k ((rd_T31 l1 0).f0) ((rd_T31 l1 0).f1) ((rd_T31 l1 0).f2) t201 t208).bind fun t211 => (some t211))) = some r := H
            have A13 := Aside0.mk A130
            clear A130
            replace H := bind_eq_some_iff.mp H
            obtain ⟨t208, A140, H⟩ := H
            replace H : ((impl_joined.f k ((rd_T31 l1 0).f0) ((rd_T31 l1 0).f1) ((rd_T31 l1 0).f2) t201 t208).bind fun t211 => (some t211)) = some r := H
            have A14 := Aside0.mk A140
            clear A140
            replace H := bind_eq_some_iff.mp H
            obtain ⟨t211, A150, H⟩ := H
            replace H : (some t211) = some r := H
            have A15 := Aside0.mk A150
            clear A150
            obtain rfl := Option.some.inj H
            go_enter Try.func58, Try.ntmps58
            try go_wp2
            have n0_ := Aside0.mk (bw1 HB.out)
            clear HB
            have HB := n0_
            clear n0_
            have p198 : 0 ≤ (0 : Int) := (by omega)
            have q198 : 0 < (l1.length : Int) := of_decide_eq_true (by first | (with_reducible assumption) | assumption)
            obtain ⟨ad198, e198, hx198_0, hx198_1, hx198_2⟩ := at_T31 HR1.out 0 p198 q198
            have hw198_2 := hx198_2
            (try rw [show ((0 : Int)).toNat = 0 from rfl] at hw198_2)
            (try rw [show 0 * 3 = 0 from rfl] at hw198_2)
            (try rw [Addr.add_zero'] at hw198_2)
            have hw198_1 := hx198_1
            (try rw [show ((0 : Int)).toNat = 0 from rfl] at hw198_1)
            (try rw [show 0 * 3 = 0 from rfl] at hw198_1)
            (try rw [Addr.add_zero'] at hw198_1)
            have hw198_0 := hx198_0
            (try rw [show ((0 : Int)).toNat = 0 from rfl] at hw198_0)
            (try rw [show 0 * 3 = 0 from rfl] at hw198_0)
            (try rw [Addr.add_zero'] at hw198_0)
            cases e198
            have qi198 : (0 < l1.length) = True := eq_true (by omega)
            (try rw [show ((0 : Int)).toNat = 0 from rfl] at hx198_0)
            (try rw [show 0 * 3 = 0 from rfl] at hx198_0)
            (try rw [Addr.add_zero'] at hx198_0)
            (try rw [show ((0 : Int)).toNat = 0 from rfl] at hx198_1)
            (try rw [show 0 * 3 = 0 from rfl] at hx198_1)
            (try rw [Addr.add_zero'] at hx198_1)
            (try rw [show ((0 : Int)).toNat = 0 from rfl] at hx198_2)
            (try rw [show 0 * 3 = 0 from rfl] at hx198_2)
            (try rw [Addr.add_zero'] at hx198_2)
            replace hx198_0 := (HB.out.cell (block_lt_of_cell? w _ hx198_0)).trans hx198_0
            replace hx198_1 := (HB.out.cell (block_lt_of_cell? w _ hx198_1)).trans hx198_1
            replace hx198_2 := (HB.out.cell (block_lt_of_cell? w _ hx198_2)).trans hx198_2
            replace p198 := eq_true p198
            replace q198 := eq_true q198
            have p199 : 0 ≤ (0 : Int) := (by omega)
            have q199 : 0 < (l0.length : Int) := of_decide_eq_true (by first | (with_reducible assumption) | assumption)
            obtain ⟨ad199, e199, hx199_0, hx199_1, hx199_2⟩ := at_T31 HR0.out 0 p199 q199
            have hw199_2 := hx199_2
            (try rw [show ((0 : Int)).toNat = 0 from rfl] at hw199_2)
            (try rw [show 0 * 3 = 0 from rfl] at hw199_2)
            (try rw [Addr.add_zero'] at hw199_2)
            have hw199_1 := hx199_1
            (try rw [show ((0 : Int)).toNat = 0 from rfl] at hw199_1)
            (try rw [show 0 * 3 = 0 from rfl] at hw199_1)
            (try rw [Addr.add_zero'] at hw199_1)
            have hw199_0 := hx199_0
            (try rw [show ((0 : Int)).toNat = 0 from rfl] at hw199_0)
            (try rw [show 0 * 3 = 0 from rfl] at hw199_0)
            (try rw [Addr.add_zero'] at hw199_0)
            cases e199
            have qi199 : (0 < l0.length) = True := eq_true (by omega)
            (try rw [show ((0 : Int)).toNat = 0 from rfl] at hx199_0)
            (try rw [show 0 * 3 = 0 from rfl] at hx199_0)
            (try rw [Addr.add_zero'] at hx199_0)
            (try rw [show ((0 : Int)).toNat = 0 from rfl] at hx199_1)
            (try rw [show 0 * 3 = 0 from rfl] at hx199_1)
            (try rw [Addr.add_zero'] at hx199_1)
            (try rw [show ((0 : Int)).toNat = 0 from rfl] at hx199_2)
            (try rw [show 0 * 3 = 0 from rfl] at hx199_2)
            (try rw [Addr.add_zero'] at hx199_2)
            replace hx199_0 := (HB.out.cell (block_lt_of_cell? w _ hx199_0)).trans hx199_0
            replace hx199_1 := (HB.out.cell (block_lt_of_cell? w _ hx199_1)).trans hx199_1
            replace hx199_2 := (HB.out.cell (block_lt_of_cell? w _ hx199_2)).trans hx199_2
            replace p199 := eq_true p199
            replace q199 := eq_true q199
            refine start_ (n := 8) (S := fun w' => w'.cell? ad198 = some (.int .i64 ((rd_T31 l1 0).f0)) ∧ w'.cell? ⟨ad198.block, ad198.off + 1, none⟩ = some (.int .i64 ((rd_T31 l1 0).f1)) ∧ w'.cell? ⟨ad198.block, ad198.off + 2, none⟩ = some (.int .i64 ((rd_T31 l1 0).f2)) ∧ w'.cell? ad199 = some (.int .i64 ((rd_T31 l0 0).f0)) ∧ w'.cell? ⟨ad199.block, ad199.off + 1, none⟩ = some (.int .i64 ((rd_T31 l0 0).f1)) ∧ w'.cell? ⟨ad199.block, ad199.off + 2, none⟩ = some (.int .i64 ((rd_T31 l0 0).f2))) (ds := []) #[false, false, false, false, false, false, false, false] (by kernel_rfl) rfl rfl ⟨((HB.out.cell (block_lt_of_cell? w _ hw198_0)).trans hw198_0), ((HB.out.cell (block_lt_of_cell? w _ hw198_1)).trans hw198_1), ((HB.out.cell (block_lt_of_cell? w _ hw198_2)).trans hw198_2), ((HB.out.cell (block_lt_of_cell? w _ hw199_0)).trans hw199_0), ((HB.out.cell (block_lt_of_cell? w _ hw199_1)).trans hw199_1), ((HB.out.cell (block_lt_of_cell? w _ hw199_2)).trans hw199_2)⟩ (fun hHeld => ?_); refine with_tabW impl_merge.tab5 impl_merge.bits5 (fun HT_ HW_ => ?_)
            generalize w.drew = w16 at HB hx198_0 hx198_1 hx198_2 hx199_0 hx199_1 hx199_2 hHeld ⊢
            refine pure_ (i := 0) (N := some 17) (v := ?_) (a' := ?_) #[true, false, false, false, false, false, false, false] rfl rfl (any_of HT_.out (by kernel_rfl)) (fun _ _ _ h => h) (Or.inl ⟨by rfl, ?_⟩) ?_ ?_
            rotate_left
            · intro w'
              go_simp
              with_reducible rfl
            rotate_left
            · simp only [Act.put, stA, stZ, stS, i64_w, i32_w]
              rfl
            refine pure_ (i := 1) (N := some 18) (v := ?_) (a' := ?_) #[true, true, false, false, false, false, false, false] rfl rfl (any_of HT_.out (by kernel_rfl)) (fun _ _ _ h => h) (Or.inl ⟨by rfl, ?_⟩) ?_ ?_
            rotate_left
            · intro w'
              go_simp
              with_reducible rfl
            rotate_left
            · simp only [Act.put, stA, stZ, stS, i64_w, i32_w]
              rfl
            refine pure_ (i := 3) (N := some 20) (v := ?_) (a' := ?_) #[true, true, false, true, false, false, false, false] rfl rfl (any_of HT_.out (by kernel_rfl)) (fun _ _ _ h => h) (Or.inl ⟨by rfl, ?_⟩) ?_ ?_
            rotate_left
            · intro w'
              go_simp
              with_reducible rfl
            rotate_left
            · simp only [Act.put, stA, stZ, stS, i64_w, i32_w]
              rfl
            refine pure_ (i := 4) (N := some 21) (v := ?_) (a' := ?_) #[true, true, false, true, true, false, false, false] rfl rfl (any_of HT_.out (by kernel_rfl)) (fun _ _ _ h => h) (Or.inl ⟨by rfl, ?_⟩) ?_ ?_
            rotate_left
            · intro w'
              go_simp
              with_reducible rfl
            rotate_left
            · simp only [Act.put, stA, stZ, stS, i64_w, i32_w]
              rfl
            refine take_ (i := 2) (N := some 19) (v := ?_) (a' := ?_) #[true, true, true, true, true, false, false, false] rfl rfl (take_ofW HT_.out HW_.out (by kernel_rfl)) (fun _ _ _ h => h) (Or.inl ⟨by rfl, ?_⟩) hHeld ?_ ?_
            rotate_left
            · rintro w' ⟨s0, s1, s2, s3, s4, s5⟩
              go_simp
              with_reducible rfl
            rotate_left
            · simp only [Act.put, stA, stZ, stS, i64_w, i32_w]
              rfl
            refine take_ (i := 5) (N := some 22) (v := ?_) (a' := ?_) #[true, true, true, true, true, true, false, false] rfl rfl (take_ofW HT_.out HW_.out (by kernel_rfl)) (fun _ _ _ h => h) (Or.inl ⟨by rfl, ?_⟩) hHeld ?_ ?_
            rotate_left
            · rintro w' ⟨s0, s1, s2, s3, s4, s5⟩
              go_simp
              with_reducible rfl
            rotate_left
            · simp only [Act.put, stA, stZ, stS, i64_w, i32_w]
              rfl
            refine one_ (i := 6) (N := some 23) #[true, true, true, true, true, true, true, false] rfl rfl (one_of HT_.out (by kernel_rfl)) (by decide) (fun K hK => ?_)
            refine goes_ Try.func77 (by kernel_rfl) rfl #[.agg #[.int .i64 ((rd_T31 l1 0).f0), .int .i64 ((rd_T31 l1 0).f1), .int .i64 ((rd_T31 l1 0).f2)], .agg #[.int .i64 ((rd_T31 l0 0).f0), .int .i64 ((rd_T31 l0 0).f1), .int .i64 ((rd_T31 l0 0).f2)]] (by rfl) rfl rfl (by (try simp only [map_toArray, map_cons, map_nil]); first | done | rfl | (simp only [length_drop, length_take]; rfl)) ?_
            with_reducible refine (impl_Twig_compare.calls k ((rd_T31 l1 0).f0) ((rd_T31 l1 0).f1) ((rd_T31 l1 0).f2) ((rd_T31 l0 0).f0) ((rd_T31 l0 0).f1) ((rd_T31 l0 0).f2) t200 _ A11.out).mono ?_
            rintro e w17 ⟨rfl, hb⟩
            refine ⟨_, rfl, ?_⟩
            have n0_ := Aside0.mk (below_step (by repeat (first | (with_reducible first | exact HB.out | apply bwA | apply bwN | apply bw1) | exact HB.out)) hb)
            clear HB
            have HB := n0_
            clear n0_
            (try clear hb)
            (try clear hb2)
            (try clear hk)
            (try clear hi)
            refine hK.out _ _ ⟨((HB.out.cell (block_lt_of_cell? w _ hw198_0)).trans hw198_0), ((HB.out.cell (block_lt_of_cell? w _ hw198_1)).trans hw198_1), ((HB.out.cell (block_lt_of_cell? w _ hw198_2)).trans hw198_2), ((HB.out.cell (block_lt_of_cell? w _ hw199_0)).trans hw199_0), ((HB.out.cell (block_lt_of_cell? w _ hw199_1)).trans hw199_1), ((HB.out.cell (block_lt_of_cell? w _ hw199_2)).trans hw199_2)⟩ (fun hHeld => ?_)
            clear hK K
            refine norm_ (a' := ?_) ?_ ?_
            rotate_left
            · show Act.put _ (some 23) _ = _
              simp only [Act.put, stA, stZ, stS, i64_w, i32_w]
              rfl
            refine pure_ (i := 7) (N := some 24) (v := ?_) (a' := ?_) #[true, true, true, true, true, true, true, true] rfl rfl (any_of HT_.out (by kernel_rfl)) (fun _ _ _ h => h) (Or.inl ⟨by rfl, ?_⟩) ?_ ?_
            rotate_left
            · intro w'
              go_simp
              with_reducible rfl
            rotate_left
            · simp only [Act.put, stA, stZ, stS, i64_w, i32_w]
              rfl
            refine done_ (done_of HT_.out (by kernel_rfl)) ?_
            try go_wp2_with (first | ((with_reducible refine gate_callee (f := 57) rfl ?_); refine goesL_ (some 29) rfl rfl Try.func57 (by kernel_rfl) rfl #[.slice (some ad198) l1.length c1] rfl (by (try simp only [map_toArray, map_cons, map_nil]); first | done | rfl | (simp only [length_drop, length_take]; rfl)) ?_; (with_reducible refine (impl_parts.calls (fun k_ => k_ < w.heap.size) _ _ l1 t201 t204 _ ?side1 A13.out).mono ?_); (case side1 => exact Kd.V_mk HC1.out (Kd.F_below (Kd.C_F k31_heap HR1.out) (by repeat (first | (with_reducible first | exact HB.out | apply bwA | apply bwN | apply bw1) | exact HB.out)))); rintro e w18 ⟨v202, v205, rfl, ho0, ho1, hb⟩; refine ⟨_, rfl, ?_⟩; have n0_ := Aside0.mk (Kd.V_lower (Kd.V_mono (ok' := fun k_ => True) ho0 (fun k_ hk_ => trivial)) (below_size (by repeat (first | (with_reducible first | exact HB.out | apply bwA | apply bwN | apply bw1) | exact HB.out)))); have n1_ := Aside0.mk (Kd.V_lower (Kd.V_mono (ok' := fun k_ => True) ho1 (fun k_ hk_ => trivial)) (below_size (by repeat (first | (with_reducible first | exact HB.out | apply bwA | apply bwN | apply bw1) | exact HB.out)))); have n2_ := Aside0.mk (below_step (by repeat (first | (with_reducible first | exact HB.out | apply bwA | apply bwN | apply bw1) | exact HB.out)) hb); clear HB; have HO203 := n0_; have HO206 := n1_; have HB := n2_; clear n0_ n1_ n2_; (try clear hb); (try clear hb2); (try clear hk); (try clear hi); (try clear ho0); (try clear ho1)))
            have n0_ := Aside0.mk (Kd.V_drew HO203.out)
            have n1_ := Aside0.mk (Kd.V_drew HO206.out)
            have n2_ := Aside0.mk (bw1 HB.out)
            clear HO203
            clear HO206
            clear HB
            have HO203 := n0_
            have HO206 := n1_
            have HB := n2_
            clear n0_ n1_ n2_
            have p207 : 0 ≤ (0 : Int) := (by omega)
            have q207 : 0 < (l1.length : Int) := of_decide_eq_true (by first | (with_reducible assumption) | assumption)
            obtain ⟨ad207, e207, hx207_0, hx207_1, hx207_2⟩ := at_T31 HR1.out 0 p207 q207
            have hw207_2 := hx207_2
            (try rw [show ((0 : Int)).toNat = 0 from rfl] at hw207_2)
            (try rw [show 0 * 3 = 0 from rfl] at hw207_2)
            (try rw [Addr.add_zero'] at hw207_2)
            have hw207_1 := hx207_1
            (try rw [show ((0 : Int)).toNat = 0 from rfl] at hw207_1)
            (try rw [show 0 * 3 = 0 from rfl] at hw207_1)
            (try rw [Addr.add_zero'] at hw207_1)
            have hw207_0 := hx207_0
            (try rw [show ((0 : Int)).toNat = 0 from rfl] at hw207_0)
            (try rw [show 0 * 3 = 0 from rfl] at hw207_0)
            (try rw [Addr.add_zero'] at hw207_0)
            obtain rfl : ad198 = ad207 := (by injection e207)
            have qi207 : (0 < l1.length) = True := eq_true (by omega)
            (try rw [show ((0 : Int)).toNat = 0 from rfl] at hx207_0)
            (try rw [show 0 * 3 = 0 from rfl] at hx207_0)
            (try rw [Addr.add_zero'] at hx207_0)
            (try rw [show ((0 : Int)).toNat = 0 from rfl] at hx207_1)
            (try rw [show 0 * 3 = 0 from rfl] at hx207_1)
            (try rw [Addr.add_zero'] at hx207_1)
            (try rw [show ((0 : Int)).toNat = 0 from rfl] at hx207_2)
            (try rw [show 0 * 3 = 0 from rfl] at hx207_2)
            (try rw [Addr.add_zero'] at hx207_2)
            replace hx207_0 := (HB.out.cell (block_lt_of_cell? w _ hx207_0)).trans hx207_0
            replace hx207_1 := (HB.out.cell (block_lt_of_cell? w _ hx207_1)).trans hx207_1
            replace hx207_2 := (HB.out.cell (block_lt_of_cell? w _ hx207_2)).trans hx207_2
            replace p207 := eq_true p207
            replace q207 := eq_true q207
            obtain ⟨Ao20, co20, eo20⟩ := Kd.V_slice HO206.out
            (first | subst eo20 | (injection eo20 with f1_ f2_ f3_; have f4_ := f1_.symm; have f5_ := f3_.symm; clear f1_ f2_ f3_; subst f4_; subst f5_))
            refine start_ (n := 9) (S := fun w' => w'.cell? ad198 = some (.int .i64 ((rd_T31 l1 0).f0)) ∧ w'.cell? ⟨ad198.block, ad198.off + 1, none⟩ = some (.int .i64 ((rd_T31 l1 0).f1)) ∧ w'.cell? ⟨ad198.block, ad198.off + 2, none⟩ = some (.int .i64 ((rd_T31 l1 0).f2))) (ds := []) #[false, false, false, false, false, false, false, false, false] (by kernel_rfl) rfl rfl ⟨((HB.out.cell (block_lt_of_cell? w _ hw207_0)).trans hw207_0), ((HB.out.cell (block_lt_of_cell? w _ hw207_1)).trans hw207_1), ((HB.out.cell (block_lt_of_cell? w _ hw207_2)).trans hw207_2)⟩ (fun hHeld => ?_); refine with_tabW impl_merge.tab8 impl_merge.bits8 (fun HT_ HW_ => ?_)
            generalize w18.drew = w19 at HO203 HO206 HB hx207_0 hx207_1 hx207_2 hHeld ⊢
            refine pure_ (i := 0) (N := some 32) (v := ?_) (a' := ?_) #[true, false, false, false, false, false, false, false, false] rfl rfl (any_of HT_.out (by kernel_rfl)) (fun _ _ _ h => h) (Or.inl ⟨by rfl, ?_⟩) ?_ ?_
            rotate_left
            · intro w'
              go_simp
              with_reducible rfl
            rotate_left
            · simp only [Act.put, stA, stZ, stS, i64_w, i32_w]
              rfl
            refine pure_ (i := 1) (N := some 33) (v := ?_) (a' := ?_) #[true, true, false, false, false, false, false, false, false] rfl rfl (any_of HT_.out (by kernel_rfl)) (fun _ _ _ h => h) (Or.inl ⟨by rfl, ?_⟩) ?_ ?_
            rotate_left
            · intro w'
              go_simp
              with_reducible rfl
            rotate_left
            · simp only [Act.put, stA, stZ, stS, i64_w, i32_w]
              rfl
            refine pure_ (i := 3) (N := some 35) (v := ?_) (a' := ?_) #[true, true, false, true, false, false, false, false, false] rfl rfl (any_of HT_.out (by kernel_rfl)) (fun _ _ _ h => h) (Or.inl ⟨by rfl, ?_⟩) ?_ ?_
            rotate_left
            · intro w'
              go_simp
              with_reducible rfl
            rotate_left
            · simp only [Act.put, stA, stZ, stS, i64_w, i32_w]
              rfl
            refine pure_ (i := 4) (N := some 36) (v := ?_) (a' := ?_) #[true, true, false, true, true, false, false, false, false] rfl rfl (any_of HT_.out (by kernel_rfl)) (fun _ _ _ h => h) (Or.inl ⟨by rfl, ?_⟩) ?_ ?_
            rotate_left
            · intro w'
              go_simp
              with_reducible rfl
            rotate_left
            · simp only [Act.put, stA, stZ, stS, i64_w, i32_w]
              rfl
            refine pure_ (i := 5) (N := some 37) (v := ?_) (a' := ?_) #[true, true, false, true, true, true, false, false, false] rfl rfl (any_of HT_.out (by kernel_rfl)) (fun _ _ _ h => h) (Or.inl ⟨by rfl, ?_⟩) ?_ ?_
            rotate_left
            · intro w'
              go_simp
              with_reducible rfl
            rotate_left
            · simp only [Act.put, stA, stZ, stS, i64_w, i32_w]
              rfl
            refine take_ (i := 2) (N := some 34) (v := ?_) (a' := ?_) #[true, true, true, true, true, true, false, false, false] rfl rfl (take_ofW HT_.out HW_.out (by kernel_rfl)) (fun _ _ _ h => h) (Or.inl ⟨by rfl, ?_⟩) hHeld ?_ ?_
            rotate_left
            · rintro w' ⟨s0, s1, s2⟩
              go_simp
              with_reducible rfl
            rotate_left
            · simp only [Act.put, stA, stZ, stS, i64_w, i32_w]
              rfl
            refine one_ (i := 6) (N := some 38) #[true, true, true, true, true, true, true, false, false] rfl rfl (one_of HT_.out (by kernel_rfl)) (by decide) (fun K hK => ?_)
            refine goes_ Try.func58 (by kernel_rfl) rfl #[.slice Ao20 t204.length co20, .slice (some ad199) l0.length c0] (by rfl) rfl rfl (by (try simp only [map_toArray, map_cons, map_nil]); first | done | rfl | (simp only [length_drop, length_take]; rfl)) ?_
            with_reducible refine (ih k (by omega) _ _ t204 _ _ l0 t208 _ ?side1 ?side2 ?side3 ?side4 A14.out).mono ?_
            (case side1 => repeat (first | exact (Kd.V_reads' HO206.out).2.2 | (with_reducible refine C_alloc ?_ _) | (with_reducible refine C_drewN ?_ _) | (with_reducible refine C_drew ?_)))
            (case side2 => exact (Kd.V_reads' HO206.out).2.1)
            (case side3 => repeat (first | exact (C_below HR0.out HB.out) | (with_reducible refine C_alloc ?_ _) | (with_reducible refine C_drewN ?_ _) | (with_reducible refine C_drew ?_)))
            (case side4 => exact HC0.out)
            rintro e w21 ⟨v209, rfl, ho0, hb⟩
            refine ⟨_, rfl, ?_⟩
            have n0_ := Aside0.mk (Kd.V_elder' (by (with_reducible repeat (first | apply Kd.V_alloc | apply Kd.V_drewN | apply Kd.V_drew)); exact HO203.out) (Kd.R_base ho0) hb)
            have n1_ := Aside0.mk (Kd.V_elder' (by (with_reducible repeat (first | apply Kd.V_alloc | apply Kd.V_drewN | apply Kd.V_drew)); exact HO206.out) (Kd.R_base ho0) hb)
            have n2_ := Aside0.mk (Kd.R_lower ho0 (below_size (by repeat (first | (with_reducible first | exact HB.out | apply bwA | apply bwN | apply bw1) | exact HB.out))))
            have n3_ := Aside0.mk (below_step (by repeat (first | (with_reducible first | exact HB.out | apply bwA | apply bwN | apply bw1) | exact HB.out)) hb)
            clear HO203
            clear HO206
            clear HB
            have HO203 := n0_
            have HO206 := n1_
            have HO210 := n2_
            have HB := n3_
            clear n0_ n1_ n2_ n3_
            (try clear hb)
            (try clear hb2)
            (try clear hk)
            (try clear hi)
            (try clear ho0)
            obtain ⟨Ao22, co22, eo22⟩ := Kd.V_slice HO203.out
            (first | subst eo22 | (injection eo22 with f1_ f2_ f3_; have f4_ := f1_.symm; have f5_ := f3_.symm; clear f1_ f2_ f3_; subst f4_; subst f5_))
            obtain ⟨Ao23, co23, eo23⟩ := Kd.R_slice HO210.out
            (first | subst eo23 | (injection eo23 with f1_ f2_ f3_; have f4_ := f1_.symm; have f5_ := f3_.symm; clear f1_ f2_ f3_; subst f4_; subst f5_))
            refine hK.out _ _ ⟨((HB.out.cell (block_lt_of_cell? w _ hw207_0)).trans hw207_0), ((HB.out.cell (block_lt_of_cell? w _ hw207_1)).trans hw207_1), ((HB.out.cell (block_lt_of_cell? w _ hw207_2)).trans hw207_2)⟩ (fun hHeld => ?_)
            clear hK K
            refine norm_ (a' := ?_) ?_ ?_
            rotate_left
            · show Act.put _ (some 38) _ = _
              simp only [Act.put, stA, stZ, stS, i64_w, i32_w]
              rfl
            refine one_ (i := 7) (N := some 39) #[true, true, true, true, true, true, true, true, false] rfl rfl (one_of HT_.out (by kernel_rfl)) (by decide) (fun K hK => ?_)
            refine goes_ Try.func87 (by kernel_rfl) rfl #[.agg #[.int .i64 ((rd_T31 l1 0).f0), .int .i64 ((rd_T31 l1 0).f1), .int .i64 ((rd_T31 l1 0).f2)], .slice Ao22 t201.length co22, .slice Ao23 t208.length co23] (by rfl) rfl rfl (by (try simp only [map_toArray, map_cons, map_nil]); first | done | rfl | (simp only [length_drop, length_take]; rfl)) ?_
            with_reducible refine (impl_joined.calls k ((rd_T31 l1 0).f0) ((rd_T31 l1 0).f1) ((rd_T31 l1 0).f2) _ _ t201 _ _ t208 t211 _ ?side1 ?side2 ?side3 ?side4 A15.out).mono ?_
            (case side1 => repeat (first | exact (Kd.V_reads' HO203.out).2.2 | (with_reducible refine C_alloc ?_ _) | (with_reducible refine C_drewN ?_ _) | (with_reducible refine C_drew ?_)))
            (case side2 => exact (Kd.V_reads' HO203.out).2.1)
            (case side3 => repeat (first | exact (R_reads' HO210.out).2.2 | (with_reducible refine C_alloc ?_ _) | (with_reducible refine C_drewN ?_ _) | (with_reducible refine C_drew ?_)))
            (case side4 => exact (R_reads' HO210.out).2.1)
            rintro e w24 ⟨v212, rfl, ho0, hb⟩
            refine ⟨_, rfl, ?_⟩
            have n0_ := Aside0.mk (Kd.V_elder' (by (with_reducible repeat (first | apply Kd.V_alloc | apply Kd.V_drewN | apply Kd.V_drew)); exact HO203.out) (Kd.R_base ho0) hb)
            have n1_ := Aside0.mk (Kd.V_elder' (by (with_reducible repeat (first | apply Kd.V_alloc | apply Kd.V_drewN | apply Kd.V_drew)); exact HO206.out) (Kd.R_base ho0) hb)
            have n2_ := Aside0.mk (Kd.R_elder' (by (with_reducible repeat (first | apply R_alloc | apply R_drewN | apply R_drew)); exact HO210.out) (Kd.R_base ho0) hb)
            have n3_ := Aside0.mk (Kd.R_lower (Kd.R_new' ho0 (Kd.R_lt (by (with_reducible repeat (first | apply R_alloc | apply R_drewN | apply R_drew)); exact HO210.out))) (below_size (by repeat (first | (with_reducible first | exact HB.out | apply bwA | apply bwN | apply bw1) | exact HB.out))))
            have n4_ := Aside0.mk (below_step (by repeat (first | (with_reducible first | exact HB.out | apply bwA | apply bwN | apply bw1) | exact HB.out)) hb)
            clear HO203
            clear HO206
            clear HO210
            clear HB
            have HO203 := n0_
            have HO206 := n1_
            have HO210 := n2_
            have HO213 := n3_
            have HB := n4_
            clear n0_ n1_ n2_ n3_ n4_
            (try clear hb)
            (try clear hb2)
            (try clear hk)
            (try clear hi)
            (try clear ho0)
            refine hK.out _ _ ⟨((HB.out.cell (block_lt_of_cell? w _ hw207_0)).trans hw207_0), ((HB.out.cell (block_lt_of_cell? w _ hw207_1)).trans hw207_1), ((HB.out.cell (block_lt_of_cell? w _ hw207_2)).trans hw207_2)⟩ (fun hHeld => ?_)
            clear hK K
            refine norm_ (a' := ?_) ?_ ?_
            rotate_left
            · show Act.put _ (some 39) _ = _
              simp only [Act.put, stA, stZ, stS, i64_w, i32_w]
              rfl
            refine pure_ (i := 8) (N := some 4) (v := ?_) (a' := ?_) #[true, true, true, true, true, true, true, true, true] rfl rfl (any_of HT_.out (by kernel_rfl)) (fun _ _ _ h => h) (Or.inl ⟨by rfl, ?_⟩) ?_ ?_
            rotate_left
            · intro w'
              go_simp
              with_reducible rfl
            rotate_left
            · simp only [Act.put, stA, stZ, stS, i64_w, i32_w]
              rfl
            refine done_ (done_of HT_.out (by kernel_rfl)) ?_
            try go_wp2
            go_ret
            exact ⟨_, by first | rfl | (simp [errW_none, errW_some] <;> rfl) | (simp [*, errW_none, errW_some] <;> rfl), by (with_reducible repeat (first | apply R_alloc | apply R_drewN | apply R_drew)); exact Kd.R_mono HO213.out (fun _ hk => trivial), by repeat (first | (with_reducible first | exact HB.out | apply bwA | apply bwN | apply bw1) | exact HB.out)⟩
          · rw [if_neg c12] at H
            have c12b0 : decide (t200 < 0) = false := decide_eq_false c12
            clear c12
            replace H := bind_eq_some_iff.mp H
            obtain ⟨⟨t214, t217⟩, A250, H⟩ := H
            replace H : ((impl_merge.f k t217 l1).bind fun t221 => ((impl_joined.f k ((rd_T31 l0 0).f0) ((rd_T31 l0 0).f1) ((rd_T31 l0 0).f2) t214 t221).bind fun t224 => (some t224))) = some r := H
            have A25 := Aside0.mk A250
            clear A250
            replace H := bind_eq_some_iff.mp H
            obtain ⟨t221, A260, H⟩ := H
            replace H : ((impl_joined.f k ((rd_T31 l0 0).f0) ((rd_T31 l0 0).f1) ((rd_T31 l0 0).f2) t214 t221).bind fun t224 => (some t224)) = some r := H
            have A26 := Aside0.mk A260
            clear A260
            replace H := bind_eq_some_iff.mp H
            obtain ⟨t224, A270, H⟩ := H
            replace H : (some t224) = some r := H
            have A27 := Aside0.mk A270
            clear A270
            obtain rfl := Option.some.inj H
            go_enter Try.func58, Try.ntmps58
            try go_wp2
            have n0_ := Aside0.mk (bw1 HB.out)
            clear HB
            have HB := n0_
            clear n0_
            have p198 : 0 ≤ (0 : Int) := (by omega)
            have q198 : 0 < (l1.length : Int) := of_decide_eq_true (by first | (with_reducible assumption) | assumption)
            obtain ⟨ad198, e198, hx198_0, hx198_1, hx198_2⟩ := at_T31 HR1.out 0 p198 q198
            have hw198_2 := hx198_2
            (try rw [show ((0 : Int)).toNat = 0 from rfl] at hw198_2)
            (try rw [show 0 * 3 = 0 from rfl] at hw198_2)
            (try rw [Addr.add_zero'] at hw198_2)
            have hw198_1 := hx198_1
            (try rw [show ((0 : Int)).toNat = 0 from rfl] at hw198_1)
            (try rw [show 0 * 3 = 0 from rfl] at hw198_1)
            (try rw [Addr.add_zero'] at hw198_1)
            have hw198_0 := hx198_0
            (try rw [show ((0 : Int)).toNat = 0 from rfl] at hw198_0)
            (try rw [show 0 * 3 = 0 from rfl] at hw198_0)
            (try rw [Addr.add_zero'] at hw198_0)
            cases e198
            have qi198 : (0 < l1.length) = True := eq_true (by omega)
            (try rw [show ((0 : Int)).toNat = 0 from rfl] at hx198_0)
            (try rw [show 0 * 3 = 0 from rfl] at hx198_0)
            (try rw [Addr.add_zero'] at hx198_0)
            (try rw [show ((0 : Int)).toNat = 0 from rfl] at hx198_1)
            (try rw [show 0 * 3 = 0 from rfl] at hx198_1)
            (try rw [Addr.add_zero'] at hx198_1)
            (try rw [show ((0 : Int)).toNat = 0 from rfl] at hx198_2)
            (try rw [show 0 * 3 = 0 from rfl] at hx198_2)
            (try rw [Addr.add_zero'] at hx198_2)
            replace hx198_0 := (HB.out.cell (block_lt_of_cell? w _ hx198_0)).trans hx198_0
            replace hx198_1 := (HB.out.cell (block_lt_of_cell? w _ hx198_1)).trans hx198_1
            replace hx198_2 := (HB.out.cell (block_lt_of_cell? w _ hx198_2)).trans hx198_2
            replace p198 := eq_true p198
            replace q198 := eq_true q198
            have p199 : 0 ≤ (0 : Int) := (by omega)
            have q199 : 0 < (l0.length : Int) := of_decide_eq_true (by first | (with_reducible assumption) | assumption)
            obtain ⟨ad199, e199, hx199_0, hx199_1, hx199_2⟩ := at_T31 HR0.out 0 p199 q199
            have hw199_2 := hx199_2
            (try rw [show ((0 : Int)).toNat = 0 from rfl] at hw199_2)
            (try rw [show 0 * 3 = 0 from rfl] at hw199_2)
            (try rw [Addr.add_zero'] at hw199_2)
            have hw199_1 := hx199_1
            (try rw [show ((0 : Int)).toNat = 0 from rfl] at hw199_1)
            (try rw [show 0 * 3 = 0 from rfl] at hw199_1)
            (try rw [Addr.add_zero'] at hw199_1)
            have hw199_0 := hx199_0
            (try rw [show ((0 : Int)).toNat = 0 from rfl] at hw199_0)
            (try rw [show 0 * 3 = 0 from rfl] at hw199_0)
            (try rw [Addr.add_zero'] at hw199_0)
            cases e199
            have qi199 : (0 < l0.length) = True := eq_true (by omega)
            (try rw [show ((0 : Int)).toNat = 0 from rfl] at hx199_0)
            (try rw [show 0 * 3 = 0 from rfl] at hx199_0)
            (try rw [Addr.add_zero'] at hx199_0)
            (try rw [show ((0 : Int)).toNat = 0 from rfl] at hx199_1)
            (try rw [show 0 * 3 = 0 from rfl] at hx199_1)
            (try rw [Addr.add_zero'] at hx199_1)
            (try rw [show ((0 : Int)).toNat = 0 from rfl] at hx199_2)
            (try rw [show 0 * 3 = 0 from rfl] at hx199_2)
            (try rw [Addr.add_zero'] at hx199_2)
            replace hx199_0 := (HB.out.cell (block_lt_of_cell? w _ hx199_0)).trans hx199_0
            replace hx199_1 := (HB.out.cell (block_lt_of_cell? w _ hx199_1)).trans hx199_1
            replace hx199_2 := (HB.out.cell (block_lt_of_cell? w _ hx199_2)).trans hx199_2
            replace p199 := eq_true p199
            replace q199 := eq_true q199
            refine start_ (n := 8) (S := fun w' => w'.cell? ad198 = some (.int .i64 ((rd_T31 l1 0).f0)) ∧ w'.cell? ⟨ad198.block, ad198.off + 1, none⟩ = some (.int .i64 ((rd_T31 l1 0).f1)) ∧ w'.cell? ⟨ad198.block, ad198.off + 2, none⟩ = some (.int .i64 ((rd_T31 l1 0).f2)) ∧ w'.cell? ad199 = some (.int .i64 ((rd_T31 l0 0).f0)) ∧ w'.cell? ⟨ad199.block, ad199.off + 1, none⟩ = some (.int .i64 ((rd_T31 l0 0).f1)) ∧ w'.cell? ⟨ad199.block, ad199.off + 2, none⟩ = some (.int .i64 ((rd_T31 l0 0).f2))) (ds := []) #[false, false, false, false, false, false, false, false] (by kernel_rfl) rfl rfl ⟨((HB.out.cell (block_lt_of_cell? w _ hw198_0)).trans hw198_0), ((HB.out.cell (block_lt_of_cell? w _ hw198_1)).trans hw198_1), ((HB.out.cell (block_lt_of_cell? w _ hw198_2)).trans hw198_2), ((HB.out.cell (block_lt_of_cell? w _ hw199_0)).trans hw199_0), ((HB.out.cell (block_lt_of_cell? w _ hw199_1)).trans hw199_1), ((HB.out.cell (block_lt_of_cell? w _ hw199_2)).trans hw199_2)⟩ (fun hHeld => ?_); refine with_tabW impl_merge.tab5 impl_merge.bits5 (fun HT_ HW_ => ?_)
            generalize w.drew = w28 at HB hx198_0 hx198_1 hx198_2 hx199_0 hx199_1 hx199_2 hHeld ⊢
            refine pure_ (i := 0) (N := some 17) (v := ?_) (a' := ?_) #[true, false, false, false, false, false, false, false] rfl rfl (any_of HT_.out (by kernel_rfl)) (fun _ _ _ h => h) (Or.inl ⟨by rfl, ?_⟩) ?_ ?_
            rotate_left
            · intro w'
              go_simp
              with_reducible rfl
            rotate_left
            · simp only [Act.put, stA, stZ, stS, i64_w, i32_w]
              rfl
            refine pure_ (i := 1) (N := some 18) (v := ?_) (a' := ?_) #[true, true, false, false, false, false, false, false] rfl rfl (any_of HT_.out (by kernel_rfl)) (fun _ _ _ h => h) (Or.inl ⟨by rfl, ?_⟩) ?_ ?_
            rotate_left
            · intro w'
              go_simp
              with_reducible rfl
            rotate_left
            · simp only [Act.put, stA, stZ, stS, i64_w, i32_w]
              rfl
            refine pure_ (i := 3) (N := some 20) (v := ?_) (a' := ?_) #[true, true, false, true, false, false, false, false] rfl rfl (any_of HT_.out (by kernel_rfl)) (fun _ _ _ h => h) (Or.inl ⟨by rfl, ?_⟩) ?_ ?_
            rotate_left
            · intro w'
              go_simp
              with_reducible rfl
            rotate_left
            · simp only [Act.put, stA, stZ, stS, i64_w, i32_w]
              rfl
            refine pure_ (i := 4) (N := some 21) (v := ?_) (a' := ?_) #[true, true, false, true, true, false, false, false] rfl rfl (any_of HT_.out (by kernel_rfl)) (fun _ _ _ h => h) (Or.inl ⟨by rfl, ?_⟩) ?_ ?_
            rotate_left
            · intro w'
              go_simp
              with_reducible rfl
            rotate_left
            · simp only [Act.put, stA, stZ, stS, i64_w, i32_w]
              rfl
            refine take_ (i := 2) (N := some 19) (v := ?_) (a' := ?_) #[true, true, true, true, true, false, false, false] rfl rfl (take_ofW HT_.out HW_.out (by kernel_rfl)) (fun _ _ _ h => h) (Or.inl ⟨by rfl, ?_⟩) hHeld ?_ ?_
            rotate_left
            · rintro w' ⟨s0, s1, s2, s3, s4, s5⟩
              go_simp
              with_reducible rfl
            rotate_left
            · simp only [Act.put, stA, stZ, stS, i64_w, i32_w]
              rfl
            refine take_ (i := 5) (N := some 22) (v := ?_) (a' := ?_) #[true, true, true, true, true, true, false, false] rfl rfl (take_ofW HT_.out HW_.out (by kernel_rfl)) (fun _ _ _ h => h) (Or.inl ⟨by rfl, ?_⟩) hHeld ?_ ?_
            rotate_left
            · rintro w' ⟨s0, s1, s2, s3, s4, s5⟩
              go_simp
              with_reducible rfl
            rotate_left
            · simp only [Act.put, stA, stZ, stS, i64_w, i32_w]
              rfl
            refine one_ (i := 6) (N := some 23) #[true, true, true, true, true, true, true, false] rfl rfl (one_of HT_.out (by kernel_rfl)) (by decide) (fun K hK => ?_)
            refine goes_ Try.func77 (by kernel_rfl) rfl #[.agg #[.int .i64 ((rd_T31 l1 0).f0), .int .i64 ((rd_T31 l1 0).f1), .int .i64 ((rd_T31 l1 0).f2)], .agg #[.int .i64 ((rd_T31 l0 0).f0), .int .i64 ((rd_T31 l0 0).f1), .int .i64 ((rd_T31 l0 0).f2)]] (by rfl) rfl rfl (by (try simp only [map_toArray, map_cons, map_nil]); first | done | rfl | (simp only [length_drop, length_take]; rfl)) ?_
            with_reducible refine (impl_Twig_compare.calls k ((rd_T31 l1 0).f0) ((rd_T31 l1 0).f1) ((rd_T31 l1 0).f2) ((rd_T31 l0 0).f0) ((rd_T31 l0 0).f1) ((rd_T31 l0 0).f2) t200 _ A11.out).mono ?_
            rintro e w29 ⟨rfl, hb⟩
            refine ⟨_, rfl, ?_⟩
            have n0_ := Aside0.mk (below_step (by repeat (first | (with_reducible first | exact HB.out | apply bwA | apply bwN | apply bw1) | exact HB.out)) hb)
            clear HB
            have HB := n0_
            clear n0_
            (try clear hb)
            (try clear hb2)
            (try clear hk)
            (try clear hi)
            refine hK.out _ _ ⟨((HB.out.cell (block_lt_of_cell? w _ hw198_0)).trans hw198_0), ((HB.out.cell (block_lt_of_cell? w _ hw198_1)).trans hw198_1), ((HB.out.cell (block_lt_of_cell? w _ hw198_2)).trans hw198_2), ((HB.out.cell (block_lt_of_cell? w _ hw199_0)).trans hw199_0), ((HB.out.cell (block_lt_of_cell? w _ hw199_1)).trans hw199_1), ((HB.out.cell (block_lt_of_cell? w _ hw199_2)).trans hw199_2)⟩ (fun hHeld => ?_)
            clear hK K
            refine norm_ (a' := ?_) ?_ ?_
            rotate_left
            · show Act.put _ (some 23) _ = _
              simp only [Act.put, stA, stZ, stS, i64_w, i32_w]
              rfl
            refine pure_ (i := 7) (N := some 24) (v := ?_) (a' := ?_) #[true, true, true, true, true, true, true, true] rfl rfl (any_of HT_.out (by kernel_rfl)) (fun _ _ _ h => h) (Or.inl ⟨by rfl, ?_⟩) ?_ ?_
            rotate_left
            · intro w'
              go_simp
              with_reducible rfl
            rotate_left
            · simp only [Act.put, stA, stZ, stS, i64_w, i32_w]
              rfl
            refine done_ (done_of HT_.out (by kernel_rfl)) ?_
            try go_wp2_with (first | ((with_reducible refine gate_callee (f := 57) rfl ?_); refine goesL_ (some 29) rfl rfl Try.func57 (by kernel_rfl) rfl #[.slice (some ad199) l0.length c0] rfl (by (try simp only [map_toArray, map_cons, map_nil]); first | done | rfl | (simp only [length_drop, length_take]; rfl)) ?_; (with_reducible refine (impl_parts.calls (fun k_ => k_ < w.heap.size) _ _ l0 t214 t217 _ ?side1 A25.out).mono ?_); (case side1 => exact Kd.V_mk HC0.out (Kd.F_below (Kd.C_F k31_heap HR0.out) (by repeat (first | (with_reducible first | exact HB.out | apply bwA | apply bwN | apply bw1) | exact HB.out)))); rintro e w30 ⟨v215, v218, rfl, ho0, ho1, hb⟩; refine ⟨_, rfl, ?_⟩; have n0_ := Aside0.mk (Kd.V_lower (Kd.V_mono (ok' := fun k_ => True) ho0 (fun k_ hk_ => trivial)) (below_size (by repeat (first | (with_reducible first | exact HB.out | apply bwA | apply bwN | apply bw1) | exact HB.out)))); have n1_ := Aside0.mk (Kd.V_lower (Kd.V_mono (ok' := fun k_ => True) ho1 (fun k_ hk_ => trivial)) (below_size (by repeat (first | (with_reducible first | exact HB.out | apply bwA | apply bwN | apply bw1) | exact HB.out)))); have n2_ := Aside0.mk (below_step (by repeat (first | (with_reducible first | exact HB.out | apply bwA | apply bwN | apply bw1) | exact HB.out)) hb); clear HB; have HO216 := n0_; have HO219 := n1_; have HB := n2_; clear n0_ n1_ n2_; (try clear hb); (try clear hb2); (try clear hk); (try clear hi); (try clear ho0); (try clear ho1)))
            have n0_ := Aside0.mk (Kd.V_drew HO216.out)
            have n1_ := Aside0.mk (Kd.V_drew HO219.out)
            have n2_ := Aside0.mk (bw1 HB.out)
            clear HO216
            clear HO219
            clear HB
            have HO216 := n0_
            have HO219 := n1_
            have HB := n2_
            clear n0_ n1_ n2_
            have p220 : 0 ≤ (0 : Int) := (by omega)
            have q220 : 0 < (l0.length : Int) := of_decide_eq_true (by first | (with_reducible assumption) | assumption)
            obtain ⟨ad220, e220, hx220_0, hx220_1, hx220_2⟩ := at_T31 HR0.out 0 p220 q220
            have hw220_2 := hx220_2
            (try rw [show ((0 : Int)).toNat = 0 from rfl] at hw220_2)
            (try rw [show 0 * 3 = 0 from rfl] at hw220_2)
            (try rw [Addr.add_zero'] at hw220_2)
            have hw220_1 := hx220_1
            (try rw [show ((0 : Int)).toNat = 0 from rfl] at hw220_1)
            (try rw [show 0 * 3 = 0 from rfl] at hw220_1)
            (try rw [Addr.add_zero'] at hw220_1)
            have hw220_0 := hx220_0
            (try rw [show ((0 : Int)).toNat = 0 from rfl] at hw220_0)
            (try rw [show 0 * 3 = 0 from rfl] at hw220_0)
            (try rw [Addr.add_zero'] at hw220_0)
            obtain rfl : ad199 = ad220 := (by injection e220)
            have qi220 : (0 < l0.length) = True := eq_true (by omega)
            (try rw [show ((0 : Int)).toNat = 0 from rfl] at hx220_0)
            (try rw [show 0 * 3 = 0 from rfl] at hx220_0)
            (try rw [Addr.add_zero'] at hx220_0)
            (try rw [show ((0 : Int)).toNat = 0 from rfl] at hx220_1)
            (try rw [show 0 * 3 = 0 from rfl] at hx220_1)
            (try rw [Addr.add_zero'] at hx220_1)
            (try rw [show ((0 : Int)).toNat = 0 from rfl] at hx220_2)
            (try rw [show 0 * 3 = 0 from rfl] at hx220_2)
            (try rw [Addr.add_zero'] at hx220_2)
            replace hx220_0 := (HB.out.cell (block_lt_of_cell? w _ hx220_0)).trans hx220_0
            replace hx220_1 := (HB.out.cell (block_lt_of_cell? w _ hx220_1)).trans hx220_1
            replace hx220_2 := (HB.out.cell (block_lt_of_cell? w _ hx220_2)).trans hx220_2
            replace p220 := eq_true p220
            replace q220 := eq_true q220
            obtain ⟨Ao32, co32, eo32⟩ := Kd.V_slice HO219.out
            (first | subst eo32 | (injection eo32 with f1_ f2_ f3_; have f4_ := f1_.symm; have f5_ := f3_.symm; clear f1_ f2_ f3_; subst f4_; subst f5_))
            refine start_ (n := 9) (S := fun w' => w'.cell? ad199 = some (.int .i64 ((rd_T31 l0 0).f0)) ∧ w'.cell? ⟨ad199.block, ad199.off + 1, none⟩ = some (.int .i64 ((rd_T31 l0 0).f1)) ∧ w'.cell? ⟨ad199.block, ad199.off + 2, none⟩ = some (.int .i64 ((rd_T31 l0 0).f2))) (ds := []) #[false, false, false, false, false, false, false, false, false] (by kernel_rfl) rfl rfl ⟨((HB.out.cell (block_lt_of_cell? w _ hw220_0)).trans hw220_0), ((HB.out.cell (block_lt_of_cell? w _ hw220_1)).trans hw220_1), ((HB.out.cell (block_lt_of_cell? w _ hw220_2)).trans hw220_2)⟩ (fun hHeld => ?_); refine with_tabW impl_merge.tab8 impl_merge.bits8 (fun HT_ HW_ => ?_)
            generalize w30.drew = w31 at HO216 HO219 HB hx220_0 hx220_1 hx220_2 hHeld ⊢
            refine pure_ (i := 0) (N := some 32) (v := ?_) (a' := ?_) #[true, false, false, false, false, false, false, false, false] rfl rfl (any_of HT_.out (by kernel_rfl)) (fun _ _ _ h => h) (Or.inl ⟨by rfl, ?_⟩) ?_ ?_
            rotate_left
            · intro w'
              go_simp
              with_reducible rfl
            rotate_left
            · simp only [Act.put, stA, stZ, stS, i64_w, i32_w]
              rfl
            refine pure_ (i := 1) (N := some 33) (v := ?_) (a' := ?_) #[true, true, false, false, false, false, false, false, false] rfl rfl (any_of HT_.out (by kernel_rfl)) (fun _ _ _ h => h) (Or.inl ⟨by rfl, ?_⟩) ?_ ?_
            rotate_left
            · intro w'
              go_simp
              with_reducible rfl
            rotate_left
            · simp only [Act.put, stA, stZ, stS, i64_w, i32_w]
              rfl
            refine pure_ (i := 3) (N := some 35) (v := ?_) (a' := ?_) #[true, true, false, true, false, false, false, false, false] rfl rfl (any_of HT_.out (by kernel_rfl)) (fun _ _ _ h => h) (Or.inl ⟨by rfl, ?_⟩) ?_ ?_
            rotate_left
            · intro w'
              go_simp
              with_reducible rfl
            rotate_left
            · simp only [Act.put, stA, stZ, stS, i64_w, i32_w]
              rfl
            refine pure_ (i := 4) (N := some 36) (v := ?_) (a' := ?_) #[true, true, false, true, true, false, false, false, false] rfl rfl (any_of HT_.out (by kernel_rfl)) (fun _ _ _ h => h) (Or.inl ⟨by rfl, ?_⟩) ?_ ?_
            rotate_left
            · intro w'
              go_simp
              with_reducible rfl
            rotate_left
            · simp only [Act.put, stA, stZ, stS, i64_w, i32_w]
              rfl
            refine pure_ (i := 5) (N := some 37) (v := ?_) (a' := ?_) #[true, true, false, true, true, true, false, false, false] rfl rfl (any_of HT_.out (by kernel_rfl)) (fun _ _ _ h => h) (Or.inl ⟨by rfl, ?_⟩) ?_ ?_
            rotate_left
            · intro w'
              go_simp
              with_reducible rfl
            rotate_left
            · simp only [Act.put, stA, stZ, stS, i64_w, i32_w]
              rfl
            refine take_ (i := 2) (N := some 34) (v := ?_) (a' := ?_) #[true, true, true, true, true, true, false, false, false] rfl rfl (take_ofW HT_.out HW_.out (by kernel_rfl)) (fun _ _ _ h => h) (Or.inl ⟨by rfl, ?_⟩) hHeld ?_ ?_
            rotate_left
            · rintro w' ⟨s0, s1, s2⟩
              go_simp
              with_reducible rfl
            rotate_left
            · simp only [Act.put, stA, stZ, stS, i64_w, i32_w]
              rfl
            refine one_ (i := 6) (N := some 38) #[true, true, true, true, true, true, true, false, false] rfl rfl (one_of HT_.out (by kernel_rfl)) (by decide) (fun K hK => ?_)
            refine goes_ Try.func58 (by kernel_rfl) rfl #[.slice Ao32 t217.length co32, .slice (some ad198) l1.length c1] (by rfl) rfl rfl (by (try simp only [map_toArray, map_cons, map_nil]); first | done | rfl | (simp only [length_drop, length_take]; rfl)) ?_
            with_reducible refine (ih k (by omega) _ _ t217 _ _ l1 t221 _ ?side1 ?side2 ?side3 ?side4 A26.out).mono ?_
            (case side1 => repeat (first | exact (Kd.V_reads' HO219.out).2.2 | (with_reducible refine C_alloc ?_ _) | (with_reducible refine C_drewN ?_ _) | (with_reducible refine C_drew ?_)))
            (case side2 => exact (Kd.V_reads' HO219.out).2.1)
            (case side3 => repeat (first | exact (C_below HR1.out HB.out) | (with_reducible refine C_alloc ?_ _) | (with_reducible refine C_drewN ?_ _) | (with_reducible refine C_drew ?_)))
            (case side4 => exact HC1.out)
            rintro e w33 ⟨v222, rfl, ho0, hb⟩
            refine ⟨_, rfl, ?_⟩
            have n0_ := Aside0.mk (Kd.V_elder' (by (with_reducible repeat (first | apply Kd.V_alloc | apply Kd.V_drewN | apply Kd.V_drew)); exact HO216.out) (Kd.R_base ho0) hb)
            have n1_ := Aside0.mk (Kd.V_elder' (by (with_reducible repeat (first | apply Kd.V_alloc | apply Kd.V_drewN | apply Kd.V_drew)); exact HO219.out) (Kd.R_base ho0) hb)
            have n2_ := Aside0.mk (Kd.R_lower ho0 (below_size (by repeat (first | (with_reducible first | exact HB.out | apply bwA | apply bwN | apply bw1) | exact HB.out))))
            have n3_ := Aside0.mk (below_step (by repeat (first | (with_reducible first | exact HB.out | apply bwA | apply bwN | apply bw1) | exact HB.out)) hb)
            clear HO216
            clear HO219
            clear HB
            have HO216 := n0_
            have HO219 := n1_
            have HO223 := n2_
            have HB := n3_
            clear n0_ n1_ n2_ n3_
            (try clear hb)
            (try clear hb2)
            (try clear hk)
            (try clear hi)
            (try clear ho0)
            obtain ⟨Ao34, co34, eo34⟩ := Kd.V_slice HO216.out
            (first | subst eo34 | (injection eo34 with f1_ f2_ f3_; have f4_ := f1_.symm; have f5_ := f3_.symm; clear f1_ f2_ f3_; subst f4_; subst f5_))
            obtain ⟨Ao35, co35, eo35⟩ := Kd.R_slice HO223.out
            (first | subst eo35 | (injection eo35 with f1_ f2_ f3_; have f4_ := f1_.symm; have f5_ := f3_.symm; clear f1_ f2_ f3_; subst f4_; subst f5_))
            refine hK.out _ _ ⟨((HB.out.cell (block_lt_of_cell? w _ hw220_0)).trans hw220_0), ((HB.out.cell (block_lt_of_cell? w _ hw220_1)).trans hw220_1), ((HB.out.cell (block_lt_of_cell? w _ hw220_2)).trans hw220_2)⟩ (fun hHeld => ?_)
            clear hK K
            refine norm_ (a' := ?_) ?_ ?_
            rotate_left
            · show Act.put _ (some 38) _ = _
              simp only [Act.put, stA, stZ, stS, i64_w, i32_w]
              rfl
            refine one_ (i := 7) (N := some 39) #[true, true, true, true, true, true, true, true, false] rfl rfl (one_of HT_.out (by kernel_rfl)) (by decide) (fun K hK => ?_)
            refine goes_ Try.func87 (by kernel_rfl) rfl #[.agg #[.int .i64 ((rd_T31 l0 0).f0), .int .i64 ((rd_T31 l0 0).f1), .int .i64 ((rd_T31 l0 0).f2)], .slice Ao34 t214.length co34, .slice Ao35 t221.length co35] (by rfl) rfl rfl (by (try simp only [map_toArray, map_cons, map_nil]); first | done | rfl | (simp only [length_drop, length_take]; rfl)) ?_
            with_reducible refine (impl_joined.calls k ((rd_T31 l0 0).f0) ((rd_T31 l0 0).f1) ((rd_T31 l0 0).f2) _ _ t214 _ _ t221 t224 _ ?side1 ?side2 ?side3 ?side4 A27.out).mono ?_
            (case side1 => repeat (first | exact (Kd.V_reads' HO216.out).2.2 | (with_reducible refine C_alloc ?_ _) | (with_reducible refine C_drewN ?_ _) | (with_reducible refine C_drew ?_)))
            (case side2 => exact (Kd.V_reads' HO216.out).2.1)
            (case side3 => repeat (first | exact (R_reads' HO223.out).2.2 | (with_reducible refine C_alloc ?_ _) | (with_reducible refine C_drewN ?_ _) | (with_reducible refine C_drew ?_)))
            (case side4 => exact (R_reads' HO223.out).2.1)
            rintro e w36 ⟨v225, rfl, ho0, hb⟩
            refine ⟨_, rfl, ?_⟩
            have n0_ := Aside0.mk (Kd.V_elder' (by (with_reducible repeat (first | apply Kd.V_alloc | apply Kd.V_drewN | apply Kd.V_drew)); exact HO216.out) (Kd.R_base ho0) hb)
            have n1_ := Aside0.mk (Kd.V_elder' (by (with_reducible repeat (first | apply Kd.V_alloc | apply Kd.V_drewN | apply Kd.V_drew)); exact HO219.out) (Kd.R_base ho0) hb)
            have n2_ := Aside0.mk (Kd.R_elder' (by (with_reducible repeat (first | apply R_alloc | apply R_drewN | apply R_drew)); exact HO223.out) (Kd.R_base ho0) hb)
            have n3_ := Aside0.mk (Kd.R_lower (Kd.R_new' ho0 (Kd.R_lt (by (with_reducible repeat (first | apply R_alloc | apply R_drewN | apply R_drew)); exact HO223.out))) (below_size (by repeat (first | (with_reducible first | exact HB.out | apply bwA | apply bwN | apply bw1) | exact HB.out))))
            have n4_ := Aside0.mk (below_step (by repeat (first | (with_reducible first | exact HB.out | apply bwA | apply bwN | apply bw1) | exact HB.out)) hb)
            clear HO216
            clear HO219
            clear HO223
            clear HB
            have HO216 := n0_
            have HO219 := n1_
            have HO223 := n2_
            have HO226 := n3_
            have HB := n4_
            clear n0_ n1_ n2_ n3_ n4_
            (try clear hb)
            (try clear hb2)
            (try clear hk)
            (try clear hi)
            (try clear ho0)
            refine hK.out _ _ ⟨((HB.out.cell (block_lt_of_cell? w _ hw220_0)).trans hw220_0), ((HB.out.cell (block_lt_of_cell? w _ hw220_1)).trans hw220_1), ((HB.out.cell (block_lt_of_cell? w _ hw220_2)).trans hw220_2)⟩ (fun hHeld => ?_)
            clear hK K
            refine norm_ (a' := ?_) ?_ ?_
            rotate_left
            · show Act.put _ (some 39) _ = _
              simp only [Act.put, stA, stZ, stS, i64_w, i32_w]
              rfl
            refine pure_ (i := 8) (N := some 4) (v := ?_) (a' := ?_) #[true, true, true, true, true, true, true, true, true] rfl rfl (any_of HT_.out (by kernel_rfl)) (fun _ _ _ h => h) (Or.inl ⟨by rfl, ?_⟩) ?_ ?_
            rotate_left
            · intro w'
              go_simp
              with_reducible rfl
            rotate_left
            · simp only [Act.put, stA, stZ, stS, i64_w, i32_w]
              rfl
            refine done_ (done_of HT_.out (by kernel_rfl)) ?_
            try go_wp2
            go_ret
            exact ⟨_, by first | rfl | (simp [errW_none, errW_some] <;> rfl) | (simp [*, errW_none, errW_some] <;> rfl), by (with_reducible repeat (first | apply R_alloc | apply R_drewN | apply R_drew)); exact Kd.R_mono HO226.out (fun _ hk => trivial), by repeat (first | (with_reducible first | exact HB.out | apply bwA | apply bwN | apply bw1) | exact HB.out)⟩
        · rw [if_neg c10] at H
          exact absurd H (by simp)
      · rw [if_neg c9] at H
        exact absurd H (by simp)
end Go.Proofs.Ytljfflhbabkbgaa.PFnAnyOrder
