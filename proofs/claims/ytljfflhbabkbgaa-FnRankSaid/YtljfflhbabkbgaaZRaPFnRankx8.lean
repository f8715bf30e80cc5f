/- Texts of the claim of the law FnRank, made smaller by a program of this session: what the claim does not use is left out. No condition. -/
import Derived.Test.YtljfflhbabkbgaaZRaPFnRankx0
import Derived.Test.YtljfflhbabkbgaaZRaPFnRankx2
import Derived.Test.YtljfflhbabkbgaaZRaPFnRankx7
namespace Go.Proofs.Ytljfflhbabkbgaa.PFnRank
open Go.RowKit Go.Proofs.YtljfflhbabkbgaaW.PrintWords Go.Proofs.YtljfflhbabkbgaaW.PrintLast Go.Proofs.YtljfflhbabkbgaaW.PrintMore
open List (setIfInBounds_toArray map_toArray map_cons map_nil length_drop length_take)
open Option (bind_eq_some_iff)
open Go.World (block_lt_of_cell?)
open Kd (R_drew R_drewN R_alloc C_drewN C_drew C_alloc R_reads' C_below)
attribute [local go_sem] max2_int min2_int max_two min_two max_three min_three max_four min_four   -- for this text's walks alone
set_option linter.unusedVariables false
set_option linter.unusedSimpArgs false
def spec_l3Merge.f : Nat → List (S31) → List (S31) → Option ((List (S31)))
  | 0, _, _ => none
  | k + 1, l0, l1 => if (l0.length : Int) = 0 then ((spec_l3Copy.f l1).bind fun t234 => (some t234)) else (if (l1.length : Int) = 0 then ((spec_l3Copy.f l0).bind fun t237 => (some t237)) else (if 0 < (l0.length : Int) then (if 0 < (l1.length : Int) then ((spec_l3Ahead.f ((rd_T31 l0 0).f0) ((rd_T31 l0 0).f1) ((rd_T31 l0 0).f2) ((rd_T31 l1 0).f0) ((rd_T31 l1 0).f1) ((rd_T31 l1 0).f2)).bind fun t242 => (if t242 = true then ((spec_l3Parts.f l0).bind fun bt243 => ((spec_l3Merge.f k bt243.2.1 l1).bind fun t251 => ((spec_l3Join.f k ((rd_T31 l0 0).f0) ((rd_T31 l0 0).f1) ((rd_T31 l0 0).f2) bt243.1 t251).bind fun t254 => (some t254)))) else ((spec_l3Parts.f l1).bind fun bt257 => ((spec_l3Merge.f k bt257.2.1 l0).bind fun t265 => ((spec_l3Join.f k ((rd_T31 l1 0).f0) ((rd_T31 l1 0).f1) ((rd_T31 l1 0).f2) bt257.1 t265).bind fun t268 => (some t268)))))) else (none)) else (none)))
def spec_l3Merge.T5 : Bool × List (List Nat × List Nat) := (true, [([], []), ([0], [0]), ([1], [1]), ([], []), ([3], [3]), ([4], [4]), ([2, 5], [2, 5]), ([6], [6])])
def spec_l3Merge.B5 : List Nat := [0, 1, 3, 0, 8, 24, 63, 127]
theorem spec_l3Merge.tab5 : rtab .any (opsOf Try.f56 5) = spec_l3Merge.T5 := by kernel_rfl
theorem spec_l3Merge.bits5 : waitsOk spec_l3Merge.T5.2 spec_l3Merge.B5 = true := by kernel_rfl
def spec_l3Merge.T10 : Bool × List (List Nat × List Nat) := (true, [([], []), ([0], [0]), ([1], [1]), ([], []), ([], []), ([], []), ([4, 5], [4, 5]), ([2, 3, 6, 6], [2, 3, 6]), ([7, 7, 0, 1, 2, 3, 4, 5, 6, 7], [7])])
def spec_l3Merge.B10 : List Nat := [0, 1, 3, 0, 0, 0, 48, 127, 255]
theorem spec_l3Merge.tab10 : rtab .any (opsOf Try.f56 10) = spec_l3Merge.T10 := by kernel_rfl
theorem spec_l3Merge.bits10 : waitsOk spec_l3Merge.T10.2 spec_l3Merge.B10 = true := by kernel_rfl
set_option maxHeartbeats 8000000 in
set_option maxRecDepth 100000 in
theorem spec_l3Merge.calls (k : Nat) : ∀ (A0 : Option Addr) (c0 : Nat) (l0 : List (S31)) (A1 : Option Addr) (c1 : Nat) (l1 : List (S31)) (r : List (S31)) (w : World) (hr0 : Kd.C k31 w A0 l0.length l0) (hc0 : l0.length ≤ c0) (hr1 : Kd.C k31 w A1 l1.length l1) (hc1 : l1.length ≤ c1) (h : spec_l3Merge.f k l0 l1 = some r),
    Calls Try.prog 56 #[.slice A0 l0.length c0, .slice A1 l1.length c1] w fun e w' => ∃ v0_ : Value, e = .returned (v0_) ∧ Kd.R k31 31 w' w.heap.size (fun _ => True) v0_ r ∧ Below w.heap.size w w' := by
  induction k using Nat.strongRecOn with
  | _ k ih =>
  intro A0 c0 l0 A1 c1 l1 r w hr0 hc0 hr1 hc1 h
  cases k with
  | zero => exact absurd h (by simp [spec_l3Merge.f])
  | succ k =>
  simp only [spec_l3Merge.f] at h
  have hu31 := Try.underlying31
  have HR0 := Aside0.mk hr0
  have HC0 := Aside0.mk hc0
  clear hr0 hc0
  have HR1 := Aside0.mk hr1
  have HC1 := Aside0.mk hc1
  clear hr1 hc1
  have HB := Aside0.mk (Below.refl w.heap.size w)
  have H : (if (l0.length : Int) = 0 then ((spec_l3Copy.f l1).bind fun t234 => (some t234)) else (if (l1.length : Int) = 0 then ((spec_l3Copy.f l0).bind fun t237 => (some t237)) else (if 0 < (l0.length : Int) then (if 0 < (l1.length : Int) then ((spec_l3Ahead.f ((rd_T31 l0 0).f0) ((rd_T31 l0 0).f1) ((rd_T31 l0 0).f2) ((rd_T31 l1 0).f0) ((rd_T31 l1 0).f1) ((rd_T31 l1 0).f2)).bind fun t242 => (if t242 = true then ((spec_l3Parts.f l0).bind fun bt243 => ((spec_l3Merge.f k bt243.2.1 l1).bind fun t251 => ((spec_l3Join.f k ((rd_T31 l0 0).f0) ((rd_T31 l0 0).f1) ((rd_T31 l0 0).f2) bt243.1 t251).bind fun t254 => (some t254)))) else ((spec_l3Parts.f l1).bind fun bt257 => ((spec_l3Merge.f k bt257.2.1 l0).bind fun t265 => ((spec_l3Join.f k ((rd_T31 l1 0).f0) ((rd_T31 l1 0).f1) ((rd_T31 l1 0).f2) bt257.1 t265).bind fun t268 => (some t268)))))) else (none)) else (none)))) = some r := h
  clear h
  by_cases c3 : (l0.length : Int) = 0
  · rw [if_pos c3] at H
    have c3b0 : ((l0.length : Int) == 0) = true := beq_iff_eq.mpr c3
    have c3b1 : ((l0.length : Int) != 0) = false := bne_eq_false_iff_eq.mpr c3
    clear c3
    replace H := bind_eq_some_iff.mp H
    obtain ⟨t234, A40, H⟩ := H
    replace H : (some t234) = some r := H
    have A4 := Aside0.mk A40
    clear A40
    obtain rfl := Option.some.inj H
    go_enter Try.func56, Try.ntmps56
    go_wp2_with (first | ((with_reducible refine gate_callee (f := 59) rfl ?_); refine goesL_ (some 13) rfl rfl Try.func59 (by kernel_rfl) rfl #[.slice A1 l1.length c1] rfl (by (try simp only [map_toArray, map_cons, map_nil]); first | done | rfl | (simp only [length_drop, length_take]; rfl)) ?_; (with_reducible refine (spec_l3Copy.calls _ _ l1 t234 _ ?side1 ?side2 A4.out).mono ?_); (case side1 => repeat (first | exact HR1.out | (with_reducible refine C_alloc ?_ _) | (with_reducible refine C_drewN ?_ _) | (with_reducible refine C_drew ?_))); (case side2 => exact HC1.out); rintro e w5 ⟨v235, rfl, ho0, hb⟩; refine ⟨_, rfl, ?_⟩; have n0_ := Aside0.mk (Kd.R_lower ho0 (below_size (by repeat (first | (with_reducible first | exact HB.out | apply bwA | apply bwN | apply bw1) | exact HB.out)))); have n1_ := Aside0.mk (below_step (by repeat (first | (with_reducible first | exact HB.out | apply bwA | apply bwN | apply bw1) | exact HB.out)) hb); clear HB; have HO236 := n0_; have HB := n1_; clear n0_ n1_; (try clear hb); (try clear hb2); (try clear hk); (try clear hi); (try clear ho0)))
    go_ret
    exact ⟨_, by first | rfl | (simp [errW_none, errW_some] <;> rfl) | (simp [*, errW_none, errW_some] <;> rfl), by (with_reducible repeat (first | apply R_alloc | apply R_drewN | apply R_drew)); exact HO236.out, by repeat (first | (with_reducible first | exact HB.out | apply bwA | apply bwN | apply bw1) | exact HB.out)⟩
  · rw [if_neg c3] at H
    have c3b0 : ((l0.length : Int) == 0) = false := beq_eq_false_iff_ne.mpr c3
    have c3b1 : ((l0.length : Int) != 0) = true := bne_iff_ne.mpr c3
    have c3b2 : ¬ (l0 = []) := fun h_ => c3 (by rw [h_]; rfl)
    by_cases c6 : (l1.length : Int) = 0
    · rw [if_pos c6] at H
      have c6b0 : ((l1.length : Int) == 0) = true := beq_iff_eq.mpr c6
      have c6b1 : ((l1.length : Int) != 0) = false := bne_eq_false_iff_eq.mpr c6
      clear c6
      replace H := bind_eq_some_iff.mp H
      obtain ⟨t237, A70, H⟩ := H
      replace H : (some t237) = some r := H
      have A7 := Aside0.mk A70
      clear A70
      obtain rfl := Option.some.inj H
      go_enter Try.func56, Try.ntmps56
      go_wp2_with (first | ((with_reducible refine gate_callee (f := 59) rfl ?_); refine goesL_ (some 18) rfl rfl Try.func59 (by kernel_rfl) rfl #[.slice A0 l0.length c0] rfl (by (try simp only [map_toArray, map_cons, map_nil]); first | done | rfl | (simp only [length_drop, length_take]; rfl)) ?_; (with_reducible refine (spec_l3Copy.calls _ _ l0 t237 _ ?side1 ?side2 A7.out).mono ?_); (case side1 => repeat (first | exact HR0.out | (with_reducible refine C_alloc ?_ _) | (with_reducible refine C_drewN ?_ _) | (with_reducible refine C_drew ?_))); (case side2 => exact HC0.out); rintro e w8 ⟨v238, rfl, ho0, hb⟩; refine ⟨_, rfl, ?_⟩; have n0_ := Aside0.mk (Kd.R_lower ho0 (below_size (by repeat (first | (with_reducible first | exact HB.out | apply bwA | apply bwN | apply bw1) | exact HB.out)))); have n1_ := Aside0.mk (below_step (by repeat (first | (with_reducible first | exact HB.out | apply bwA | apply bwN | apply bw1) | exact HB.out)) hb); clear HB; have HO239 := n0_; have HB := n1_; clear n0_ n1_; (try clear hb); (try clear hb2); (try clear hk); (try clear hi); (try clear ho0)))
      go_ret
      exact ⟨_, by first | rfl | (simp [errW_none, errW_some] <;> rfl) | (simp [*, errW_none, errW_some] <;> rfl), by (with_reducible repeat (first | apply R_alloc | apply R_drewN | apply R_drew)); exact HO239.out, by repeat (first | (with_reducible first | exact HB.out | apply bwA | apply bwN | apply bw1) | exact HB.out)⟩
    · rw [if_neg c6] at H
      have c6b0 : ((l1.length : Int) == 0) = false := beq_eq_false_iff_ne.mpr c6
      have c6b1 : ((l1.length : Int) != 0) = true := bne_iff_ne.mpr c6
      have c6b2 : ¬ (l1 = []) := fun h_ => c6 (by rw [h_]; rfl)
      by_cases c9 : 0 < (l0.length : Int)
      · rw [if_pos c9] at H
        have c9b0 : decide (0 < (l0.length : Int)) = true := decide_eq_true c9
        have c9b1 : decide (0 < l0.length) = true := decide_eq_true (by omega)
        clear c9
        by_cases c10 : 0 < (l1.length : Int)
        · rw [if_pos c10] at H
          have c10b0 : decide (0 < (l1.length : Int)) = true := decide_eq_true c10
          have c10b1 : decide (0 < l1.length) = true := decide_eq_true (by omega)
          clear c10
          replace H := bind_eq_some_iff.mp H
          obtain ⟨t242, A110, H⟩ := H
          replace H : (if t242 = true then ((spec_l3Parts.f l0).bind fun bt243 => ((spec_l3Merge.f k bt243.2.1 l1).bind fun t251 => ((spec_l3Join.f k ((rd_T31 l0 0).f0) ((rd_T31 l0 0).f1) ((rd_T31 l0 0).f2) bt243.1 t251).bind fun t254 => (some t254)))) else ((spec_l3Parts.f l1).bind fun bt257 => ((spec_l3Merge.f k bt257.2.1 l0).bind fun t265 => ((spec_l3Join.f k ((rd_T31 l1 0).f0) ((rd_T31 l1 0).f1) ((rd_T31 l1 0).f2) bt257.1 t265).bind fun t268 => (some t268))))) = some r := H
          have A11 := Aside0.mk A110
          clear A110
          by_cases c12 : t242 = true
          · subst c12
            have H1 : ((spec_l3Parts.f l0).bind fun bt243 => ((spec_l3Merge.f k bt243.2.1 l1).bind fun t251 => ((spec_l3Join.f k ((rd_T31 l0 0).f0) ((rd_T31 l0 0).f1) ((rd_T31 l0 0).f2) bt243.1 t251).bind fun t254 => (some t254)))) = some r := by rw [if_pos rfl] at H; exact H
            clear H
            have H := H1
            clear H1
            replace H := bind_eq_some_iff.mp H
            obtain ⟨⟨t243, t246, t249⟩, A130, H⟩ := H
            replace H : ((spec_l3Merge.f k t246 l1).bind fun t251 => ((spec_l3Join.f k ((rd_T31 l0 0).f0) ((rd_T31 l0 0).f1) ((rd_T31 l0 0).f2) t243 t251).bind fun t254 => (some t254))) = some r := H
            have A13 := Aside0.mk A130
            clear A130
            replace H := bind_eq_some_iff.mp H
            obtain ⟨t251, A140, H⟩ := H
            replace H : ((spec_l3Join.f k ((rd_T31 l0 0).f0) ((rd_T31 l0 0).f1) ((rd_T31 l0 0).f2) t243 t251).bind fun t254 => (some t254)) = some r := H
            have A14 := Aside0.mk A140
            clear A140
            replace H := bind_eq_some_iff.mp H
            obtain ⟨t254, A150, H⟩ := H
            replace H : (some t254) = some r := H
            have A15 := Aside0.mk A150
            clear A150
            obtain rfl := Option.some.inj H
            go_enter Try.func56, Try.ntmps56
            try go_wp2
            have n0_ := Aside0.mk (bw1 HB.out)
            clear HB
            have HB := n0_
            clear n0_
            have p240 : 0 ≤ (0 : Int) := (by omega)
            have q240 : 0 < (l0.length : Int) := of_decide_eq_true (by first | (with_reducible assumption) | assumption)
            obtain ⟨ad240, e240, hx240_0, hx240_1, hx240_2⟩ := at_T31 HR0.out 0 p240 q240
            have hw240_2 := hx240_2
            (try rw [show ((0 : Int)).toNat = 0 from rfl] at hw240_2)
            (try rw [show 0 * 3 = 0 from rfl] at hw240_2)
            (try rw [Addr.add_zero'] at hw240_2)
            have hw240_1 := hx240_1
            (try rw [show ((0 : Int)).toNat = 0 from rfl] at hw240_1)
            (try rw [show 0 * 3 = 0 from rfl] at hw240_1)
            (try rw [Addr.add_zero'] at hw240_1)
            have hw240_0 := hx240_0
            (try rw [show ((0 : Int)).toNat = 0 from rfl] at hw240_0)
            (try rw [show 0 * 3 = 0 from rfl] at hw240_0)
            (try rw [Addr.add_zero'] at hw240_0)
            cases e240
            have qi240 : (0 < l0.length) = True := eq_true (by omega)
            (try rw [show ((0 : Int)).toNat = 0 from rfl] at hx240_0)
            (try rw [show 0 * 3 = 0 from rfl] at hx240_0)
            (try rw [Addr.add_zero'] at hx240_0)
            (try rw [show ((0 : Int)).toNat = 0 from rfl] at hx240_1)
            (try rw [show 0 * 3 = 0 from rfl] at hx240_1)
            (try rw [Addr.add_zero'] at hx240_1)
            (try rw [show ((0 : Int)).toNat = 0 from rfl] at hx240_2)
            (try rw [show 0 * 3 = 0 from rfl] at hx240_2)
            (try rw [Addr.add_zero'] at hx240_2)
            replace hx240_0 := (HB.out.cell (block_lt_of_cell? w _ hx240_0)).trans hx240_0
            replace hx240_1 := (HB.out.cell (block_lt_of_cell? w _ hx240_1)).trans hx240_1
            replace hx240_2 := (HB.out.cell (block_lt_of_cell? w _ hx240_2)).trans hx240_2
            replace p240 := eq_true p240
            replace q240 := eq_true q240
            have p241 : 0 ≤ (0 : Int) := (by omega)
            have q241 : 0 < (l1.length : Int) := of_decide_eq_true (by first | (with_reducible assumption) | assumption)
            obtain ⟨ad241, e241, hx241_0, hx241_1, hx241_2⟩ := at_T31 HR1.out 0 p241 q241
            have hw241_2 := hx241_2
            (try rw [show ((0 : Int)).toNat = 0 from rfl] at hw241_2)
            (try rw [show 0 * 3 = 0 from rfl] at hw241_2)
            (try rw [Addr.add_zero'] at hw241_2)
            have hw241_1 := hx241_1
            (try rw [show ((0 : Int)).toNat = 0 from rfl] at hw241_1)
            (try rw [show 0 * 3 = 0 from rfl] at hw241_1)
            (try rw [Addr.add_zero'] at hw241_1)
            have hw241_0 := hx241_0
            (try rw [show ((0 : Int)).toNat = 0 from rfl] at hw241_0)
            (try rw [show 0 * 3 = 0 from rfl] at hw241_0)
            (try rw [Addr.add_zero'] at hw241_0)
            cases e241
            have qi241 : (0 < l1.length) = True := eq_true (by omega)
            (try rw [show ((0 : Int)).toNat = 0 from rfl] at hx241_0)
            (try rw [show 0 * 3 = 0 from rfl] at hx241_0)
            (try rw [Addr.add_zero'] at hx241_0)
            (try rw [show ((0 : Int)).toNat = 0 from rfl] at hx241_1)
            (try rw [show 0 * 3 = 0 from rfl] at hx241_1)
            (try rw [Addr.add_zero'] at hx241_1)
            (try rw [show ((0 : Int)).toNat = 0 from rfl] at hx241_2)
            (try rw [show 0 * 3 = 0 from rfl] at hx241_2)
            (try rw [Addr.add_zero'] at hx241_2)
            replace hx241_0 := (HB.out.cell (block_lt_of_cell? w _ hx241_0)).trans hx241_0
            replace hx241_1 := (HB.out.cell (block_lt_of_cell? w _ hx241_1)).trans hx241_1
            replace hx241_2 := (HB.out.cell (block_lt_of_cell? w _ hx241_2)).trans hx241_2
            replace p241 := eq_true p241
            replace q241 := eq_true q241
            refine start_ (n := 8) (S := fun w' => w'.cell? ad240 = some (.int .i64 ((rd_T31 l0 0).f0)) ∧ w'.cell? ⟨ad240.block, ad240.off + 1, none⟩ = some (.int .i64 ((rd_T31 l0 0).f1)) ∧ w'.cell? ⟨ad240.block, ad240.off + 2, none⟩ = some (.int .i64 ((rd_T31 l0 0).f2)) ∧ w'.cell? ad241 = some (.int .i64 ((rd_T31 l1 0).f0)) ∧ w'.cell? ⟨ad241.block, ad241.off + 1, none⟩ = some (.int .i64 ((rd_T31 l1 0).f1)) ∧ w'.cell? ⟨ad241.block, ad241.off + 2, none⟩ = some (.int .i64 ((rd_T31 l1 0).f2))) (ds := []) #[false, false, false, false, false, false, false, false] (by kernel_rfl) rfl rfl ⟨((HB.out.cell (block_lt_of_cell? w _ hw240_0)).trans hw240_0), ((HB.out.cell (block_lt_of_cell? w _ hw240_1)).trans hw240_1), ((HB.out.cell (block_lt_of_cell? w _ hw240_2)).trans hw240_2), ((HB.out.cell (block_lt_of_cell? w _ hw241_0)).trans hw241_0), ((HB.out.cell (block_lt_of_cell? w _ hw241_1)).trans hw241_1), ((HB.out.cell (block_lt_of_cell? w _ hw241_2)).trans hw241_2)⟩ (fun hHeld => ?_); refine with_tabW spec_l3Merge.tab5 spec_l3Merge.bits5 (fun HT_ HW_ => ?_)
            generalize w.drew = w16 at HB hx240_0 hx240_1 hx240_2 hx241_0 hx241_1 hx241_2 hHeld ⊢
            refine pure_ (i := 0) (N := some 19) (v := ?_) (a' := ?_) #[true, false, false, false, false, false, false, false] rfl rfl (any_of HT_.out (by kernel_rfl)) (fun _ _ _ h => h) (Or.inl ⟨by rfl, ?_⟩) ?_ ?_
            rotate_left
            · intro w'
              go_simp
              with_reducible rfl
            rotate_left
            · simp only [Act.put, stA, stZ, stS, i64_w, i32_w]
              rfl
            refine pure_ (i := 1) (N := some 20) (v := ?_) (a' := ?_) #[true, true, false, false, false, false, false, false] rfl rfl (any_of HT_.out (by kernel_rfl)) (fun _ _ _ h => h) (Or.inl ⟨by rfl, ?_⟩) ?_ ?_
            rotate_left
            · intro w'
              go_simp
              with_reducible rfl
            rotate_left
            · simp only [Act.put, stA, stZ, stS, i64_w, i32_w]
              rfl
            refine pure_ (i := 3) (N := some 22) (v := ?_) (a' := ?_) #[true, true, false, true, false, false, false, false] rfl rfl (any_of HT_.out (by kernel_rfl)) (fun _ _ _ h => h) (Or.inl ⟨by rfl, ?_⟩) ?_ ?_
            rotate_left
            · intro w'
              go_simp
              with_reducible rfl
            rotate_left
            · simp only [Act.put, stA, stZ, stS, i64_w, i32_w]
              rfl
            refine pure_ (i := 4) (N := some 23) (v := ?_) (a' := ?_) #[true, true, false, true, true, false, false, false] rfl rfl (any_of HT_.out (by kernel_rfl)) (fun _ _ _ h => h) (Or.inl ⟨by rfl, ?_⟩) ?_ ?_
            rotate_left
            · intro w'
              go_simp
              with_reducible rfl
            rotate_left
            · simp only [Act.put, stA, stZ, stS, i64_w, i32_w]
              rfl
            refine take_ (i := 2) (N := some 21) (v := ?_) (a' := ?_) #[true, true, true, true, true, false, false, false] rfl rfl (take_ofW HT_.out HW_.out (by kernel_rfl)) (fun _ _ _ h => h) (Or.inl ⟨by rfl, ?_⟩) hHeld ?_ ?_
            rotate_left
            · rintro w' ⟨s0, s1, s2, s3, s4, s5⟩
              go_simp
              with_reducible rfl
            rotate_left
            · simp only [Act.put, stA, stZ, stS, i64_w, i32_w]
              rfl
            refine take_ (i := 5) (N := some 24) (v := ?_) (a' := ?_) #[true, true, true, true, true, true, false, false] rfl rfl (take_ofW HT_.out HW_.out (by kernel_rfl)) (fun _ _ _ h => h) (Or.inl ⟨by rfl, ?_⟩) hHeld ?_ ?_
            rotate_left
            · rintro w' ⟨s0, s1, s2, s3, s4, s5⟩
              go_simp
              with_reducible rfl
            rotate_left
            · simp only [Act.put, stA, stZ, stS, i64_w, i32_w]
              rfl
            refine one_ (i := 6) (N := some 25) #[true, true, true, true, true, true, true, false] rfl rfl (one_of HT_.out (by kernel_rfl)) (by decide) (fun K hK => ?_)
            refine goes_ Try.func75 (by kernel_rfl) rfl #[.agg #[.int .i64 ((rd_T31 l0 0).f0), .int .i64 ((rd_T31 l0 0).f1), .int .i64 ((rd_T31 l0 0).f2)], .agg #[.int .i64 ((rd_T31 l1 0).f0), .int .i64 ((rd_T31 l1 0).f1), .int .i64 ((rd_T31 l1 0).f2)]] (by rfl) rfl rfl (by (try simp only [map_toArray, map_cons, map_nil]); first | done | rfl | (simp only [length_drop, length_take]; rfl)) ?_
            with_reducible refine (spec_l3Ahead.calls ((rd_T31 l0 0).f0) ((rd_T31 l0 0).f1) ((rd_T31 l0 0).f2) ((rd_T31 l1 0).f0) ((rd_T31 l1 0).f1) ((rd_T31 l1 0).f2) true _ A11.out).mono ?_
            rintro e w17 ⟨rfl, hb⟩
            refine ⟨_, rfl, ?_⟩
            have n0_ := Aside0.mk (below_step (by repeat (first | (with_reducible first | exact HB.out | apply bwA | apply bwN | apply bw1) | exact HB.out)) hb)
            clear HB
            have HB := n0_
            clear n0_
            (try clear hb)
            (try clear hb2)
            (try clear hk)
            (try clear hi)
            refine hK.out _ _ ⟨((HB.out.cell (block_lt_of_cell? w _ hw240_0)).trans hw240_0), ((HB.out.cell (block_lt_of_cell? w _ hw240_1)).trans hw240_1), ((HB.out.cell (block_lt_of_cell? w _ hw240_2)).trans hw240_2), ((HB.out.cell (block_lt_of_cell? w _ hw241_0)).trans hw241_0), ((HB.out.cell (block_lt_of_cell? w _ hw241_1)).trans hw241_1), ((HB.out.cell (block_lt_of_cell? w _ hw241_2)).trans hw241_2)⟩ (fun hHeld => ?_)
            clear hK K
            refine norm_ (a' := ?_) ?_ ?_
            rotate_left
            · show Act.put _ (some 25) _ = _
              simp only [Act.put, stA, stZ, stS, i64_w, i32_w]
              rfl
            refine pure_ (i := 7) (N := some 26) (v := ?_) (a' := ?_) #[true, true, true, true, true, true, true, true] rfl rfl (any_of HT_.out (by kernel_rfl)) (fun _ _ _ h => h) (Or.inl ⟨by rfl, ?_⟩) ?_ ?_
            rotate_left
            · intro w'
              go_simp
              with_reducible rfl
            rotate_left
            · simp only [Act.put, stA, stZ, stS, i64_w, i32_w]
              rfl
            refine done_ (done_of HT_.out (by kernel_rfl)) ?_
            try go_wp2_with (first | ((with_reducible refine gate_callee (f := 55) rfl ?_); refine goesL_ (some 32) rfl rfl Try.func55 (by kernel_rfl) rfl #[.slice (some ad240) l0.length c0] rfl (by (try simp only [map_toArray, map_cons, map_nil]); first | done | rfl | (simp only [length_drop, length_take]; rfl)) ?_; (with_reducible refine (spec_l3Parts.calls (fun k_ => k_ < w.heap.size) _ _ l0 t243 t246 t249 _ ?side1 A13.out).mono ?_); (case side1 => exact Kd.V_mk HC0.out (Kd.F_below (Kd.C_F k31_heap HR0.out) (by repeat (first | (with_reducible first | exact HB.out | apply bwA | apply bwN | apply bw1) | exact HB.out)))); rintro e w18 ⟨v244, v247, rfl, ho0, ho1, hb⟩; refine ⟨_, rfl, ?_⟩; have n0_ := Aside0.mk (Kd.V_lower (Kd.V_mono (ok' := fun k_ => True) ho0 (fun k_ hk_ => trivial)) (below_size (by repeat (first | (with_reducible first | exact HB.out | apply bwA | apply bwN | apply bw1) | exact HB.out)))); have n1_ := Aside0.mk (Kd.V_lower (Kd.V_mono (ok' := fun k_ => True) ho1 (fun k_ hk_ => trivial)) (below_size (by repeat (first | (with_reducible first | exact HB.out | apply bwA | apply bwN | apply bw1) | exact HB.out)))); have n2_ := Aside0.mk (below_step (by repeat (first | (with_reducible first | exact HB.out | apply bwA | apply bwN | apply bw1) | exact HB.out)) hb); clear HB; have HO245 := n0_; have HO248 := n1_; have HB := n2_; clear n0_ n1_ n2_; (try clear hb); (try clear hb2); (try clear hk); (try clear hi); (try clear ho0); (try clear ho1)))
            have n0_ := Aside0.mk (Kd.V_drew HO245.out)
            have n1_ := Aside0.mk (Kd.V_drew HO248.out)
            have n2_ := Aside0.mk (bw1 HB.out)
            clear HO245
            clear HO248
            clear HB
            have HO245 := n0_
            have HO248 := n1_
            have HB := n2_
            clear n0_ n1_ n2_
            have p250 : 0 ≤ (0 : Int) := (by omega)
            have q250 : 0 < (l0.length : Int) := of_decide_eq_true (by first | (with_reducible assumption) | assumption)
            obtain ⟨ad250, e250, hx250_0, hx250_1, hx250_2⟩ := at_T31 HR0.out 0 p250 q250
            have hw250_2 := hx250_2
            (try rw [show ((0 : Int)).toNat = 0 from rfl] at hw250_2)
            (try rw [show 0 * 3 = 0 from rfl] at hw250_2)
            (try rw [Addr.add_zero'] at hw250_2)
            have hw250_1 := hx250_1
            (try rw [show ((0 : Int)).toNat = 0 from rfl] at hw250_1)
            (try rw [show 0 * 3 = 0 from rfl] at hw250_1)
            (try rw [Addr.add_zero'] at hw250_1)
            have hw250_0 := hx250_0
            (try rw [show ((0 : Int)).toNat = 0 from rfl] at hw250_0)
            (try rw [show 0 * 3 = 0 from rfl] at hw250_0)
            (try rw [Addr.add_zero'] at hw250_0)
            obtain rfl : ad240 = ad250 := (by injection e250)
            have qi250 : (0 < l0.length) = True := eq_true (by omega)
            (try rw [show ((0 : Int)).toNat = 0 from rfl] at hx250_0)
            (try rw [show 0 * 3 = 0 from rfl] at hx250_0)
            (try rw [Addr.add_zero'] at hx250_0)
            (try rw [show ((0 : Int)).toNat = 0 from rfl] at hx250_1)
            (try rw [show 0 * 3 = 0 from rfl] at hx250_1)
            (try rw [Addr.add_zero'] at hx250_1)
            (try rw [show ((0 : Int)).toNat = 0 from rfl] at hx250_2)
            (try rw [show 0 * 3 = 0 from rfl] at hx250_2)
            (try rw [Addr.add_zero'] at hx250_2)
            replace hx250_0 := (HB.out.cell (block_lt_of_cell? w _ hx250_0)).trans hx250_0
            replace hx250_1 := (HB.out.cell (block_lt_of_cell? w _ hx250_1)).trans hx250_1
            replace hx250_2 := (HB.out.cell (block_lt_of_cell? w _ hx250_2)).trans hx250_2
            replace p250 := eq_true p250
            replace q250 := eq_true q250
            obtain ⟨Ao20, co20, eo20⟩ := Kd.V_slice HO248.out
            (first | subst eo20 | (injection eo20 with f1_ f2_ f3_; have f4_ := f1_.symm; have f5_ := f3_.symm; clear f1_ f2_ f3_; subst f4_; subst f5_))
            refine start_ (n := 9) (S := fun w' => w'.cell? ad240 = some (.int .i64 ((rd_T31 l0 0).f0)) ∧ w'.cell? ⟨ad240.block, ad240.off + 1, none⟩ = some (.int .i64 ((rd_T31 l0 0).f1)) ∧ w'.cell? ⟨ad240.block, ad240.off + 2, none⟩ = some (.int .i64 ((rd_T31 l0 0).f2))) (ds := []) #[false, false, false, false, false, false, false, false, false] (by kernel_rfl) rfl rfl ⟨((HB.out.cell (block_lt_of_cell? w _ hw250_0)).trans hw250_0), ((HB.out.cell (block_lt_of_cell? w _ hw250_1)).trans hw250_1), ((HB.out.cell (block_lt_of_cell? w _ hw250_2)).trans hw250_2)⟩ (fun hHeld => ?_); refine with_tabW spec_l3Merge.tab10 spec_l3Merge.bits10 (fun HT_ HW_ => ?_)
            generalize w18.drew = w19 at HO245 HO248 HB hx250_0 hx250_1 hx250_2 hHeld ⊢
            refine pure_ (i := 0) (N := some 36) (v := ?_) (a' := ?_) #[true, false, false, false, false, false, false, false, false] rfl rfl (any_of HT_.out (by kernel_rfl)) (fun _ _ _ h => h) (Or.inl ⟨by rfl, ?_⟩) ?_ ?_
            rotate_left
            · intro w'
              go_simp
              with_reducible rfl
            rotate_left
            · simp only [Act.put, stA, stZ, stS, i64_w, i32_w]
              rfl
            refine pure_ (i := 1) (N := some 37) (v := ?_) (a' := ?_) #[true, true, false, false, false, false, false, false, false] rfl rfl (any_of HT_.out (by kernel_rfl)) (fun _ _ _ h => h) (Or.inl ⟨by rfl, ?_⟩) ?_ ?_
            rotate_left
            · intro w'
              go_simp
              with_reducible rfl
            rotate_left
            · simp only [Act.put, stA, stZ, stS, i64_w, i32_w]
              rfl
            refine pure_ (i := 3) (N := some 39) (v := ?_) (a' := ?_) #[true, true, false, true, false, false, false, false, false] rfl rfl (any_of HT_.out (by kernel_rfl)) (fun _ _ _ h => h) (Or.inl ⟨by rfl, ?_⟩) ?_ ?_
            rotate_left
            · intro w'
              go_simp
              with_reducible rfl
            rotate_left
            · simp only [Act.put, stA, stZ, stS, i64_w, i32_w]
              rfl
            refine pure_ (i := 4) (N := some 40) (v := ?_) (a' := ?_) #[true, true, false, true, true, false, false, false, false] rfl rfl (any_of HT_.out (by kernel_rfl)) (fun _ _ _ h => h) (Or.inl ⟨by rfl, ?_⟩) ?_ ?_
            rotate_left
            · intro w'
              go_simp
              with_reducible rfl
            rotate_left
            · simp only [Act.put, stA, stZ, stS, i64_w, i32_w]
              rfl
            refine pure_ (i := 5) (N := some 41) (v := ?_) (a' := ?_) #[true, true, false, true, true, true, false, false, false] rfl rfl (any_of HT_.out (by kernel_rfl)) (fun _ _ _ h => h) (Or.inl ⟨by rfl, ?_⟩) ?_ ?_
            rotate_left
            · intro w'
              go_simp
              with_reducible rfl
            rotate_left
            · simp only [Act.put, stA, stZ, stS, i64_w, i32_w]
              rfl
            refine take_ (i := 2) (N := some 38) (v := ?_) (a' := ?_) #[true, true, true, true, true, true, false, false, false] rfl rfl (take_ofW HT_.out HW_.out (by kernel_rfl)) (fun _ _ _ h => h) (Or.inl ⟨by rfl, ?_⟩) hHeld ?_ ?_
            rotate_left
            · rintro w' ⟨s0, s1, s2⟩
              go_simp
              with_reducible rfl
            rotate_left
            · simp only [Act.put, stA, stZ, stS, i64_w, i32_w]
              rfl
            refine one_ (i := 6) (N := some 42) #[true, true, true, true, true, true, true, false, false] rfl rfl (one_of HT_.out (by kernel_rfl)) (by decide) (fun K hK => ?_)
            refine goes_ Try.func56 (by kernel_rfl) rfl #[.slice Ao20 t246.length co20, .slice (some ad241) l1.length c1] (by rfl) rfl rfl (by (try simp only [map_toArray, map_cons, map_nil]); first | done | rfl | (simp only [length_drop, length_take]; rfl)) ?_
            with_reducible refine (ih k (by omega) _ _ t246 _ _ l1 t251 _ ?side1 ?side2 ?side3 ?side4 A14.out).mono ?_
            (case side1 => repeat (first | exact (Kd.V_reads' HO248.out).2.2 | (with_reducible refine C_alloc ?_ _) | (with_reducible refine C_drewN ?_ _) | (with_reducible refine C_drew ?_)))
            (case side2 => exact (Kd.V_reads' HO248.out).2.1)
            (case side3 => repeat (first | exact (C_below HR1.out HB.out) | (with_reducible refine C_alloc ?_ _) | (with_reducible refine C_drewN ?_ _) | (with_reducible refine C_drew ?_)))
            (case side4 => exact HC1.out)
            rintro e w21 ⟨v252, rfl, ho0, hb⟩
            refine ⟨_, rfl, ?_⟩
            have n0_ := Aside0.mk (Kd.V_elder' (by (with_reducible repeat (first | apply Kd.V_alloc | apply Kd.V_drewN | apply Kd.V_drew)); exact HO245.out) (Kd.R_base ho0) hb)
            have n1_ := Aside0.mk (Kd.V_elder' (by (with_reducible repeat (first | apply Kd.V_alloc | apply Kd.V_drewN | apply Kd.V_drew)); exact HO248.out) (Kd.R_base ho0) hb)
            have n2_ := Aside0.mk (Kd.R_lower ho0 (below_size (by repeat (first | (with_reducible first | exact HB.out | apply bwA | apply bwN | apply bw1) | exact HB.out))))
            have n3_ := Aside0.mk (below_step (by repeat (first | (with_reducible first | exact HB.out | apply bwA | apply bwN | apply bw1) | exact HB.out)) hb)
            clear HO245
            clear HO248
            clear HB
            have HO245 := n0_
            have HO248 := n1_
            have HO253 := n2_
            have HB := n3_
            clear n0_ n1_ n2_ n3_
            (try clear hb)
            (try clear hb2)
            (try clear hk)
            (try clear hi)
            (try clear ho0)
            obtain ⟨Ao22, co22, eo22⟩ := Kd.V_slice HO245.out
            (first | subst eo22 | (injection eo22 with f1_ f2_ f3_; have f4_ := f1_.symm; have f5_ := f3_.symm; clear f1_ f2_ f3_; subst f4_; subst f5_))
            obtain ⟨Ao23, co23, eo23⟩ := Kd.R_slice HO253.out
            (first | subst eo23 | (injection eo23 with f1_ f2_ f3_; have f4_ := f1_.symm; have f5_ := f3_.symm; clear f1_ f2_ f3_; subst f4_; subst f5_))
            refine hK.out _ _ ⟨((HB.out.cell (block_lt_of_cell? w _ hw250_0)).trans hw250_0), ((HB.out.cell (block_lt_of_cell? w _ hw250_1)).trans hw250_1), ((HB.out.cell (block_lt_of_cell? w _ hw250_2)).trans hw250_2)⟩ (fun hHeld => ?_)
            clear hK K
            refine norm_ (a' := ?_) ?_ ?_
            rotate_left
            · show Act.put _ (some 42) _ = _
              simp only [Act.put, stA, stZ, stS, i64_w, i32_w]
              rfl
            refine one_ (i := 7) (N := some 43) #[true, true, true, true, true, true, true, true, false] rfl rfl (one_of HT_.out (by kernel_rfl)) (by decide) (fun K hK => ?_)
            refine goes_ Try.func86 (by kernel_rfl) rfl #[.agg #[.int .i64 ((rd_T31 l0 0).f0), .int .i64 ((rd_T31 l0 0).f1), .int .i64 ((rd_T31 l0 0).f2)], .slice Ao22 t243.length co22, .slice Ao23 t251.length co23] (by rfl) rfl rfl (by (try simp only [map_toArray, map_cons, map_nil]); first | done | rfl | (simp only [length_drop, length_take]; rfl)) ?_
            with_reducible refine (spec_l3Join.calls k ((rd_T31 l0 0).f0) ((rd_T31 l0 0).f1) ((rd_T31 l0 0).f2) _ _ t243 _ _ t251 t254 _ ?side1 ?side2 ?side3 ?side4 A15.out).mono ?_
            (case side1 => repeat (first | exact (Kd.V_reads' HO245.out).2.2 | (with_reducible refine C_alloc ?_ _) | (with_reducible refine C_drewN ?_ _) | (with_reducible refine C_drew ?_)))
            (case side2 => exact (Kd.V_reads' HO245.out).2.1)
            (case side3 => repeat (first | exact (R_reads' HO253.out).2.2 | (with_reducible refine C_alloc ?_ _) | (with_reducible refine C_drewN ?_ _) | (with_reducible refine C_drew ?_)))
            (case side4 => exact (R_reads' HO253.out).2.1)
            rintro e w24 ⟨v255, rfl, ho0, hb⟩
            refine ⟨_, rfl, ?_⟩
            have n0_ := Aside0.mk (Kd.V_elder' (by (with_reducible repeat (first | apply Kd.V_alloc | apply Kd.V_drewN | apply Kd.V_drew)); exact HO245.out) (Kd.R_base ho0) hb)
            have n1_ := Aside0.mk (Kd.V_elder' (by (with_reducible repeat (first | apply Kd.V_alloc | apply Kd.V_drewN | apply Kd.V_drew)); exact HO248.out) (Kd.R_base ho0) hb)
            have n2_ := Aside0.mk (Kd.R_elder' (by (with_reducible repeat (first | apply R_alloc | apply R_drewN | apply R_drew)); exact HO253.out) (Kd.R_base ho0) hb)
            have n3_ := Aside0.mk (Kd.R_lower (Kd.R_new' ho0 (Kd.R_lt (by (with_reducible repeat (first | apply R_alloc | apply R_drewN | apply R_drew)); exact HO253.out))) (below_size (by repeat (first | (with_reducible first | exact HB.out | apply bwA | apply bwN | apply bw1) | exact HB.out))))
            have n4_ := Aside0.mk (below_step (by repeat (first | (with_reducible first | exact HB.out | apply bwA | apply bwN | apply bw1) | exact HB.out)) hb)
            clear HO245
            clear HO248
            clear HO253
            clear HB
            have HO245 := n0_
            have HO248 := n1_
            have HO253 := n2_
            have HO256 := n3_
            have HB := n4_
            clear n0_ n1_ n2_ n3_ n4_
            (try clear hb)
            (try clear hb2)
            (try clear hk)
            (try clear hi)
            (try clear ho0)
            refine hK.out _ _ ⟨((HB.out.cell (block_lt_of_cell? w _ hw250_0)).trans hw250_0), ((HB.out.cell (block_lt_of_cell? w _ hw250_1)).trans hw250_1), ((HB.out.cell (block_lt_of_cell? w _ hw250_2)).trans hw250_2)⟩ (fun hHeld => ?_)
            clear hK K
            refine norm_ (a' := ?_) ?_ ?_
            rotate_left
            · show Act.put _ (some 43) _ = _
              simp only [Act.put, stA, stZ, stS, i64_w, i32_w]
              rfl
            refine pure_ (i := 8) (N := some 4) (v := ?_) (a' := ?_) #[true, true, true, true, true, true, true, true, true] rfl rfl (any_of HT_.out (by kernel_rfl)) (fun _ _ _ h => h) (Or.inl ⟨by rfl, ?_⟩) ?_ ?_
            rotate_left
            · intro w'
              go_simp
              with_reducible rfl
            rotate_left
            · simp only [Act.put, stA, stZ, stS, i64_w, i32_w]
              rfl
            refine done_ (done_of HT_.out (by kernel_rfl)) ?_
            try go_wp2
            go_ret
            exact ⟨_, by first | rfl | (simp [errW_none, errW_some] <;> rfl) | (simp [*, errW_none, errW_some] <;> rfl), by (with_reducible repeat (first | apply R_alloc | apply R_drewN | apply R_drew)); exact Kd.R_mono HO256.out (fun _ hk => trivial), by repeat (first | (with_reducible first | exact HB.out | apply bwA | apply bwN | apply bw1) | exact HB.out)⟩
          · replace c12 := Bool.eq_false_iff.mpr c12
            subst c12
            have H1 : ((spec_l3Parts.f l1).bind fun bt257 => ((spec_l3Merge.f k bt257.2.1 l0).bind fun t265 => ((spec_l3Join.f k ((rd_T31 l1 0).f0) ((rd_T31 l1 0).f1) ((rd_T31 l1 0).f2) bt257.1 t265).bind fun t268 => (some t268)))) = some r := by rw [if_neg (show ¬ (false = true) by decide)] at H; exact H
            clear H
            have H := H1
            clear H1
            replace H := bind_eq_some_iff.mp H
            obtain ⟨⟨t257, t260, t263⟩, A250, H⟩ := H
            replace H : ((spec_l3Merge.f k t260 l0).bind fun t265 => ((spec_l3Join.f k ((rd_T31 l1 0).f0) ((rd_T31 l1 0).f1) ((rd_T31 l1 0).f2) t257 t265).bind fun t268 => (some t268))) = some r := H
            have A25 := Aside0.mk A250
            clear A250
            replace H := bind_eq_some_iff.mp H
            obtain ⟨t265, A260, H⟩ := H
            replace H : ((spec_l3Join.f k ((rd_T31 l1 0).f0) ((rd_T31 l1 0).f1) ((rd_T31 l1 0).f2) t257 t265).bind fun t268 => (some t268)) = some r := H
            have A26 := Aside0.mk A260
            clear A260
            replace H := bind_eq_some_iff.mp H
            obtain ⟨t268, A270, H⟩ := H
            replace H : (some t268) = some r := H
            have A27 := Aside0.mk A270
            clear A270
            obtain rfl := Option.some.inj H
            go_enter Try.func56, Try.ntmps56
            try go_wp2
            have n0_ := Aside0.mk (bw1 HB.out)
            clear HB
            have HB := n0_
            clear n0_
            have p240 : 0 ≤ (0 : Int) := (by omega)
            have q240 : 0 < (l0.length : Int) := of_decide_eq_true (by first | (with_reducible assumption) | assumption)
            obtain ⟨ad240, e240, hx240_0, hx240_1, hx240_2⟩ := at_T31 HR0.out 0 p240 q240
            have hw240_2 := hx240_2
            (try rw [show ((0 : Int)).toNat = 0 from rfl] at hw240_2)
            (try rw [show 0 * 3 = 0 from rfl] at hw240_2)
            (try rw [Addr.add_zero'] at hw240_2)
            have hw240_1 := hx240_1
            (try rw [show ((0 : Int)).toNat = 0 from rfl] at hw240_1)
            (try rw [show 0 * 3 = 0 from rfl] at hw240_1)
            (try rw [Addr.add_zero'] at hw240_1)
            have hw240_0 := hx240_0
            (try rw [show ((0 : Int)).toNat = 0 from rfl] at hw240_0)
            (try rw [show 0 * 3 = 0 from rfl] at hw240_0)
            (try rw [Addr.add_zero'] at hw240_0)
            cases e240
            have qi240 : (0 < l0.length) = True := eq_true (by omega)
            (try rw [show ((0 : Int)).toNat = 0 from rfl] at hx240_0)
            (try rw [show 0 * 3 = 0 from rfl] at hx240_0)
            (try rw [Addr.add_zero'] at hx240_0)
            (try rw [show ((0 : Int)).toNat = 0 from rfl] at hx240_1)
            (try rw [show 0 * 3 = 0 from rfl] at hx240_1)
            (try rw [Addr.add_zero'] at hx240_1)
            (try rw [show ((0 : Int)).toNat = 0 from rfl] at hx240_2)
            (try rw [show 0 * 3 = 0 from rfl] at hx240_2)
            (try rw [Addr.add_zero'] at hx240_2)
            replace hx240_0 := (HB.out.cell (block_lt_of_cell? w _ hx240_0)).trans hx240_0
            replace hx240_1 := (HB.out.cell (block_lt_of_cell? w _ hx240_1)).trans hx240_1
            replace hx240_2 := (HB.out.cell (block_lt_of_cell? w _ hx240_2)).trans hx240_2
            replace p240 := eq_true p240
            replace q240 := eq_true q240
            have p241 : 0 ≤ (0 : Int) := (by omega)
            have q241 : 0 < (l1.length : Int) := of_decide_eq_true (by first | (with_reducible assumption) | assumption)
            obtain ⟨ad241, e241, hx241_0, hx241_1, hx241_2⟩ := at_T31 HR1.out 0 p241 q241
            have hw241_2 := hx241_2
            (try rw [show ((0 : Int)).toNat = 0 from rfl] at hw241_2)
            (try rw [show 0 * 3 = 0 from rfl] at hw241_2)
            (try rw [Addr.add_zero'] at hw241_2)
            have hw241_1 := hx241_1
            (try rw [show ((0 : Int)).toNat = 0 from rfl] at hw241_1)
            (try rw [show 0 * 3 = 0 from rfl] at hw241_1)
            (try rw [Addr.add_zero'] at hw241_1)
            have hw241_0 := hx241_0
            (try rw [show ((0 : Int)).toNat = 0 from rfl] at hw241_0)
            (try rw [show 0 * 3 = 0 from rfl] at hw241_0)
            (try rw [Addr.add_zero'] at hw241_0)
            cases e241
            have qi241 : (0 < l1.length) = True := eq_true (by omega)
            (try rw [show ((0 : Int)).toNat = 0 from rfl] at hx241_0)
            (try rw [show 0 * 3 = 0 from rfl] at hx241_0)
            (try rw [Addr.add_zero'] at hx241_0)
            (try rw [show ((0 : Int)).toNat = 0 from rfl] at hx241_1)
            (try rw [show 0 * 3 = 0 from rfl] at hx241_1)
            (try rw [Addr.add_zero'] at hx241_1)
            (try rw [show ((0 : Int)).toNat = 0 from rfl] at hx241_2)
            (try rw [show 0 * 3 = 0 from rfl] at hx241_2)
            (try rw [Addr.add_zero'] at hx241_2)
            replace hx241_0 := (HB.out.cell (block_lt_of_cell? w _ hx241_0)).trans hx241_0
            replace hx241_1 := (HB.out.cell (block_lt_of_cell? w _ hx241_1)).trans hx241_1
            replace hx241_2 := (HB.out.cell (block_lt_of_cell? w _ hx241_2)).trans hx241_2
            replace p241 := eq_true p241
            replace q241 := eq_true q241
            refine start_ (n := 8) (S := fun w' => w'.cell? ad240 = some (.int .i64 ((rd_T31 l0 0).f0)) ∧ w'.cell? ⟨ad240.block, ad240.off + 1, none⟩ = some (.int .i64 ((rd_T31 l0 0).f1)) ∧ w'.cell? ⟨ad240.block, ad240.off + 2, none⟩ = some (.int .i64 ((rd_T31 l0 0).f2)) ∧ w'.cell? ad241 = some (.int .i64 ((rd_T31 l1 0).f0)) ∧ w'.cell? ⟨ad241.block, ad241.off + 1, none⟩ = some (.int .i64 ((rd_T31 l1 0).f1)) ∧ w'.cell? ⟨ad241.block, ad241.off + 2, none⟩ = some (.int .i64 ((rd_T31 l1 0).f2))) (ds := []) #[false, false, false, false, false, false, false, false] (by kernel_rfl) rfl rfl ⟨((HB.out.cell (block_lt_of_cell? w _ hw240_0)).trans hw240_0), ((HB.out.cell (block_lt_of_cell? w _ hw240_1)).trans hw240_1), ((HB.out.cell (block_lt_of_cell? w _ hw240_2)).trans hw240_2), ((HB.out.cell (block_lt_of_cell? w _ hw241_0)).trans hw241_0), ((HB.out.cell (block_lt_of_cell? w _ hw241_1)).trans hw241_1), ((HB.out.cell (block_lt_of_cell? w _ hw241_2)).trans hw241_2)⟩ (fun hHeld => ?_); refine with_tabW spec_l3Merge.tab5 spec_l3Merge.bits5 (fun HT_ HW_ => ?_)
            generalize w.drew = w28 at HB hx240_0 hx240_1 hx240_2 hx241_0 hx241_1 hx241_2 hHeld ⊢
            refine pure_ (i := 0) (N := some 19) (v := ?_) (a' := ?_) #[true, false, false, false, false, false, false, false] rfl rfl (any_of HT_.out (by kernel_rfl)) (fun _ _ _ h => h) (Or.inl ⟨by rfl, ?_⟩) ?_ ?_
            rotate_left
            · intro w'
              go_simp
              with_reducible rfl
            rotate_left
            · simp only [Act.put, stA, stZ, stS, i64_w, i32_w]
              rfl
            refine pure_ (i := 1) (N := some 20) (v := ?_) (a' := ?_) #[true, true, false, false, false, false, false, false] rfl rfl (any_of HT_.out (by kernel_rfl)) (fun _ _ _ h => h) (Or.inl ⟨by rfl, ?_⟩) ?_ ?_
            rotate_left
            · intro w'
              go_simp
              with_reducible rfl
            rotate_left
            · simp only [Act.put, stA, stZ, stS, i64_w, i32_w]
              rfl
            refine pure_ (i := 3) (N := some 22) (v := ?_) (a' := ?_) #[true, true, false, true, false, false, false, false] rfl rfl (any_of HT_.out (by kernel_rfl)) (fun _ _ _ h => h) (Or.inl ⟨by rfl, ?_⟩) ?_ ?_
            rotate_left
            · intro w'
              go_simp
              with_reducible rfl
            rotate_left
            · simp only [Act.put, stA, stZ, stS, i64_w, i32_w]
              rfl
            refine pure_ (i := 4) (N := some 23) (v := ?_) (a' := ?_) #[true, true, false, true, true, false, false, false] rfl rfl (any_of HT_.out (by kernel_rfl)) (fun _ _ _ h => h) (Or.inl ⟨by rfl, ?_⟩) ?_ ?_
            rotate_left
            · intro w'
              go_simp
              with_reducible rfl
            rotate_left
            · simp only [Act.put, stA, stZ, stS, i64_w, i32_w]
              rfl
            refine take_ (i := 2) (N := some 21) (v := ?_) (a' := ?_) #[true, true, true, true, true, false, false, false] rfl rfl (take_ofW HT_.out HW_.out (by kernel_rfl)) (fun _ _ _ h => h) (Or.inl ⟨by rfl, ?_⟩) hHeld ?_ ?_
            rotate_left
            · rintro w' ⟨s0, s1, s2, s3, s4, s5⟩
              go_simp
              with_reducible rfl
            rotate_left
            · simp only [Act.put, stA, stZ, stS, i64_w, i32_w]
              rfl
            refine take_ (i := 5) (N := some 24) (v := ?_) (a' := ?_) #[true, true, true, true, true, true, false, false] rfl rfl (take_ofW HT_.out HW_.out (by kernel_rfl)) (fun _ _ _ h => h) (Or.inl ⟨by rfl, ?_⟩) hHeld ?_ ?_
            rotate_left
            · rintro w' ⟨s0, s1, s2, s3, s4, s5⟩
              go_simp
              with_reducible rfl
            rotate_left
            · simp only [Act.put, stA, stZ, stS, i64_w, i32_w]
              rfl
            refine one_ (i := 6) (N := some 25) #[true, true, true, true, true, true, true, false] rfl rfl (one_of HT_.out (by kernel_rfl)) (by decide) (fun K hK => ?_)
            refine goes_ Try.func75 (by kernel_rfl) rfl #[.agg #[.int .i64 ((rd_T31 l0 0).f0), .int .i64 ((rd_T31 l0 0).f1), .int .i64 ((rd_T31 l0 0).f2)], .agg #[.int .i64 ((rd_T31 l1 0).f0), .int .i64 ((rd_T31 l1 0).f1), .int .i64 ((rd_T31 l1 0).f2)]] (by rfl) rfl rfl (by (try simp only [map_toArray, map_cons, map_nil]); first | done | rfl | (simp only [length_drop, length_take]; rfl)) ?_
            with_reducible refine (spec_l3Ahead.calls ((rd_T31 l0 0).f0) ((rd_T31 l0 0).f1) ((rd_T31 l0 0).f2) ((rd_T31 l1 0).f0) ((rd_T31 l1 0).f1) ((rd_T31 l1 0).f2) false _ A11.out).mono ?_
            rintro e w29 ⟨rfl, hb⟩
            refine ⟨_, rfl, ?_⟩
            have n0_ := Aside0.mk (below_step (by repeat (first | (with_reducible first | exact HB.out | apply bwA | apply bwN | apply bw1) | exact HB.out)) hb)
            clear HB
            have HB := n0_
            clear n0_
            (try clear hb)
            (try clear hb2)
            (try clear hk)
            (try clear hi)
            refine hK.out _ _ ⟨((HB.out.cell (block_lt_of_cell? w _ hw240_0)).trans hw240_0), ((HB.out.cell (block_lt_of_cell? w _ hw240_1)).trans hw240_1), ((HB.out.cell (block_lt_of_cell? w _ hw240_2)).trans hw240_2), ((HB.out.cell (block_lt_of_cell? w _ hw241_0)).trans hw241_0), ((HB.out.cell (block_lt_of_cell? w _ hw241_1)).trans hw241_1), ((HB.out.cell (block_lt_of_cell? w _ hw241_2)).trans hw241_2)⟩ (fun hHeld => ?_)
            clear hK K
            refine norm_ (a' := ?_) ?_ ?_
            rotate_left
            · show Act.put _ (some 25) _ = _
              simp only [Act.put, stA, stZ, stS, i64_w, i32_w]
              rfl
            refine pure_ (i := 7) (N := some 26) (v := ?_) (a' := ?_) #[true, true, true, true, true, true, true, true] rfl rfl (any_of HT_.out (by kernel_rfl)) (fun _ _ _ h => h) (Or.inl ⟨by rfl, ?_⟩) ?_ ?_
            rotate_left
            · intro w'
              go_simp
              with_reducible rfl
            rotate_left
            · simp only [Act.put, stA, stZ, stS, i64_w, i32_w]
              rfl
            refine done_ (done_of HT_.out (by kernel_rfl)) ?_
            try go_wp2_with (first | ((with_reducible refine gate_callee (f := 55) rfl ?_); refine goesL_ (some 32) rfl rfl Try.func55 (by kernel_rfl) rfl #[.slice (some ad241) l1.length c1] rfl (by (try simp only [map_toArray, map_cons, map_nil]); first | done | rfl | (simp only [length_drop, length_take]; rfl)) ?_; (with_reducible refine (spec_l3Parts.calls (fun k_ => k_ < w.heap.size) _ _ l1 t257 t260 t263 _ ?side1 A25.out).mono ?_); (case side1 => exact Kd.V_mk HC1.out (Kd.F_below (Kd.C_F k31_heap HR1.out) (by repeat (first | (with_reducible first | exact HB.out | apply bwA | apply bwN | apply bw1) | exact HB.out)))); rintro e w30 ⟨v258, v261, rfl, ho0, ho1, hb⟩; refine ⟨_, rfl, ?_⟩; have n0_ := Aside0.mk (Kd.V_lower (Kd.V_mono (ok' := fun k_ => True) ho0 (fun k_ hk_ => trivial)) (below_size (by repeat (first | (with_reducible first | exact HB.out | apply bwA | apply bwN | apply bw1) | exact HB.out)))); have n1_ := Aside0.mk (Kd.V_lower (Kd.V_mono (ok' := fun k_ => True) ho1 (fun k_ hk_ => trivial)) (below_size (by repeat (first | (with_reducible first | exact HB.out | apply bwA | apply bwN | apply bw1) | exact HB.out)))); have n2_ := Aside0.mk (below_step (by repeat (first | (with_reducible first | exact HB.out | apply bwA | apply bwN | apply bw1) | exact HB.out)) hb); clear HB; have HO259 := n0_; have HO262 := n1_; have HB := n2_; clear n0_ n1_ n2_; (try clear hb); (try clear hb2); (try clear hk); (try clear hi); (try clear ho0); (try clear ho1)))
            have n0_ := Aside0.mk (Kd.V_drew HO259.out)
            have n1_ := Aside0.mk (Kd.V_drew HO262.out)
            have n2_ := Aside0.mk (bw1 HB.out)
            clear HO259
            clear HO262
            clear HB
            have HO259 := n0_
            have HO262 := n1_
            have HB := n2_
            clear n0_ n1_ n2_
            have p264 : 0 ≤ (0 : Int) := (by omega)
            have q264 : 0 < (l1.length : Int) := of_decide_eq_true (by first | (with_reducible assumption) | assumption)
            obtain ⟨ad264, e264, hx264_0, hx264_1, hx264_2⟩ := at_T31 HR1.out 0 p264 q264
            have hw264_2 := hx264_2
            (try rw [show ((0 : Int)).toNat = 0 from rfl] at hw264_2)
            (try rw [show 0 * 3 = 0 from rfl] at hw264_2)
            (try rw [Addr.add_zero'] at hw264_2)
            have hw264_1 := hx264_1
            (try rw [show ((0 : Int)).toNat = 0 from rfl] at hw264_1)
            (try rw [show 0 * 3 = 0 from rfl] at hw264_1)
            (try rw [Addr.add_zero'] at hw264_1)
            have hw264_0 := hx264_0
            (try rw [show ((0 : Int)).toNat = 0 from rfl] at hw264_0)
            (try rw [show 0 * 3 = 0 from rfl] at hw264_0)
            (try rw [Addr.add_zero'] at hw264_0)
            obtain rfl : ad241 = ad264 := (by injection e264)
            have qi264 : (0 < l1.length) = True := eq_true (by omega)
            (try rw [show ((0 : Int)).toNat = 0 from rfl] at hx264_0)
            (try rw [show 0 * 3 = 0 from rfl] at hx264_0)
            (try rw [Addr.add_zero'] at hx264_0)
            (try rw [show ((0 : Int)).toNat = 0 from rfl] at hx264_1)
            (try rw [show 0 * 3 = 0 from rfl] at hx264_1)
            (try rw [Addr.add_zero'] at hx264_1)
            (try rw [show ((0 : Int)).toNat = 0 from rfl] at hx264_2)
            (try rw [show 0 * 3 = 0 from rfl] at hx264_2)
            (try rw [Addr.add_zero'] at hx264_2)
            replace hx264_0 := (HB.out.cell (block_lt_of_cell? w _ hx264_0)).trans hx264_0
            replace hx264_1 := (HB.out.cell (block_lt_of_cell? w _ hx264_1)).trans hx264_1
            replace hx264_2 := (HB.out.cell (block_lt_of_cell? w _ hx264_2)).trans hx264_2
            replace p264 := eq_true p264
            replace q264 := eq_true q264
            obtain ⟨Ao32, co32, eo32⟩ := Kd.V_slice HO262.out
            (first | subst eo32 | (injection eo32 with f1_ f2_ f3_; have f4_ := f1_.symm; have f5_ := f3_.symm; clear f1_ f2_ f3_; subst f4_; subst f5_))
            refine start_ (n := 9) (S := fun w' => w'.cell? ad241 = some (.int .i64 ((rd_T31 l1 0).f0)) ∧ w'.cell? ⟨ad241.block, ad241.off + 1, none⟩ = some (.int .i64 ((rd_T31 l1 0).f1)) ∧ w'.cell? ⟨ad241.block, ad241.off + 2, none⟩ = some (.int .i64 ((rd_T31 l1 0).f2))) (ds := []) #[false, false, false, false, false, false, false, false, false] (by kernel_rfl) rfl rfl ⟨((HB.out.cell (block_lt_of_cell? w _ hw264_0)).trans hw264_0), ((HB.out.cell (block_lt_of_cell? w _ hw264_1)).trans hw264_1), ((HB.out.cell (block_lt_of_cell? w _ hw264_2)).trans hw264_2)⟩ (fun hHeld => ?_); refine with_tabW spec_l3Merge.tab10 spec_l3Merge.bits10 (fun HT_ HW_ => ?_)
            generalize w30.drew = w31 at HO259 HO262 HB hx264_0 hx264_1 hx264_2 hHeld ⊢
            refine pure_ (i := 0) (N := some 36) (v := ?_) (a' := ?_) #[true, false, false, false, false, false, false, false, false] rfl rfl (any_of HT_.out (by kernel_rfl)) (fun _ _ _ h => h) (Or.inl ⟨by rfl, ?_⟩) ?_ ?_
            rotate_left
            · intro w'
              go_simp
              with_reducible rfl
            rotate_left
            · simp only [Act.put, stA, stZ, stS, i64_w, i32_w]
              rfl
            refine pure_ (i := 1) (N := some 37) (v := ?_) (a' := ?_) #[true, true, false, false, false, false, false, false, false] rfl rfl (any_of HT_.out (by kernel_rfl)) (fun _ _ _ h => h) (Or.inl ⟨by rfl, ?_⟩) ?_ ?_
            rotate_left
            · intro w'
              go_simp
              with_reducible rfl
            rotate_left
            · simp only [Act.put, stA, stZ, stS, i64_w, i32_w]
              rfl
            refine pure_ (i := 3) (N := some 39) (v := ?_) (a' := ?_) #[true, true, false, true, false, false, false, false, false] rfl rfl (any_of HT_.out (by kernel_rfl)) (fun _ _ _ h => h) (Or.inl ⟨by rfl, ?_⟩) ?_ ?_
            rotate_left
            · intro w'
              go_simp
              with_reducible rfl
            rotate_left
            · simp only [Act.put, stA, stZ, stS, i64_w, i32_w]
              rfl
            refine pure_ (i := 4) (N := some 40) (v := ?_) (a' := ?_) #[true, true, false, true, true, false, false, false, false] rfl rfl (any_of HT_.out (by kernel_rfl)) (fun _ _ _ h => h) (Or.inl ⟨by rfl, ?_⟩) ?_ ?_
            rotate_left
            · intro w'
              go_simp
              with_reducible rfl
            rotate_left
            · simp only [Act.put, stA, stZ, stS, i64_w, i32_w]
              rfl
            refine pure_ (i := 5) (N := some 41) (v := ?_) (a' := ?_) #[true, true, false, true, true, true, false, false, false] rfl rfl (any_of HT_.out (by kernel_rfl)) (fun _ _ _ h => h) (Or.inl ⟨by rfl, ?_⟩) ?_ ?_
            rotate_left
            · intro w'
              go_simp
              with_reducible rfl
            rotate_left
            · simp only [Act.put, stA, stZ, stS, i64_w, i32_w]
              rfl
            refine take_ (i := 2) (N := some 38) (v := ?_) (a' := ?_) #[true, true, true, true, true, true, false, false, false] rfl rfl (take_ofW HT_.out HW_.out (by kernel_rfl)) (fun _ _ _ h => h) (Or.inl ⟨by rfl, ?_⟩) hHeld ?_ ?_
            rotate_left
            · rintro w' ⟨s0, s1, s2⟩
              go_simp
              with_reducible rfl
            rotate_left
            · simp only [Act.put, stA, stZ, stS, i64_w, i32_w]
              rfl
            refine one_ (i := 6) (N := some 42) #[true, true, true, true, true, true, true, false, false] rfl rfl (one_of HT_.out (by kernel_rfl)) (by decide) (fun K hK => ?_)
            refine goes_ Try.func56 (by kernel_rfl) rfl #[.slice Ao32 t260.length co32, .slice (some ad240) l0.length c0] (by rfl) rfl rfl (by (try simp only [map_toArray, map_cons, map_nil]); first | done | rfl | (simp only [length_drop, length_take]; rfl)) ?_
            with_reducible refine (ih k (by omega) _ _ t260 _ _ l0 t265 _ ?side1 ?side2 ?side3 ?side4 A26.out).mono ?_
            (case side1 => repeat (first | exact (Kd.V_reads' HO262.out).2.2 | (with_reducible refine C_alloc ?_ _) | (with_reducible refine C_drewN ?_ _) | (with_reducible refine C_drew ?_)))
            (case side2 => exact (Kd.V_reads' HO262.out).2.1)
            (case side3 => repeat (first | exact (C_below HR0.out HB.out) | (with_reducible refine C_alloc ?_ _) | (with_reducible refine C_drewN ?_ _) | (with_reducible refine C_drew ?_)))
            (case side4 => exact HC0.out)
            rintro e w33 ⟨v266, rfl, ho0, hb⟩
            refine ⟨_, rfl, ?_⟩
            have n0_ := Aside0.mk (Kd.V_elder' (by (with_reducible repeat (first | apply Kd.V_alloc | apply Kd.V_drewN | apply Kd.V_drew)); exact HO259.out) (Kd.R_base ho0) hb)
            have n1_ := Aside0.mk (Kd.V_elder' (by (with_reducible repeat (first | apply Kd.V_alloc | apply Kd.V_drewN | apply Kd.V_drew)); exact HO262.out) (Kd.R_base ho0) hb)
            have n2_ := Aside0.mk (Kd.R_lower ho0 (below_size (by repeat (first | (with_reducible first | exact HB.out | apply bwA | apply bwN | apply bw1) | exact HB.out))))
            have n3_ := Aside0.mk (below_step (by repeat (first | (with_reducible first | exact HB.out | apply bwA | apply bwN | apply bw1) | exact HB.out)) hb)
            clear HO259
            clear HO262
            clear HB
            have HO259 := n0_
            have HO262 := n1_
            have HO267 := n2_
            have HB := n3_
            clear n0_ n1_ n2_ n3_
            (try clear hb)
            (try clear hb2)
            (try clear hk)
            (try clear hi)
            (try clear ho0)
            obtain ⟨Ao34, co34, eo34⟩ := Kd.V_slice HO259.out
            (first | subst eo34 | (injection eo34 with f1_ f2_ f3_; have f4_ := f1_.symm; have f5_ := f3_.symm; clear f1_ f2_ f3_; subst f4_; subst f5_))
            obtain ⟨Ao35, co35, eo35⟩ := Kd.R_slice HO267.out
            (first | subst eo35 | (injection eo35 with f1_ f2_ f3_; have f4_ := f1_.symm; have f5_ := f3_.symm; clear f1_ f2_ f3_; subst f4_; subst f5_))
            refine hK.out _ _ ⟨((HB.out.cell (block_lt_of_cell? w _ hw264_0)).trans hw264_0), ((HB.out.cell (block_lt_of_cell? w _ hw264_1)).trans hw264_1), ((HB.out.cell (block_lt_of_cell? w _ hw264_2)).trans hw264_2)⟩ (fun hHeld => ?_)
            clear hK K
            refine norm_ (a' := ?_) ?_ ?_
            rotate_left
            · show Act.put _ (some 42) _ = _
              simp only [Act.put, stA, stZ, stS, i64_w, i32_w]
              rfl
            refine one_ (i := 7) (N := some 43) #[true, true, true, true, true, true, true, true, false] rfl rfl (one_of HT_.out (by kernel_rfl)) (by decide) (fun K hK => ?_)
            refine goes_ Try.func86 (by kernel_rfl) rfl #[.agg #[.int .i64 ((rd_T31 l1 0).f0), .int .i64 ((rd_T31 l1 0).f1), .int .i64 ((rd_T31 l1 0).f2)], .slice Ao34 t257.length co34, .slice Ao35 t265.length co35] (by rfl) rfl rfl (by (try simp only [map_toArray, map_cons, map_nil]); first | done | rfl | (simp only [length_drop, length_take]; rfl)) ?_
            with_reducible refine (spec_l3Join.calls k ((rd_T31 l1 0).f0) ((rd_T31 l1 0).f1) ((rd_T31 l1 0).f2) _ _ t257 _ _ t265 t268 _ ?side1 ?side2 ?side3 ?side4 A27.out).mono ?_
            (case side1 => repeat (first | exact (Kd.V_reads' HO259.out).2.2 | (with_reducible refine C_alloc ?_ _) | (with_reducible refine C_drewN ?_ _) | (with_reducible refine C_drew ?_)))
            (case side2 => exact (Kd.V_reads' HO259.out).2.1)
            (case side3 => repeat (first | exact (R_reads' HO267.out).2.2 | (with_reducible refine C_alloc ?_ _) | (with_reducible refine C_drewN ?_ _) | (with_reducible refine C_drew ?_)))
            (case side4 => exact (R_reads' HO267.out).2.1)
            rintro e w36 ⟨v269, rfl, ho0, hb⟩
            refine ⟨_, rfl, ?_⟩
            have n0_ := Aside0.mk (Kd.V_elder' (by (with_reducible repeat (first | apply Kd.V_alloc | apply Kd.V_drewN | apply Kd.V_drew)); exact HO259.out) (Kd.R_base ho0) hb)
            have n1_ := Aside0.mk (Kd.V_elder' (by (with_reducible repeat (first | apply Kd.V_alloc | apply Kd.V_drewN | apply Kd.V_drew)); exact HO262.out) (Kd.R_base ho0) hb)
            have n2_ := Aside0.mk (Kd.R_elder' (by (with_reducible repeat (first | apply R_alloc | apply R_drewN | apply R_drew)); exact HO267.out) (Kd.R_base ho0) hb)
            have n3_ := Aside0.mk (Kd.R_lower (Kd.R_new' ho0 (Kd.R_lt (by (with_reducible repeat (first | apply R_alloc | apply R_drewN | apply R_drew)); exact HO267.out))) (below_size (by repeat (first | (with_reducible first | exact HB.out | apply bwA | apply bwN | apply bw1) | exact HB.out))))
            have n4_ := Aside0.mk (below_step (by repeat (first | (with_reducible first | exact HB.out | apply bwA | apply bwN | apply bw1) | exact HB.out)) hb)
            clear HO259
            clear HO262
            clear HO267
            clear HB
            have HO259 := n0_
            have HO262 := n1_
            have HO267 := n2_
            have HO270 := n3_
            have HB := n4_
            clear n0_ n1_ n2_ n3_ n4_
            (try clear hb)
            (try clear hb2)
            (try clear hk)
            (try clear hi)
            (try clear ho0)
            refine hK.out _ _ ⟨((HB.out.cell (block_lt_of_cell? w _ hw264_0)).trans hw264_0), ((HB.out.cell (block_lt_of_cell? w _ hw264_1)).trans hw264_1), ((HB.out.cell (block_lt_of_cell? w _ hw264_2)).trans hw264_2)⟩ (fun hHeld => ?_)
            clear hK K
            refine norm_ (a' := ?_) ?_ ?_
            rotate_left
            · show Act.put _ (some 43) _ = _
              simp only [Act.put, stA, stZ, stS, i64_w, i32_w]
              rfl
            refine pure_ (i := 8) (N := some 4) (v := ?_) (a' := ?_) #[true, true, true, true, true, true, true, true, true] rfl rfl (any_of HT_.out (by kernel_rfl)) (fun _ _ _ h => h) (Or.inl ⟨by rfl, ?_⟩) ?_ ?_
            rotate_left
            · intro w'
              go_simp
              with_reducible rfl
            rotate_left
            · simp only [Act.put, stA, stZ, stS, i64_w, i32_w]
              rfl
            refine done_ (done_of HT_.out (by kernel_rfl)) ?_
            try go_wp2
            go_ret
            exact ⟨_, by first | rfl | (simp [errW_none, errW_some] <;> rfl) | (simp [*, errW_none, errW_some] <;> rfl), by (with_reducible repeat (first | apply R_alloc | apply R_drewN | apply R_drew)); exact Kd.R_mono HO270.out (fun _ hk => trivial), by repeat (first | (with_reducible first | exact HB.out | apply bwA | apply bwN | apply bw1) | exact HB.out)⟩
        · rw [if_neg c10] at H
          exact absurd H (by simp)
      · rw [if_neg c9] at H
        exact absurd H (by simp)
end Go.Proofs.Ytljfflhbabkbgaa.PFnRank
