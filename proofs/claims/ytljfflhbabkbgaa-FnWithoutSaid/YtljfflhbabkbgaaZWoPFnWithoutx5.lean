/- Texts of the claim of the law FnWithout, made smaller by a program of this session: what the claim does not use is left out. No condition. -/
import Derived.Test.YtljfflhbabkbgaaZWoPFnWithoutx0
import Derived.Test.YtljfflhbabkbgaaZWoPFnWithoutx2
import Derived.Test.YtljfflhbabkbgaaZWoPFnWithoutx4
namespace Go.Proofs.Ytljfflhbabkbgaa.PFnWithout
open Go.RowKit Go.Proofs.YtljfflhbabkbgaaW.PrintWords Go.Proofs.YtljfflhbabkbgaaW.PrintLast Go.Proofs.YtljfflhbabkbgaaW.PrintMore
open List (setIfInBounds_toArray map_toArray map_cons map_nil length_drop length_take)
open Option (bind_eq_some_iff)
open Go.World (block_lt_of_cell?)
open Kd (R_drew R_drewN R_alloc C_drewN C_drew C_alloc R_reads' C_below)
attribute [local go_sem] max2_int min2_int max_two min_two max_three min_three max_four min_four   -- for this text's walks alone
set_option linter.unusedVariables false
set_option linter.unusedSimpArgs false
def spec_l3Merge.f : Nat → List (S31) → List (S31) → Option ((List (S31)))
  | 0, _, _ => none
  | k + 1, l0, l1 => if (l0.length : Int) = 0 then ((spec_l3Copy.f l1).bind fun t170 => (some t170)) else (if (l1.length : Int) = 0 then ((spec_l3Copy.f l0).bind fun t173 => (some t173)) else (if 0 < (l0.length : Int) then (if 0 < (l1.length : Int) then ((spec_l3Ahead.f ((rd_T31 l0 0).f0) ((rd_T31 l0 0).f1) ((rd_T31 l0 0).f2) ((rd_T31 l1 0).f0) ((rd_T31 l1 0).f1) ((rd_T31 l1 0).f2)).bind fun t178 => (if t178 = true then ((spec_l3Parts.f l0).bind fun bt179 => ((spec_l3Merge.f k bt179.2.1 l1).bind fun t187 => ((spec_l3Join.f k ((rd_T31 l0 0).f0) ((rd_T31 l0 0).f1) ((rd_T31 l0 0).f2) bt179.1 t187).bind fun t190 => (some t190)))) else ((spec_l3Parts.f l1).bind fun bt193 => ((spec_l3Merge.f k bt193.2.1 l0).bind fun t201 => ((spec_l3Join.f k ((rd_T31 l1 0).f0) ((rd_T31 l1 0).f1) ((rd_T31 l1 0).f2) bt193.1 t201).bind fun t204 => (some t204)))))) else (none)) else (none)))
def spec_l3Merge.T5 : Bool × List (List Nat × List Nat) := (true, [([], []), ([0], [0]), ([1], [1]), ([], []), ([3], [3]), ([4], [4]), ([2, 5], [2, 5]), ([6], [6])])
def spec_l3Merge.B5 : List Nat := [0, 1, 3, 0, 8, 24, 63, 127]
theorem spec_l3Merge.tab5 : rtab .any (opsOf Try.f56 5) = spec_l3Merge.T5 := by kernel_rfl
theorem spec_l3Merge.bits5 : waitsOk spec_l3Merge.T5.2 spec_l3Merge.B5 = true := by kernel_rfl
def spec_l3Merge.T10 : Bool × List (List Nat × List Nat) := (true, [([], []), ([0], [0]), ([1], [1]), ([], []), ([], []), ([], []), ([4, 5], [4, 5]), ([2, 3, 6, 6], [2, 3, 6]), ([7, 7, 0, 1, 2, 3, 4, 5, 6, 7], [7])])
def spec_l3Merge.B10 : List Nat := [0, 1, 3, 0, 0, 0, 48, 127, 255]
theorem spec_l3Merge.tab10 : rtab .any (opsOf Try.f56 10) = spec_l3Merge.T10 := by kernel_rfl
theorem spec_l3Merge.bits10 : waitsOk spec_l3Merge.T10.2 spec_l3Merge.B10 = true := by kernel_rfl
set_option maxHeartbeats 8000000 in
set_option maxRecDepth 100000 in
theorem spec_l3Merge.calls (k : Nat) : ∀ (A0 : Option Addr) (c0 : Nat) (l0 : List (S31)) (A1 : Option Addr) (c1 : Nat) (l1 : List (S31)) (r : List (S31)) (w : World) (hr0 : Kd.C k31 w A0 l0.length l0) (hc0 : l0.length ≤ c0) (hr1 : Kd.C k31 w A1 l1.length l1) (hc1 : l1.length ≤ c1) (h : spec_l3Merge.f k l0 l1 = some r),
    Calls Try.prog 56 #[.slice A0 l0.length c0, .slice A1 l1.length c1] w fun e w' => ∃ v0_ : Value, e = .returned (v0_) ∧ Kd.R k31 31 w' w.heap.size (fun _ => True) v0_ r ∧ Below w.heap.size w w' := by
  induction k using Nat.strongRecOn with
  | _ k ih =>
  intro A0 c0 l0 A1 c1 l1 r w hr0 hc0 hr1 hc1 h
  cases k with
  | zero => exact absurd h (by simp [spec_l3Merge.f])
  | succ k =>
  simp only [spec_l3Merge.f] at h
  have hu31 := Try.underlying31
  have HR0 := Aside0.mk hr0
  have HC0 := Aside0.mk hc0
  clear hr0 hc0
  have HR1 := Aside0.mk hr1
  have HC1 := Aside0.mk hc1
  clear hr1 hc1
  have HB := Aside0.mk (Below.refl w.heap.size w)
  have H : (if (l0.length : Int) = 0 then ((spec_l3Copy.f l1).bind fun t170 => (some t170)) else (if (l1.length : Int) = 0 then ((spec_l3Copy.f l0).bind fun t173 => (some t173)) else (if 0 < (l0.length : Int) then (if 0 < (l1.length : Int) then ((spec_l3Ahead.f ((rd_T31 l0 0).f0) ((rd_T31 l0 0).f1) ((rd_T31 l0 0).f2) ((rd_T31 l1 0).f0) ((rd_T31 l1 0).f1) ((rd_T31 l1 0).f2)).bind fun t178 => (if t178 = true then ((spec_l3Parts.f l0).bind fun bt179 => ((spec_l3Merge.f k bt179.2.1 l1).bind fun t187 => ((spec_l3Join.f k ((rd_T31 l0 0).f0) ((rd_T31 l0 0).f1) ((rd_T31 l0 0).f2) bt179.1 t187).bind fun t190 => (some t190)))) else ((spec_l3Parts.f l1).bind fun bt193 => ((spec_l3Merge.f k bt193.2.1 l0).bind fun t201 => ((spec_l3Join.f k ((rd_T31 l1 0).f0) ((rd_T31 l1 0).f1) ((rd_T31 l1 0).f2) bt193.1 t201).bind fun t204 => (some t204)))))) else (none)) else (none)))) = some r := h
  clear h
  by_cases c3 : (l0.length : Int) = 0
  · rw [if_pos c3] at H
    have c3b0 : ((l0.length : Int) == 0) = true := beq_iff_eq.mpr c3
    have c3b1 : ((l0.length : Int) != 0) = false := bne_eq_false_iff_eq.mpr c3
    clear c3
    replace H := bind_eq_some_iff.mp H
    obtain ⟨t170, A40, H⟩ := H
    replace H : (some t170) = some r := H
    have A4 := Aside0.mk A40
    clear A40
    obtain rfl := Option.some.inj H
    go_enter Try.func56, Try.ntmps56
    go_wp2_with (first | ((with_reducible refine gate_callee (f := 59) rfl ?_); refine goesL_ (some 13) rfl rfl Try.func59 (by kernel_rfl) rfl #[.slice A1 l1.length c1] rfl (by (try simp only [map_toArray, map_cons, map_nil]); first | done | rfl | (simp only [length_drop, length_take]; rfl)) ?_; (with_reducible refine (spec_l3Copy.calls _ _ l1 t170 _ ?side1 ?side2 A4.out).mono ?_); (case side1 => repeat (first | exact HR1.out | (with_reducible refine C_alloc ?_ _) | (with_reducible refine C_drewN ?_ _) | (with_reducible refine C_drew ?_))); (case side2 => exact HC1.out); rintro e w5 ⟨v171, rfl, ho0, hb⟩; refine ⟨_, rfl, ?_⟩; have n0_ := Aside0.mk (Kd.R_lower ho0 (below_size (by repeat (first | (with_reducible first | exact HB.out | apply bwA | apply bwN | apply bw1) | exact HB.out)))); have n1_ := Aside0.mk (below_step (by repeat (first | (with_reducible first | exact HB.out | apply bwA | apply bwN | apply bw1) | exact HB.out)) hb); clear HB; have HO172 := n0_; have HB := n1_; clear n0_ n1_; (try clear hb); (try clear hb2); (try clear hk); (try clear hi); (try clear ho0)))
    go_ret
    exact ⟨_, by first | rfl | (simp [errW_none, errW_some] <;> rfl) | (simp [*, errW_none, errW_some] <;> rfl), by (with_reducible repeat (first | apply R_alloc | apply R_drewN | apply R_drew)); exact HO172.out, by repeat (first | (with_reducible first | exact HB.out | apply bwA | apply bwN | apply bw1) | exact HB.out)⟩
  · rw [if_neg c3] at H
    have c3b0 : ((l0.length : Int) == 0) = false := beq_eq_false_iff_ne.mpr c3
    have c3b1 : ((l0.length : Int) != 0) = true := bne_iff_ne.mpr c3
    have c3b2 : ¬ (l0 = []) := fun h_ => c3 (by rw [h_]; rfl)
    by_cases c6 : (l1.length : Int) = 0
    · rw [if_pos c6] at H
      have c6b0 : ((l1.length : Int) == 0) = true := beq_iff_eq.mpr c6
      have c6b1 : ((l1.length : Int) != 0) = false := bne_eq_false_iff_eq.mpr c6
      clear c6
      replace H := bind_eq_some_iff.mp H
      obtain ⟨t173, A70, H⟩ := H
      replace H : (some t173) = some r := H
      have A7 := Aside0.mk A70
      clear A70
      obtain rfl := Option.some.inj H
      go_enter Try.func56, Try.ntmps56
      go_wp2_with (first | ((with_reducible refine gate_callee (f := 59) rfl ?_); refine goesL_ (some 18) rfl rfl Try.func59 (by kernel_rfl) rfl #[.slice A0 l0.length c0] rfl (by (try simp only [map_toArray, map_cons, map_nil]); first | done | rfl | (simp only [length_drop, length_take]; rfl)) ?_; (with_reducible refine (spec_l3Copy.calls _ _ l0 t173 _ ?side1 ?side2 A7.out).mono ?_); (case side1 => repeat (first | exact HR0.out | (with_reducible refine C_alloc ?_ _) | (with_reducible refine C_drewN ?_ _) | (with_reducible refine C_drew ?_))); (case side2 => exact HC0.out); rintro e w8 ⟨v174, rfl, ho0, hb⟩; refine ⟨_, rfl, ?_⟩; have n0_ := Aside0.mk (Kd.R_lower ho0 (below_size (by repeat (first | (with_reducible first | exact HB.out | apply bwA | apply bwN | apply bw1) | exact HB.out)))); have n1_ := Aside0.mk (below_step (by repeat (first | (with_reducible first | exact HB.out | apply bwA | apply bwN | apply bw1) | exact HB.out)) hb); clear HB; have HO175 := n0_; have HB := n1_; clear n0_ n1_; (try clear hb); (try clear hb2); (try clear hk); (try clear hi); (try clear ho0)))
      go_ret
      exact ⟨_, by first | rfl | (simp [errW_none, errW_some] <;> rfl) | (simp [*, errW_none, errW_some] <;> rfl), by (with_reducible repeat (first | apply R_alloc | apply R_drewN | apply R_drew)); exact HO175.out, by repeat (first | (with_reducible first | exact HB.out | apply bwA | apply bwN | apply bw1) | exact HB.out)⟩
    · rw [if_neg c6] at H
      have c6b0 : ((l1.length : Int) == 0) = false := beq_eq_false_iff_ne.mpr c6
      have c6b1 : ((l1.length : Int) != 0) = true := bne_iff_ne.mpr c6
      have c6b2 : ¬ (l1 = []) := fun h_ => c6 (by rw [h_]; rfl)
      by_cases c9 : 0 < (l0.length : Int)
      · rw [if_pos c9] at H
        have c9b0 : decide (0 < (l0.length : Int)) = true := decide_eq_true c9
        have c9b1 : decide (0 < l0.length) = true := decide_eq_true (by omega)
        clear c9
        by_cases c10 : 0 < (l1.length : Int)
        · rw [if_pos c10] at H
          have c10b0 : decide (0 < (l1.length : Int)) = true := decide_eq_true c10
          have c10b1 : decide (0 < l1.length) = true := decide_eq_true (by omega)
          clear c10
          replace H := bind_eq_some_iff.mp H
          obtain ⟨t178, A110, H⟩ := H
          replace H : (if t178 = true then ((spec_l3Parts.f l0).bind fun bt179 => ((spec_l3Merge.f k bt179.2.1 l1).bind fun t187 => ((spec_l3Join.f k ((rd_T31 l0 0).f0) ((rd_T31 l0 0).f1) ((rd_T31 l0 0).f2) bt179.1 t187).bind fun t190 => (some t190)))) else ((spec_l3Parts.f l1).bind fun bt193 => ((spec_l3Merge.f k bt193.2.1 l0).bind fun t201 => ((spec_l3Join.f k ((rd_T31 l1 0).f0) ((rd_T31 l1 0).f1) ((rd_T31 l1 0).f2) bt193.1 t201).bind fun t204 => (some t204))))) = some r := H
          have A11 := Aside0.mk A110
          clear A110
          by_cases c12 : t178 = true
          · subst c12
            have H1 : ((spec_l3Parts.f l0).bind fun bt179 => ((spec_l3Merge.f k bt179.2.1 l1).bind fun t187 => ((spec_l3Join.f k ((rd_T31 l0 0).f0) ((rd_T31 l0 0).f1) ((rd_T31 l0 0).f2) bt179.1 t187).bind fun t190 => (some t190)))) = some r := by rw [if_pos rfl] at H; exact H
            clear H
            have H := H1
            clear H1
            replace H := bind_eq_some_iff.mp H
            obtain ⟨⟨t179, t182, t185⟩, A130, H⟩ := H
            replace H : ((spec_l3Merge.f k t182 l1).bind fun t187 => ((spec_l3Join.f k ((rd_T31 l0 0).f0) ((rd_T31 l0 0).f1) ((rd_T31 l0 0).f2) t179 t187).bind fun t190 => (some t190))) = some r := H
            have A13 := Aside0.mk A130
            clear A130
            replace H := bind_eq_some_iff.mp H
            obtain ⟨t187, A140, H⟩ := H
            replace H : ((spec_l3Join.f k ((rd_T31 l0 0).f0) ((rd_T31 l0 0).f1) ((rd_T31 l0 0).f2) t179 t187).bind fun t190 => (some t190)) = some r := H
            have A14 := Aside0.mk A140
            clear A140
            replace H := bind_eq_some_iff.mp H
            obtain ⟨t190, A150, H⟩ := H
            replace H : (some t190) = some r := H
            have A15 := Aside0.mk A150
            clear A150
            obtain rfl := Option.some.inj H
            go_enter Try.func56, Try.ntmps56
            try go_wp2
            have n0_ := Aside0.mk (bw1 HB.out)
            clear HB
            have HB := n0_
            clear n0_
            have p176 : 0 ≤ (0 : Int) := (by omega)
            have q176 : 0 < (l0.length : Int) := of_decide_eq_true (by first | (with_reducible assumption) | assumption)
            obtain ⟨ad176, e176, hx176_0, hx176_1, hx176_2⟩ := at_T31 HR0.out 0 p176 q176
            have hw176_2 := hx176_2
            (try rw [show ((0 : Int)).toNat = 0 from rfl] at hw176_2)
            (try rw [show 0 * 3 = 0 from rfl] at hw176_2)
            (try rw [Addr.add_zero'] at hw176_2)
            have hw176_1 := hx176_1
            (try rw [show ((0 : Int)).toNat = 0 from rfl] at hw176_1)
            (try rw [show 0 * 3 = 0 from rfl] at hw176_1)
            (try rw [Addr.add_zero'] at hw176_1)
            have hw176_0 := hx176_0
            (try rw [show ((0 : Int)).toNat = 0 from rfl] at hw176_0)
            (try rw [show 0 * 3 = 0 from rfl] at hw176_0)
            (try rw [Addr.add_zero'] at hw176_0)
            cases e176
            have qi176 : (0 < l0.length) = True := eq_true (by omega)
            (try rw [show ((0 : Int)).toNat = 0 from rfl] at hx176_0)
            (try rw [show 0 * 3 = 0 from rfl] at hx176_0)
            (try rw [Addr.add_zero'] at hx176_0)
            (try rw [show ((0 : Int)).toNat = 0 from rfl] at hx176_1)
            (try rw [show 0 * 3 = 0 from rfl] at hx176_1)
            (try rw [Addr.add_zero'] at hx176_1)
            (try rw [show ((0 : Int)).toNat = 0 from rfl] at hx176_2)
            (try rw [show 0 * 3 = 0 from rfl] at hx176_2)
            (try rw [Addr.add_zero'] at hx176_2)
            replace hx176_0 := (HB.out.cell (block_lt_of_cell? w _ hx176_0)).trans hx176_0
            replace hx176_1 := (HB.out.cell (block_lt_of_cell? w _ hx176_1)).trans hx176_1
            replace hx176_2 := (HB.out.cell (block_lt_of_cell? w _ hx176_2)).trans hx176_2
            replace p176 := eq_true p176
            replace q176 := eq_true q176
            have p177 : 0 ≤ (0 : Int) := (by omega)
            have q177 : 0 < (l1.length : Int) := of_decide_eq_true (by first | (with_reducible assumption) | assumption)
            obtain ⟨ad177, e177, hx177_0, hx177_1, hx177_2⟩ := at_T31 HR1.out 0 p177 q177
            have hw177_2 := hx177_2
            (try rw [show ((0 : Int)).toNat = 0 from rfl] at hw177_2)
            (try rw [show 0 * 3 = 0 from rfl] at hw177_2)
            (try rw [Addr.add_zero'] at hw177_2)
            have hw177_1 := hx177_1
            (try rw [show ((0 : Int)).toNat = 0 from rfl] at hw177_1)
            (try rw [show 0 * 3 = 0 from rfl] at hw177_1)
            (try rw [Addr.add_zero'] at hw177_1)
            have hw177_0 := hx177_0
            (try rw [show ((0 : Int)).toNat = 0 from rfl] at hw177_0)
            (try rw [show 0 * 3 = 0 from rfl] at hw177_0)
            (try rw [Addr.add_zero'] at hw177_0)
            cases e177
            have qi177 : (0 < l1.length) = True := eq_true (by omega)
            (try rw [show ((0 : Int)).toNat = 0 from rfl] at hx177_0)
            (try rw [show 0 * 3 = 0 from rfl] at hx177_0)
            (try rw [Addr.add_zero'] at hx177_0)
            (try rw [show ((0 : Int)).toNat = 0 from rfl] at hx177_1)
            (try rw [show 0 * 3 = 0 from rfl] at hx177_1)
            (try rw [Addr.add_zero'] at hx177_1)
            (try rw [show ((0 : Int)).toNat = 0 from rfl] at hx177_2)
            (try rw [show 0 * 3 = 0 from rfl] at hx177_2)
            (try rw [Addr.add_zero'] at hx177_2)
            replace hx177_0 := (HB.out.cell (block_lt_of_cell? w _ hx177_0)).trans hx177_0
            replace hx177_1 := (HB.out.cell (block_lt_of_cell? w _ hx177_1)).trans hx177_1
            replace hx177_2 := (HB.out.cell (block_lt_of_cell? w _ hx177_2)).trans hx177_2
            replace p177 := eq_true p177
            replace q177 := eq_true q177
            refine start_ (n := 8) (S := fun w' => w'.cell? ad176 = some (.int .i64 ((rd_T31 l0 0).f0)) ∧ w'.cell? ⟨ad176.block, ad176.off + 1, none⟩ = some (.int .i64 ((rd_T31 l0 0).f1)) ∧ w'.cell? ⟨ad176.block, ad176.off + 2, none⟩ = some (.int .i64 ((rd_T31 l0 0).f2)) ∧ w'.cell? ad177 = some (.int .i64 ((rd_T31 l1 0).f0)) ∧ w'.cell? ⟨ad177.block, ad177.off + 1, none⟩ = some (.int .i64 ((rd_T31 l1 0).f1)) ∧ w'.cell? ⟨ad177.block, ad177.off + 2, none⟩ = some (.int .i64 ((rd_T31 l1 0).f2))) (ds := []) #[false, false, false, false, false, false, false, false] (by kernel_rfl) rfl rfl ⟨((HB.out.cell (block_lt_of_cell? w _ hw176_0)).trans hw176_0), ((HB.out.cell (block_lt_of_cell? w _ hw176_1)).trans hw176_1), ((HB.out.cell (block_lt_of_cell? w _ hw176_2)).trans hw176_2), ((HB.out.cell (block_lt_of_cell? w _ hw177_0)).trans hw177_0), ((HB.out.cell (block_lt_of_cell? w _ hw177_1)).trans hw177_1), ((HB.out.cell (block_lt_of_cell? w _ hw177_2)).trans hw177_2)⟩ (fun hHeld => ?_); refine with_tabW spec_l3Merge.tab5 spec_l3Merge.bits5 (fun HT_ HW_ => ?_)
            generalize w.drew = w16 at HB hx176_0 hx176_1 hx176_2 hx177_0 hx177_1 hx177_2 hHeld ⊢
            refine pure_ (i := 0) (N := some 19) (v := ?_) (a' := ?_) #[true, false, false, false, false, false, false, false] rfl rfl (any_of HT_.out (by kernel_rfl)) (fun _ _ _ h => h) (Or.inl ⟨by rfl, ?_⟩) ?_ ?_
            rotate_left
            · intro w'
              go_simp
              with_reducible rfl
            rotate_left
            · simp only [Act.put, stA, stZ, stS, i64_w, i32_w]
              rfl
            refine pure_ (i := 1) (N := some 20) (v := ?_) (a' := ?_) #[true, true, false, false, false, false, false, false] rfl rfl (any_of HT_.out (by kernel_rfl)) (fun _ _ _ h => h) (Or.inl ⟨by rfl, ?_⟩) ?_ ?_
            rotate_left
            · intro w'
              go_simp
              with_reducible rfl
            rotate_left
            · simp only [Act.put, stA, stZ, stS, i64_w, i32_w]
              rfl
            refine pure_ (i := 3) (N := some 22) (v := ?_) (a' := ?_) #[true, true, false, true, false, false, false, false] rfl rfl (any_of HT_.out (by kernel_rfl)) (fun _ _ _ h => h) (Or.inl ⟨by rfl, ?_⟩) ?_ ?_
            rotate_left
            · intro w'
              go_simp
              with_reducible rfl
            rotate_left
            · simp only [Act.put, stA, stZ, stS, i64_w, i32_w]
              rfl
            refine pure_ (i := 4) (N := some 23) (v := ?_) (a' := ?_) #[true, true, false, true, true, false, false, false] rfl rfl (any_of HT_.out (by kernel_rfl)) (fun _ _ _ h => h) (Or.inl ⟨by rfl, ?_⟩) ?_ ?_
            rotate_left
            · intro w'
              go_simp
              with_reducible rfl
            rotate_left
            · simp only [Act.put, stA, stZ, stS, i64_w, i32_w]
              rfl
            refine take_ (i := 2) (N := some 21) (v := ?_) (a' := ?_) #[true, true, true, true, true, false, false, false] rfl rfl (take_ofW HT_.out HW_.out (by kernel_rfl)) (fun _ _ _ h => h) (Or.inl ⟨by rfl, ?_⟩) hHeld ?_ ?_
            rotate_left
            · rintro w' ⟨s0, s1, s2, s3, s4, s5⟩
              go_simp
              with_reducible rfl
            rotate_left
            · simp only [Act.put, stA, stZ, stS, i64_w, i32_w]
              rfl
            refine take_ (i := 5) (N := some 24) (v := ?_) (a' := ?_) #[true, true, true, true, true, true, false, false] rfl rfl (take_ofW HT_.out HW_.out (by kernel_rfl)) (fun _ _ _ h => h) (Or.inl ⟨by rfl, ?_⟩) hHeld ?_ ?_
            rotate_left
            · rintro w' ⟨s0, s1, s2, s3, s4, s5⟩
              go_simp
              with_reducible rfl
            rotate_left
            · simp only [Act.put, stA, stZ, stS, i64_w, i32_w]
              rfl
            refine one_ (i := 6) (N := some 25) #[true, true, true, true, true, true, true, false] rfl rfl (one_of HT_.out (by kernel_rfl)) (by decide) (fun K hK => ?_)
            refine goes_ Try.func75 (by kernel_rfl) rfl #[.agg #[.int .i64 ((rd_T31 l0 0).f0), .int .i64 ((rd_T31 l0 0).f1), .int .i64 ((rd_T31 l0 0).f2)], .agg #[.int .i64 ((rd_T31 l1 0).f0), .int .i64 ((rd_T31 l1 0).f1), .int .i64 ((rd_T31 l1 0).f2)]] (by rfl) rfl rfl (by (try simp only [map_toArray, map_cons, map_nil]); first | done | rfl | (simp only [length_drop, length_take]; rfl)) ?_
            with_reducible refine (spec_l3Ahead.calls ((rd_T31 l0 0).f0) ((rd_T31 l0 0).f1) ((rd_T31 l0 0).f2) ((rd_T31 l1 0).f0) ((rd_T31 l1 0).f1) ((rd_T31 l1 0).f2) true _ A11.out).mono ?_
            rintro e w17 ⟨rfl, hb⟩
            refine ⟨_, rfl, ?_⟩
            have n0_ := Aside0.mk (below_step (by repeat (first | (with_reducible first | exact HB.out | apply bwA | apply bwN | apply bw1) | exact HB.out)) hb)
            clear HB
            have HB := n0_
            clear n0_
            (try clear hb)
            (try clear hb2)
            (try clear hk)
            (try clear hi)
            refine hK.out _ _ ⟨((HB.out.cell (block_lt_of_cell? w _ hw176_0)).trans hw176_0), ((HB.out.cell (block_lt_of_cell? w _ hw176_1)).trans hw176_1), ((HB.out.cell (block_lt_of_cell? w _ hw176_2)).trans hw176_2), ((HB.out.cell (block_lt_of_cell? w _ hw177_0)).trans hw177_0), ((HB.out.cell (block_lt_of_cell? w _ hw177_1)).trans hw177_1), ((HB.out.cell (block_lt_of_cell? w _ hw177_2)).trans hw177_2)⟩ (fun hHeld => ?_)
            clear hK K
            refine norm_ (a' := ?_) ?_ ?_
            rotate_left
            · show Act.put _ (some 25) _ = _
              simp only [Act.put, stA, stZ, stS, i64_w, i32_w]
              rfl
            refine pure_ (i := 7) (N := some 26) (v := ?_) (a' := ?_) #[true, true, true, true, true, true, true, true] rfl rfl (any_of HT_.out (by kernel_rfl)) (fun _ _ _ h => h) (Or.inl ⟨by rfl, ?_⟩) ?_ ?_
            rotate_left
            · intro w'
              go_simp
              with_reducible rfl
            rotate_left
            · simp only [Act.put, stA, stZ, stS, i64_w, i32_w]
              rfl
            refine done_ (done_of HT_.out (by kernel_rfl)) ?_
            try go_wp2_with (first | ((with_reducible refine gate_callee (f := 55) rfl ?_); refine goesL_ (some 32) rfl rfl Try.func55 (by kernel_rfl) rfl #[.slice (some ad176) l0.length c0] rfl (by (try simp only [map_toArray, map_cons, map_nil]); first | done | rfl | (simp only [length_drop, length_take]; rfl)) ?_; (with_reducible refine (spec_l3Parts.calls (fun k_ => k_ < w.heap.size) _ _ l0 t179 t182 t185 _ ?side1 A13.out).mono ?_); (case side1 => exact Kd.V_mk HC0.out (Kd.F_below (Kd.C_F k31_heap HR0.out) (by repeat (first | (with_reducible first | exact HB.out | apply bwA | apply bwN | apply bw1) | exact HB.out)))); rintro e w18 ⟨v180, v183, rfl, ho0, ho1, hb⟩; refine ⟨_, rfl, ?_⟩; have n0_ := Aside0.mk (Kd.V_lower (Kd.V_mono (ok' := fun k_ => True) ho0 (fun k_ hk_ => trivial)) (below_size (by repeat (first | (with_reducible first | exact HB.out | apply bwA | apply bwN | apply bw1) | exact HB.out)))); have n1_ := Aside0.mk (Kd.V_lower (Kd.V_mono (ok' := fun k_ => True) ho1 (fun k_ hk_ => trivial)) (below_size (by repeat (first | (with_reducible first | exact HB.out | apply bwA | apply bwN | apply bw1) | exact HB.out)))); have n2_ := Aside0.mk (below_step (by repeat (first | (with_reducible first | exact HB.out | apply bwA | apply bwN | apply bw1) | exact HB.out)) hb); clear HB; have HO181 := n0_; have HO184 := n1_; have HB := n2_; clear n0_ n1_ n2_; (try clear hb); (try clear hb2); (try clear hk); (try clear hi); (try clear ho0); (try clear ho1)))
            have n0_ := Aside0.mk (Kd.V_drew HO181.out)
            have n1_ := Aside0.mk (Kd.V_drew HO184.out)
            have n2_ := Aside0.mk (bw1 HB.out)
            clear HO181
            clear HO184
            clear HB
            have HO181 := n0_
            have HO184 := n1_
            have HB := n2_
            clear n0_ n1_ n2_
            have p186 : 0 ≤ (0 : Int) := (by omega)
            have q186 : 0 < (l0.length : Int) := of_decide_eq_true (by first | (with_reducible assumption) | assumption)
            obtain ⟨ad186, e186, hx186_0, hx186_1, hx186_2⟩ := at_T31 HR0.out 0 p186 q186
            have hw186_2 := hx186_2
            (try rw [show ((0 : Int)).toNat = 0 from rfl] at hw186_2)
            (try rw [show 0 * 3 = 0 from rfl] at hw186_2)
            (try rw [Addr.add_zero'] at hw186_2)
            have hw186_1 := hx186_1
            (try rw [show ((0 : Int)).toNat = 0 from rfl] at hw186_1)
            (try rw [show 0 * 3 = 0 from rfl] at hw186_1)
            (try rw [Addr.add_zero'] at hw186_1)
            have hw186_0 := hx186_0
            (try rw [show ((0 : Int)).toNat = 0 from rfl] at hw186_0)
            (try rw [show 0 * 3 = 0 from rfl] at hw186_0)
            (try rw [Addr.add_zero'] at hw186_0)
            obtain rfl : ad176 = ad186 := (by injection e186)
            have qi186 : (0 < l0.length) = True := eq_true (by omega)
            (try rw [show ((0 : Int)).toNat = 0 from rfl] at hx186_0)
            (try rw [show 0 * 3 = 0 from rfl] at hx186_0)
            (try rw [Addr.add_zero'] at hx186_0)
            (try rw [show ((0 : Int)).toNat = 0 from rfl] at hx186_1)
            (try rw [show 0 * 3 = 0 from rfl] at hx186_1)
            (try rw [Addr.add_zero'] at hx186_1)
            (try rw [show ((0 : Int)).toNat = 0 from rfl] at hx186_2)
            (try rw [show 0 * 3 = 0 from rfl] at hx186_2)
            (try rw [Addr.add_zero'] at hx186_2)
            replace hx186_0 := (HB.out.cell (block_lt_of_cell? w _ hx186_0)).trans hx186_0
            replace hx186_1 := (HB.out.cell (block_lt_of_cell? w _ hx186_1)).trans hx186_1
            replace hx186_2 := (HB.out.cell (block_lt_of_cell? w _ hx186_2)).trans hx186_2
            replace p186 := eq_true p186
            replace q186 := eq_true q186
            obtain ⟨Ao20, co20, eo20⟩ := Kd.V_slice HO184.out
            (first | subst eo20 | (injection eo20 with f1_ f2_ f3_; have f4_ := f1_.symm; have f5_ := f3_.symm; clear f1_ f2_ f3_; subst f4_; subst f5_))
            refine start_ (n := 9) (S := fun w' => w'.cell? ad176 = some (.int .i64 ((rd_T31 l0 0).f0)) ∧ w'.cell? ⟨ad176.block, ad176.off + 1, none⟩ = some (.int .i64 ((rd_T31 l0 0).f1)) ∧ w'.cell? ⟨ad176.block, ad176.off + 2, none⟩ = some (.int .i64 ((rd_T31 l0 0).f2))) (ds := []) #[false, false, false, false, false, false, false, false, false] (by kernel_rfl) rfl rfl ⟨((HB.out.cell (block_lt_of_cell? w _ hw186_0)).trans hw186_0), ((HB.out.cell (block_lt_of_cell? w _ hw186_1)).trans hw186_1), ((HB.out.cell (block_lt_of_cell? w _ hw186_2)).trans hw186_2)⟩ (fun hHeld => ?_); refine with_tabW spec_l3Merge.tab10 spec_l3Merge.bits10 (fun HT_ HW_ => ?_)
            generalize w18.drew = w19 at HO181 HO184 HB hx186_0 hx186_1 hx186_2 hHeld ⊢
            refine pure_ (i := 0) (N := some 36) (v := ?_) (a' := ?_) #[true, false, false, false, false, false, false, false, false] rfl rfl (any_of HT_.out (by kernel_rfl)) (fun _ _ _ h => h) (Or.inl ⟨by rfl, ?_⟩) ?_ ?_
            rotate_left
            · intro w'
              go_simp
              with_reducible rfl
            rotate_left
            · simp only [Act.put, stA, stZ, stS, i64_w, i32_w]
              rfl
            refine pure_ (i := 1) (N := some 37) (v := ?_) (a' := ?_) #[true, true, false, false, false, false, false, false, false] rfl rfl (any_of HT_.out (by kernel_rfl)) (fun _ _ _ h => h) (Or.inl ⟨by rfl, ?_⟩) ?_ ?_
            rotate_left
            · intro w'
              go_simp
              with_reducible rfl
            rotate_left
            · simp only [Act.put, stA, stZ, stS, i64_w, i32_w]
              rfl
            refine pure_ (i := 3) (N := some 39) (v := ?_) (a' := ?_) #[true, true, false, true, false, false, false, false, false] rfl rfl (any_of HT_.out (by kernel_rfl)) (fun _ _ _ h => h) (Or.inl ⟨by rfl, ?_⟩) ?_ ?_
            rotate_left
            · intro w'
              go_simp
              with_reducible rfl
            rotate_left
            · simp only [Act.put, stA, stZ, stS, i64_w, i32_w]
              rfl
            refine pure_ (i := 4) (N := some 40) (v := ?_) (a' := ?_) #[true, true, false, true, true, false, false, false, false] rfl rfl (any_of HT_.out (by kernel_rfl)) (fun _ _ _ h => h) (Or.inl ⟨by rfl, ?_⟩) ?_ ?_
            rotate_left
            · intro w'
              go_simp
              with_reducible rfl
            rotate_left
            · simp only [Act.put, stA, stZ, stS, i64_w, i32_w]
              rfl
            refine pure_ (i := 5) (N := some 41) (v := ?_) (a' := ?_) #[true, true, false, true, true, true, false, false, false] rfl rfl (any_of HT_.out (by kernel_rfl)) (fun _ _ _ h => h) (Or.inl ⟨by rfl, ?_⟩) ?_ ?_
            rotate_left
            · intro w'
              go_simp
              with_reducible rfl
            rotate_left
            · simp only [Act.put, stA, stZ, stS, i64_w, i32_w]
              rfl
            refine take_ (i := 2) (N := some 38) (v := ?_) (a' := ?_) #[true, true, true, true, true, true, false, false, false] rfl rfl (take_ofW HT_.out HW_.out (by kernel_rfl)) (fun _ _ _ h => h) (Or.inl ⟨by rfl, ?_⟩) hHeld ?_ ?_
            rotate_left
            · rintro w' ⟨s0, s1, s2⟩
              go_simp
              with_reducible rfl
            rotate_left
            · simp only [Act.put, stA, stZ, stS, i64_w, i32_w]
              rfl
            refine one_ (i := 6) (N := some 42) #[true, true, true, true, true, true, true, false, false] rfl rfl (one_of HT_.out (by kernel_rfl)) (by decide) (fun K hK => ?_)
            refine goes_ Try.func56 (by kernel_rfl) rfl #[.slice Ao20 t182.length co20, .slice (some ad177) l1.length c1] (by rfl) rfl rfl (by (try simp only [map_toArray, map_cons, map_nil]); first | done | rfl | (simp only [length_drop, length_take]; rfl)) ?_
            with_reducible refine (ih k (by omega) _ _ t182 _ _ l1 t187 _ ?side1 ?side2 ?side3 ?side4 A14.out).mono ?_
            (case side1 => repeat (first | exact (Kd.V_reads' HO184.out).2.2 | (with_reducible refine C_alloc ?_ _) | (with_reducible refine C_drewN ?_ _) | (with_reducible refine C_drew ?_)))
            (case side2 => exact (Kd.V_reads' HO184.out).2.1)
            (case side3 => repeat (first | exact (C_below HR1.out HB.out) | (with_reducible refine C_alloc ?_ _) | (with_reducible refine C_drewN ?_ _) | (with_reducible refine C_drew ?_)))
            (case side4 => exact HC1.out)
            rintro e w21 ⟨v188, rfl, ho0, hb⟩
            refine ⟨_, rfl, ?_⟩
            have n0_ := Aside0.mk (Kd.V_elder' (by (with_reducible repeat (first | apply Kd.V_alloc | apply Kd.V_drewN | apply Kd.V_drew)); exact HO181.out) (Kd.R_base ho0) hb)
            have n1_ := Aside0.mk (Kd.V_elder' (by (with_reducible repeat (first | apply Kd.V_alloc | apply Kd.V_drewN | apply Kd.V_drew)); exact HO184.out) (Kd.R_base ho0) hb)
            have n2_ := Aside0.mk (Kd.R_lower ho0 (below_size (by repeat (first | (with_reducible first | exact HB.out | apply bwA | apply bwN | apply bw1) | exact HB.out))))
            have n3_ := Aside0.mk (below_step (by repeat (first | (with_reducible first | exact HB.out | apply bwA | apply bwN | apply bw1) | exact HB.out)) hb)
            clear HO181
            clear HO184
            clear HB
            have HO181 := n0_
            have HO184 := n1_
            have HO189 := n2_
            have HB := n3_
            clear n0_ n1_ n2_ n3_
            (try clear hb)
            (try clear hb2)
            (try clear hk)
            (try clear hi)
            (try clear ho0)
            obtain ⟨Ao22, co22, eo22⟩ := Kd.V_slice HO181.out
            (first | subst eo22 | (injection eo22 with f1_ f2_ f3_; have f4_ := f1_.symm; have f5_ := f3_.symm; clear f1_ f2_ f3_; subst f4_; subst f5_))
            obtain ⟨Ao23, co23, eo23⟩ := Kd.R_slice HO189.out
            (first | subst eo23 | (injection eo23 with f1_ f2_ f3_; have f4_ := f1_.symm; have f5_ := f3_.symm; clear f1_ f2_ f3_; subst f4_; subst f5_))
            refine hK.out _ _ ⟨((HB.out.cell (block_lt_of_cell? w _ hw186_0)).trans hw186_0), ((HB.out.cell (block_lt_of_cell? w _ hw186_1)).trans hw186_1), ((HB.out.cell (block_lt_of_cell? w _ hw186_2)).trans hw186_2)⟩ (fun hHeld => ?_)
            clear hK K
            refine norm_ (a' := ?_) ?_ ?_
            rotate_left
            · show Act.put _ (some 42) _ = _
              simp only [Act.put, stA, stZ, stS, i64_w, i32_w]
              rfl
            refine one_ (i := 7) (N := some 43) #[true, true, true, true, true, true, true, true, false] rfl rfl (one_of HT_.out (by kernel_rfl)) (by decide) (fun K hK => ?_)
            refine goes_ Try.func86 (by kernel_rfl) rfl #[.agg #[.int .i64 ((rd_T31 l0 0).f0), .int .i64 ((rd_T31 l0 0).f1), .int .i64 ((rd_T31 l0 0).f2)], .slice Ao22 t179.length co22, .slice Ao23 t187.length co23] (by rfl) rfl rfl (by (try simp only [map_toArray, map_cons, map_nil]); first | done | rfl | (simp only [length_drop, length_take]; rfl)) ?_
            with_reducible refine (spec_l3Join.calls k ((rd_T31 l0 0).f0) ((rd_T31 l0 0).f1) ((rd_T31 l0 0).f2) _ _ t179 _ _ t187 t190 _ ?side1 ?side2 ?side3 ?side4 A15.out).mono ?_
            (case side1 => repeat (first | exact (Kd.V_reads' HO181.out).2.2 | (with_reducible refine C_alloc ?_ _) | (with_reducible refine C_drewN ?_ _) | (with_reducible refine C_drew ?_)))
            (case side2 => exact (Kd.V_reads' HO181.out).2.1)
            (case side3 => repeat (first | exact (R_reads' HO189.out).2.2 | (with_reducible refine C_alloc ?_ _) | (with_reducible refine C_drewN ?_ _) | (with_reducible refine C_drew ?_)))
            (case side4 => exact (R_reads' HO189.out).2.1)
            rintro e w24 ⟨v191, rfl, ho0, hb⟩
            refine ⟨_, rfl, ?_⟩
            have n0_ := Aside0.mk (Kd.V_elder' (by (with_reducible repeat (first | apply Kd.V_alloc | apply Kd.V_drewN | apply Kd.V_drew)); exact HO181.out) (Kd.R_base ho0) hb)
            have n1_ := Aside0.mk (Kd.V_elder' (by (with_reducible repeat (first | apply Kd.V_alloc | apply Kd.V_drewN | apply Kd.V_drew)); exact HO184.out) (Kd.R_base ho0) hb)
            have n2_ := Aside0.mk (Kd.R_elder' (by (with_reducible repeat (first | apply R_alloc | apply R_drewN | apply R_drew)); exact HO189.out) (Kd.R_base ho0) hb)
            have n3_ := Aside0.mk (Kd.R_lower (Kd.R_new' ho0 (Kd.R_lt (by (with_reducible repeat (first | apply R_alloc | apply R_drewN | apply R_drew)); exact HO189.out))) (below_size (by repeat (first | (with_reducible first | exact HB.out | apply bwA | apply bwN | apply bw1) | exact HB.out))))
            have n4_ := Aside0.mk (below_step (by repeat (first | (with_reducible first | exact HB.out | apply bwA | apply bwN | apply bw1) | exact HB.out)) hb)
            clear HO181
            clear HO184
            clear HO189
            clear HB
            have HO181 := n0_
            have HO184 := n1_
            have HO189 := n2_
            have HO192 := n3_
            have HB := n4_
            clear n0_ n1_ n2_ n3_ n4_
            (try clear hb)
            (try clear hb2)
            (try clear hk)
            (try clear hi)
            (try clear ho0)
            refine hK.out _ _ ⟨((HB.out.cell (block_lt_of_cell? w _ hw186_0)).trans hw186_0), ((HB.out.cell (block_lt_of_cell? w _ hw186_1)).trans hw186_1), ((HB.out.cell (block_lt_of_cell? w _ hw186_2)).trans hw186_2)⟩ (fun hHeld => ?_)
            clear hK K
            refine norm_ (a' := ?_) ?_ ?_
            rotate_left
            · show Act.put _ (some 43) _ = _
              simp only [Act.put, stA, stZ, stS, i64_w, i32_w]
              rfl
            refine pure_ (i := 8) (N := some 4) (v := ?_) (a' := ?_) #[true, true, true, true, true, true, true, true, true] rfl rfl (any_of HT_.out (by kernel_rfl)) (fun _ _ _ h => h) (Or.inl ⟨by rfl, ?_⟩) ?_ ?_
            rotate_left
            · intro w'
              go_simp
              with_reducible rfl
            rotate_left
            · simp only [Act.put, stA, stZ, stS, i64_w, i32_w]
              rfl
            refine done_ (done_of HT_.out (by kernel_rfl)) ?_
            try go_wp2
            go_ret
            exact ⟨_, by first | rfl | (simp [errW_none, errW_some] <;> rfl) | (simp [*, errW_none, errW_some] <;> rfl), by (with_reducible repeat (first | apply R_alloc | apply R_drewN | apply R_drew)); exact Kd.R_mono HO192.out (fun _ hk => trivial), by repeat (first | (with_reducible first | exact HB.out | apply bwA | apply bwN | apply bw1) | exact HB.out)⟩
          · replace c12 := Bool.eq_false_iff.mpr c12
            subst c12
            have H1 : ((spec_l3Parts.f l1).bind fun bt193 => ((spec_l3Merge.f k bt193.2.1 l0).bind fun t201 => ((spec_l3Join.f k ((rd_T31 l1 0).f0) ((rd_T31 l1 0).f1) ((rd_T31 l1 0).f2) bt193.1 t201).bind fun t204 => (some t204)))) = some r := by rw [if_neg (show ¬ (false = true) by decide)] at H; exact H
            clear H
            have H := H1
            clear H1
            replace H := bind_eq_some_iff.mp H
            obtain ⟨⟨t193, t196, t199⟩, A250, H⟩ := H
            replace H : ((spec_l3Merge.f k t196 l0).bind fun t201 => ((spec_l3Join.f k ((rd_T31 l1 0).f0) ((rd_T31 l1 0).f1) ((rd_T31 l1 0).f2) t193 t201).bind fun t204 => (some t204))) = some r := H
            have A25 := Aside0.mk A250
            clear A250
            replace H := bind_eq_some_iff.mp H
            obtain ⟨t201, A260, H⟩ := H
            replace H : ((spec_l3Join.f k ((rd_T31 l1 0).f0) ((rd_T31 l1 0).f1) ((rd_T31 l1 0).f2) t193 t201).bind fun t204 => (some t204)) = some r := H
            have A26 := Aside0.mk A260
            clear A260
            replace H := bind_eq_some_iff.mp H
            obtain ⟨t204, A270, H⟩ := H
            replace H : (some t204) = some r := H
            have A27 := Aside0.mk A270
            clear A270
            obtain rfl := Option.some.inj H
            go_enter Try.func56, Try.ntmps56
            try go_wp2
            have n0_ := Aside0.mk (bw1 HB.out)
            clear HB
            have HB := n0_
            clear n0_
            have p176 : 0 ≤ (0 : Int) := (by omega)
            have q176 : 0 < (l0.length : Int) := of_decide_eq_true (by first | (with_reducible assumption) | assumption)
            obtain ⟨ad176, e176, hx176_0, hx176_1, hx176_2⟩ := at_T31 HR0.out 0 p176 q176
            have hw176_2 := hx176_2
            (try rw [show ((0 : Int)).toNat = 0 from rfl] at hw176_2)
            (try rw [show 0 * 3 = 0 from rfl] at hw176_2)
            (try rw [Addr.add_zero'] at hw176_2)
            have hw176_1 := hx176_1
            (try rw [show ((0 : Int)).toNat = 0 from rfl] at hw176_1)
            (try rw [show 0 * 3 = 0 from rfl] at hw176_1)
            (try rw [Addr.add_zero'] at hw176_1)
            have hw176_0 := hx176_0
            (try rw [show ((0 : Int)).toNat = 0 from rfl] at hw176_0)
            (try rw [show 0 * 3 = 0 from rfl] at hw176_0)
            (try rw [Addr.add_zero'] at hw176_0)
            cases e176
            have qi176 : (0 < l0.length) = True := eq_true (by omega)
            (try rw [show ((0 : Int)).toNat = 0 from rfl] at hx176_0)
            (try rw [show 0 * 3 = 0 from rfl] at hx176_0)
            (try rw [Addr.add_zero'] at hx176_0)
            (try rw [show ((0 : Int)).toNat = 0 from rfl] at hx176_1)
            (try rw [show 0 * 3 = 0 from rfl] at hx176_1)
            (try rw [Addr.add_zero'] at hx176_1)
            (try rw [show ((0 : Int)).toNat = 0 from rfl] at hx176_2)
            (try rw [show 0 * 3 = 0 from rfl] at hx176_2)
            (try rw [Addr.add_zero'] at hx176_2)
            replace hx176_0 := (HB.out.cell (block_lt_of_cell? w _ hx176_0)).trans hx176_0
            replace hx176_1 := (HB.out.cell (block_lt_of_cell? w _ hx176_1)).trans hx176_1
            replace hx176_2 := (HB.out.cell (block_lt_of_cell? w _ hx176_2)).trans hx176_2
            replace p176 := eq_true p176
            replace q176 := eq_true q176
            have p177 : 0 ≤ (0 : Int) := (by omega)
            have q177 : 0 < (l1.length : Int) := of_decide_eq_true (by first | (with_reducible assumption) | assumption)
            obtain ⟨ad177, e177, hx177_0, hx177_1, hx177_2⟩ := at_T31 HR1.out 0 p177 q177
            have hw177_2 := hx177_2
            (try rw [show ((0 : Int)).toNat = 0 from rfl] at hw177_2)
            (try rw [show 0 * 3 = 0 from rfl] at hw177_2)
            (try rw [Addr.add_zero'] at hw177_2)
            have hw177_1 := hx177_1
            (try rw [show ((0 : Int)).toNat = 0 from rfl] at hw177_1)
            (try rw [show 0 * 3 = 0 from rfl] at hw177_1)
            (try rw [Addr.add_zero'] at hw177_1)
            have hw177_0 := hx177_0
            (try rw [show ((0 : Int)).toNat = 0 from rfl] at hw177_0)
            (try rw [show 0 * 3 = 0 from rfl] at hw177_0)
            (try rw [Addr.add_zero'] at hw177_0)
            cases e177
            have qi177 : (0 < l1.length) = True := eq_true (by omega)
            (try rw [show ((0 : Int)).toNat = 0 from rfl] at hx177_0)
            (try rw [show 0 * 3 = 0 from rfl] at hx177_0)
            (try rw [Addr.add_zero'] at hx177_0)
            (try rw [show ((0 : Int)).toNat = 0 from rfl] at hx177_1)
            (try rw [show 0 * 3 = 0 from rfl] at hx177_1)
            (try rw [Addr.add_zero'] at hx177_1)
            (try rw [show ((0 : Int)).toNat = 0 from rfl] at hx177_2)
            (try rw [show 0 * 3 = 0 from rfl] at hx177_2)
            (try rw [Addr.add_zero'] at hx177_2)
            replace hx177_0 := (HB.out.cell (block_lt_of_cell? w _ hx177_0)).trans hx177_0
            replace hx177_1 := (HB.out.cell (block_lt_of_cell? w _ hx177_1)).trans hx177_1
            replace hx177_2 := (HB.out.cell (block_lt_of_cell? w _ hx177_2)).trans hx177_2
            replace p177 := eq_true p177
            replace q177 := eq_true q177
            refine start_ (n := 8) (S := fun w' => w'.cell? ad176 = some (.int .i64 ((rd_T31 l0 0).f0)) ∧ w'.cell? ⟨ad176.block, ad176.off + 1, none⟩ = some (.int .i64 ((rd_T31 l0 0).f1)) ∧ w'.cell? ⟨ad176.block, ad176.off + 2, none⟩ = some (.int .i64 ((rd_T31 l0 0).f2)) ∧ w'.cell? ad177 = some (.int .i64 ((rd_T31 l1 0).f0)) ∧ w'.cell? ⟨ad177.block, ad177.off + 1, none⟩ = some (.int .i64 ((rd_T31 l1 0).f1)) ∧ w'.cell? ⟨ad177.block, ad177.off + 2, none⟩ = some (.int .i64 ((rd_T31 l1 0).f2))) (ds := []) #[false, false, false, false, false, false, false, false] (by kernel_rfl) rfl rfl ⟨((HB.out.cell (block_lt_of_cell? w _ hw176_0)).trans hw176_0), ((HB.out.cell (block_lt_of_cell? w _ hw176_1)).trans hw176_1), ((HB.out.cell (block_lt_of_cell? w _ hw176_2)).trans hw176_2), ((HB.out.cell (block_lt_of_cell? w _ hw177_0)).trans hw177_0), ((HB.out.cell (block_lt_of_cell? w _ hw177_1)).trans hw177_1), ((HB.out.cell (block_lt_of_cell? w _ hw177_2)).trans hw177_2)⟩ (fun hHeld => ?_); refine with_tabW spec_l3Merge.tab5 spec_l3Merge.bits5 (fun HT_ HW_ => ?_)
            generalize w.drew = w28 at HB hx176_0 hx176_1 hx176_2 hx177_0 hx177_1 hx177_2 hHeld ⊢
            refine pure_ (i := 0) (N := some 19) (v := ?_) (a' := ?_) #[true, false, false, false, false, false, false, false] rfl rfl (any_of HT_.out (by kernel_rfl)) (fun _ _ _ h => h) (Or.inl ⟨by rfl, ?_⟩) ?_ ?_
            rotate_left
            · intro w'
              go_simp
              with_reducible rfl
            rotate_left
            · simp only [Act.put, stA, stZ, stS, i64_w, i32_w]
              rfl
            refine pure_ (i := 1) (N := some 20) (v := ?_) (a' := ?_) #[true, true, false, false, false, false, false, false] rfl rfl (any_of HT_.out (by kernel_rfl)) (fun _ _ _ h => h) (Or.inl ⟨by rfl, ?_⟩) ?_ ?_
            rotate_left
            · intro w'
              go_simp
              with_reducible rfl
            rotate_left
            · simp only [Act.put, stA, stZ, stS, i64_w, i32_w]
              rfl
            refine pure_ (i := 3) (N := some 22) (v := ?_) (a' := ?_) #[true, true, false, true, false, false, false, false] rfl rfl (any_of HT_.out (by kernel_rfl)) (fun _ _ _ h => h) (Or.inl ⟨by rfl, ?_⟩) ?_ ?_
            rotate_left
            · intro w'
              go_simp
              with_reducible rfl
            rotate_left
            · simp only [Act.put, stA, stZ, stS, i64_w, i32_w]
              rfl
            refine pure_ (i := 4) (N := some 23) (v := ?_) (a' := ?_) #[true, true, false, true, true, false, false, false] rfl rfl (any_of HT_.out (by kernel_rfl)) (fun _ _ _ h => h) (Or.inl ⟨by rfl, ?_⟩) ?_ ?_
            rotate_left
            · intro w'
              go_simp
              with_reducible rfl
            rotate_left
            · simp only [Act.put, stA, stZ, stS, i64_w, i32_w]
              rfl
            refine take_ (i := 2) (N := some 21) (v := ?_) (a' := ?_) #[true, true, true, true, true, false, false, false] rfl rfl (take_ofW HT_.out HW_.out (by kernel_rfl)) (fun _ _ _ h => h) (Or.inl ⟨by rfl, ?_⟩) hHeld ?_ ?_
            rotate_left
            · rintro w' ⟨s0, s1, s2, s3, s4, s5⟩
              go_simp
              with_reducible rfl
            rotate_left
            · simp only [Act.put, stA, stZ, stS, i64_w, i32_w]
              rfl
            refine take_ (i := 5) (N := some 24) (v := ?_) (a' := ?_) #[true, true, true, true, true, true, false, false] rfl rfl (take_ofW HT_.out HW_.out (by kernel_rfl)) (fun _ _ _ h => h) (Or.inl ⟨by rfl, ?_⟩) hHeld ?_ ?_
            rotate_left
            · rintro w' ⟨s0, s1, s2, s3, s4, s5⟩
              go_simp
              with_reducible rfl
            rotate_left
            · simp only [Act.put, stA, stZ, stS, i64_w, i32_w]
              rfl
            refine one_ (i := 6) (N := some 25) #[true, true, true, true, true, true, true, false] rfl rfl (one_of HT_.out (by kernel_rfl)) (by decide) (fun K hK => ?_)
            refine goes_ Try.func75 (by kernel_rfl) rfl #[.agg #[.int .i64 ((rd_T31 l0 0).f0), .int .i64 ((rd_T31 l0 0).f1), .int .i64 ((rd_T31 l0 0).f2)], .agg #[.int .i64 ((rd_T31 l1 0).f0), .int .i64 ((rd_T31 l1 0).f1), .int .i64 ((rd_T31 l1 0).f2)]] (by rfl) rfl rfl (by (try simp only [map_toArray, map_cons, map_nil]); first | done | rfl | (simp only [length_drop, length_take]; rfl)) ?_
            with_reducible refine (spec_l3Ahead.calls ((rd_T31 l0 0).f0) ((rd_T31 l0 0).f1) ((rd_T31 l0 0).f2) ((rd_T31 l1 0).f0) ((rd_T31 l1 0).f1) ((rd_T31 l1 0).f2) false _ A11.out).mono ?_
            rintro e w29 ⟨rfl, hb⟩
            refine ⟨_, rfl, ?_⟩
            have n0_ := Aside0.mk (below_step (by repeat (first | (with_reducible first | exact HB.out | apply bwA | apply bwN | apply bw1) | exact HB.out)) hb)
            clear HB
            have HB := n0_
            clear n0_
            (try clear hb)
            (try clear hb2)
            (try clear hk)
            (try clear hi)
            refine hK.out _ _ ⟨((HB.out.cell (block_lt_of_cell? w _ hw176_0)).trans hw176_0), ((HB.out.cell (block_lt_of_cell? w _ hw176_1)).trans hw176_1), ((HB.out.cell (block_lt_of_cell? w _ hw176_2)).trans hw176_2), ((HB.out.cell (block_lt_of_cell? w _ hw177_0)).trans hw177_0), ((HB.out.cell (block_lt_of_cell? w _ hw177_1)).trans hw177_1), ((HB.out.cell (block_lt_of_cell? w _ hw177_2)).trans hw177_2)⟩ (fun hHeld => ?_)
            clear hK K
            refine norm_ (a' := ?_) ?_ ?_
            rotate_left
            · show Act.put _ (some 25) _ = _
              simp only [Act.put, stA, stZ, stS, i64_w, i32_w]
              rfl
            refine pure_ (i := 7) (N := some 26) (v := ?_) (a' := ?_) #[true, true, true, true, true, true, true, true] rfl rfl (any_of HT_.out (by kernel_rfl)) (fun _ _ _ h => h) (Or.inl ⟨by rfl, ?_⟩) ?_ ?_
            rotate_left
            · intro w'
              go_simp
              with_reducible rfl
            rotate_left
            · simp only [Act.put, stA, stZ, stS, i64_w, i32_w]
              rfl
            refine done_ (done_of HT_.out (by kernel_rfl)) ?_
            try go_wp2_with (first | ((with_reducible refine gate_callee (f := 55) rfl ?_); refine goesL_ (some 32) rfl rfl Try.func55 (by kernel_rfl) rfl #[.slice (some ad177) l1.length c1] rfl (by (try simp only [map_toArray, map_cons, map_nil]); first | done | rfl | (simp only [length_drop, length_take]; rfl)) ?_; (with_reducible refine (spec_l3Parts.calls (fun k_ => k_ < w.heap.size) _ _ l1 t193 t196 t199 _ ?side1 A25.out).mono ?_); (case side1 => exact Kd.V_mk HC1.out (Kd.F_below (Kd.C_F k31_heap HR1.out) (by repeat (first | (with_reducible first | exact HB.out | apply bwA | apply bwN | apply bw1) | exact HB.out)))); rintro e w30 ⟨v194, v197, rfl, ho0, ho1, hb⟩; refine ⟨_, rfl, ?_⟩; have n0_ := Aside0.mk (Kd.V_lower (Kd.V_mono (ok' := fun k_ => True) ho0 (fun k_ hk_ => trivial)) (below_size (by repeat (first | (with_reducible first | exact HB.out | apply bwA | apply bwN | apply bw1) | exact HB.out)))); have n1_ := Aside0.mk (Kd.V_lower (Kd.V_mono (ok' := fun k_ => True) ho1 (fun k_ hk_ => trivial)) (below_size (by repeat (first | (with_reducible first | exact HB.out | apply bwA | apply bwN | apply bw1) | exact HB.out)))); have n2_ := Aside0.mk (below_step (by repeat (first | (with_reducible first | exact HB.out | apply bwA | apply bwN | apply bw1) | exact HB.out)) hb); clear HB; have HO195 := n0_; have HO198 := n1_; have HB := n2_; clear n0_ n1_ n2_; (try clear hb); (try clear hb2); (try clear hk); (try clear hi); (try clear ho0); (try clear ho1)))
            have n0_ := Aside0.mk (Kd.V_drew HO195.out)
            have n1_ := Aside0.mk (Kd.V_drew HO198.out)
            have n2_ := Aside0.mk (bw1 HB.out)
            clear HO195
            clear HO198
            clear HB
            have HO195 := n0_
            have HO198 := n1_
            have HB := n2_
            clear n0_ n1_ n2_
            have p200 : 0 ≤ (0 : Int) := (by omega)
            have q200 : 0 < (l1.length : Int) := of_decide_eq_true (by first | (with_reducible assumption) | assumption)
            obtain ⟨ad200, e200, hx200_0, hx200_1, hx200_2⟩ := at_T31 HR1.out 0 p200 q200
            have hw200_2 := hx200_2
            (try rw [show ((0 : Int)).toNat = 0 from rfl] at hw200_2)
            (try rw [show 0 * 3 = 0 from rfl] at hw200_2)
            (try rw [Addr.add_zero'] at hw200_2)
            have hw200_1 := hx200_1
            (try rw [show ((0 : Int)).toNat = 0 from rfl] at hw200_1)
            (try rw [show 0 * 3 = 0 from rfl] at hw200_1)
            (try rw [Addr.add_zero'] at hw200_1)
            have hw200_0 := hx200_0
            (try rw [show ((0 : Int)).toNat = 0 from rfl] at hw200_0)
            (try rw [show 0 * 3 = 0 from rfl] at hw200_0)
            (try rw [Addr.add_zero'] at hw200_0)
            obtain rfl : ad177 = ad200 := (by injection e200)
            have qi200 : (0 < l1.length) = True := eq_true (by omega)
            (try rw [show ((0 : Int)).toNat = 0 from rfl] at hx200_0)
            (try rw [show 0 * 3 = 0 from rfl] at hx200_0)
            (try rw [Addr.add_zero'] at hx200_0)
            (try rw [show ((0 : Int)).toNat = 0 from rfl] at hx200_1)
            (try rw [show 0 * 3 = 0 from rfl] at hx200_1)
            (try rw [Addr.add_zero'] at hx200_1)
            (try rw [show ((0 : Int)).toNat = 0 from rfl] at hx200_2)
            (try rw [show 0 * 3 = 0 from rfl] at hx200_2)
            (try rw [Addr.add_zero'] at hx200_2)
            replace hx200_0 := (HB.out.cell (block_lt_of_cell? w _ hx200_0)).trans hx200_0
            replace hx200_1 := (HB.out.cell (block_lt_of_cell? w _ hx200_1)).trans hx200_1
            replace hx200_2 := (HB.out.cell (block_lt_of_cell? w _ hx200_2)).trans hx200_2
            replace p200 := eq_true p200
            replace q200 := eq_true q200
            obtain ⟨Ao32, co32, eo32⟩ := Kd.V_slice HO198.out
            (first | subst eo32 | (injection eo32 with f1_ f2_ f3_; have f4_ := f1_.symm; have f5_ := f3_.symm; clear f1_ f2_ f3_; subst f4_; subst f5_))
            refine start_ (n := 9) (S := fun w' => w'.cell? ad177 = some (.int .i64 ((rd_T31 l1 0).f0)) ∧ w'.cell? ⟨ad177.block, ad177.off + 1, none⟩ = some (.int .i64 ((rd_T31 l1 0).f1)) ∧ w'.cell? ⟨ad177.block, ad177.off + 2, none⟩ = some (.int .i64 ((rd_T31 l1 0).f2))) (ds := []) #[false, false, false, false, false, false, false, false, false] (by kernel_rfl) rfl rfl ⟨((HB.out.cell (block_lt_of_cell? w _ hw200_0)).trans hw200_0), ((HB.out.cell (block_lt_of_cell? w _ hw200_1)).trans hw200_1), ((HB.out.cell (block_lt_of_cell? w _ hw200_2)).trans hw200_2)⟩ (fun hHeld => ?_); refine with_tabW spec_l3Merge.tab10 spec_l3Merge.bits10 (fun HT_ HW_ => ?_)
            generalize w30.drew = w31 at HO195 HO198 HB hx200_0 hx200_1 hx200_2 hHeld ⊢
            refine pure_ (i := 0) (N := some 36) (v := ?_) (a' := ?_) #[true, false, false, false, false, false, false, false, false] rfl rfl (any_of HT_.out (by kernel_rfl)) (fun _ _ _ h => h) (Or.inl ⟨by rfl, ?_⟩) ?_ ?_
            rotate_left
            · intro w'
              go_simp
              with_reducible rfl
            rotate_left
            · simp only [Act.put, stA, stZ, stS, i64_w, i32_w]
              rfl
            refine pure_ (i := 1) (N := some 37) (v := ?_) (a' := ?_) #[true, true, false, false, false, false, false, false, false] rfl rfl (any_of HT_.out (by kernel_rfl)) (fun _ _ _ h => h) (Or.inl ⟨by rfl, ?_⟩) ?_ ?_
            rotate_left
            · intro w'
              go_simp
              with_reducible rfl
            rotate_left
            · simp only [Act.put, stA, stZ, stS, i64_w, i32_w]
              rfl
            refine pure_ (i := 3) (N := some 39) (v := ?_) (a' := ?_) #[true, true, false, true, false, false, false, false, false] rfl rfl (any_of HT_.out (by kernel_rfl)) (fun _ _ _ h => h) (Or.inl ⟨by rfl, ?_⟩) ?_ ?_
            rotate_left
            · intro w'
              go_simp
              with_reducible rfl
            rotate_left
            · simp only [Act.put, stA, stZ, stS, i64_w, i32_w]
              rfl
            refine pure_ (i := 4) (N := some 40) (v := ?_) (a' := ?_) #[true, true, false, true, true, false, false, false, false] rfl rfl (any_of HT_.out (by kernel_rfl)) (fun _ _ _ h => h) (Or.inl ⟨by rfl, ?_⟩) ?_ ?_
            rotate_left
            · intro w'
              go_simp
              with_reducible rfl
            rotate_left
            · simp only [Act.put, stA, stZ, stS, i64_w, i32_w]
              rfl
            refine pure_ (i := 5) (N := some 41) (v := ?_) (a' := ?_) #[true, true, false, true, true, true, false, false, false] rfl rfl (any_of HT_.out (by kernel_rfl)) (fun _ _ _ h => h) (Or.inl ⟨by rfl, ?_⟩) ?_ ?_
            rotate_left
            · intro w'
              go_simp
              with_reducible rfl
            rotate_left
            · simp only [Act.put, stA, stZ, stS, i64_w, i32_w]
              rfl
            refine take_ (i := 2) (N := some 38) (v := ?_) (a' := ?_) #[true, true, true, true, true, true, false, false, false] rfl rfl (take_ofW HT_.out HW_.out (by kernel_rfl)) (fun _ _ _ h => h) (Or.inl ⟨by rfl, ?_⟩) hHeld ?_ ?_
            rotate_left
            · rintro w' ⟨s0, s1, s2⟩
              go_simp
              with_reducible rfl
            rotate_left
            · simp only [Act.put, stA, stZ, stS, i64_w, i32_w]
              rfl
            refine one_ (i := 6) (N := some 42) #[true, true, true, true, true, true, true, false, false] rfl rfl (one_of HT_.out (by kernel_rfl)) (by decide) (fun K hK => ?_)
            refine goes_ Try.func56 (by kernel_rfl) rfl #[.slice Ao32 t196.length co32, .slice (some ad176) l0.length c0] (by rfl) rfl rfl (by (try simp only [map_toArray, map_cons, map_nil]); first | done | rfl | (simp only [length_drop, length_take]; rfl)) ?_
            with_reducible refine (ih k (by omega) _ _ t196 _ _ l0 t201 _ ?side1 ?side2 ?side3 ?side4 A26.out).mono ?_
            (case side1 => repeat (first | exact (Kd.V_reads' HO198.out).2.2 | (with_reducible refine C_alloc ?_ _) | (with_reducible refine C_drewN ?_ _) | (with_reducible refine C_drew ?_)))
            (case side2 => exact (Kd.V_reads' HO198.out).2.1)
            (case side3 => repeat (first | exact (C_below HR0.out HB.out) | (with_reducible refine C_alloc ?_ _) | (with_reducible refine C_drewN ?_ _) | (with_reducible refine C_drew ?_)))
            (case side4 => exact HC0.out)
            rintro e w33 ⟨v202, rfl, ho0, hb⟩
            refine ⟨_, rfl, ?_⟩
            have n0_ := Aside0.mk (Kd.V_elder' (by (with_reducible repeat (first | apply Kd.V_alloc | apply Kd.V_drewN | apply Kd.V_drew)); exact HO195.out) (Kd.R_base ho0) hb)
            have n1_ := Aside0.mk (Kd.V_elder' (by (with_reducible repeat (first | apply Kd.V_alloc | apply Kd.V_drewN | apply Kd.V_drew)); exact HO198.out) (Kd.R_base ho0) hb)
            have n2_ := Aside0.mk (Kd.R_lower ho0 (below_size (by repeat (first | (with_reducible first | exact HB.out | apply bwA | apply bwN | apply bw1) | exact HB.out))))
            have n3_ := Aside0.mk (below_step (by repeat (first | (with_reducible first | exact HB.out | apply bwA | apply bwN | apply bw1) | exact HB.out)) hb)
            clear HO195
            clear HO198
            clear HB
            have HO195 := n0_
            have HO198 := n1_
            have HO203 := n2_
            have HB := n3_
            clear n0_ n1_ n2_ n3_
            (try clear hb)
            (try clear hb2)
            (try clear hk)
            (try clear hi)
            (try clear ho0)
            obtain ⟨Ao34, co34, eo34⟩ := Kd.V_slice HO195.out
            (first | subst eo34 | (injection eo34 with f1_ f2_ f3_; have f4_ := f1_.symm; have f5_ := f3_.symm; clear f1_ f2_ f3_; subst f4_; subst f5_))
            obtain ⟨Ao35, co35, eo35⟩ := Kd.R_slice HO203.out
            (first | subst eo35 | (injection eo35 with f1_ f2_ f3_; have f4_ := f1_.symm; have f5_ := f3_.symm; clear f1_ f2_ f3_; subst f4_; subst f5_))
            refine hK.out _ _ ⟨((HB.out.cell (block_lt_of_cell? w _ hw200_0)).trans hw200_0), ((HB.out.cell (block_lt_of_cell? w _ hw200_1)).trans hw200_1), ((HB.out.cell (block_lt_of_cell? w _ hw200_2)).trans hw200_2)⟩ (fun hHeld => ?_)
            clear hK K
            refine norm_ (a' := ?_) ?_ ?_
            rotate_left
            · show Act.put _ (some 42) _ = _
              simp only [Act.put, stA, stZ, stS, i64_w, i32_w]
              rfl
            refine one_ (i := 7) (N := some 43) #[true, true, true, true, true, true, true, true, false] rfl rfl (one_of HT_.out (by kernel_rfl)) (by decide) (fun K hK => ?_)
            refine goes_ Try.func86 (by kernel_rfl) rfl #[.agg #[.int .i64 ((rd_T31 l1 0).f0), .int .i64 ((rd_T31 l1 0).f1), .int .i64 ((rd_T31 l1 0).f2)], .slice Ao34 t193.length co34, .slice Ao35 t201.length co35] (by rfl) rfl rfl (by (try simp only [map_toArray, map_cons, map_nil]); first | done | rfl | (simp only [length_drop, length_take]; rfl)) ?_
            with_reducible refine (spec_l3Join.calls k ((rd_T31 l1 0).f0) ((rd_T31 l1 0).f1) ((rd_T31 l1 0).f2) _ _ t193 _ _ t201 t204 _ ?side1 ?side2 ?side3 ?side4 A27.out).mono ?_
            (case side1 => repeat (first | exact (Kd.V_reads' HO195.out).2.2 | (with_reducible refine C_alloc ?_ _) | (with_reducible refine C_drewN ?_ _) | (with_reducible refine C_drew ?_)))
            (case side2 => exact (Kd.V_reads' HO195.out).2.1)
            (case side3 => repeat (first | exact (R_reads' HO203.out).2.2 | (with_reducible refine C_alloc ?_ _) | (with_reducible refine C_drewN ?_ _) | (with_reducible refine C_drew ?_)))
            (case side4 => exact (R_reads' HO203.out).2.1)
            rintro e w36 ⟨v205, rfl, ho0, hb⟩
            refine ⟨_, rfl, ?_⟩
            have n0_ := Aside0.mk (Kd.V_elder' (by (with_reducible repeat (first | apply Kd.V_alloc | apply Kd.V_drewN | apply Kd.V_drew)); exact HO195.out) (Kd.R_base ho0) hb)
            have n1_ := Aside0.mk (Kd.V_elder' (by (with_reducible repeat (first | apply Kd.V_alloc | apply Kd.V_drewN | apply Kd.V_drew)); exact HO198.out) (Kd.R_base ho0) hb)
            have n2_ := Aside0.mk (Kd.R_elder' (by (with_reducible repeat (first | apply R_alloc | apply R_drewN | apply R_drew)); exact HO203.out) (Kd.R_base ho0) hb)
            have n3_ := Aside0.mk (Kd.R_lower (Kd.R_new' ho0 (Kd.R_lt (by (with_reducible repeat (first | apply R_alloc | apply R_drewN | apply R_drew)); exact HO203.out))) (below_size (by repeat (first | (with_reducible first | exact HB.out | apply bwA | apply bwN | apply bw1) | exact HB.out))))
            have n4_ := Aside0.mk (below_step (by repeat (first | (with_reducible first | exact HB.out | apply bwA | apply bwN | apply bw1) | exact HB.out)) hb)
            clear HO195
            clear HO198
            clear HO203
            clear HB
            have HO195 := n0_
            have HO198 := n1_
            have HO203 := n2_
            have HO206 := n3_
            have HB := n4_
            clear n0_ n1_ n2_ n3_ n4_
            (try clear hb)
            (try clear hb2)
            (try clear hk)
            (try clear hi)
            (try clear ho0)
            refine hK.out _ _ ⟨((HB.out.cell (block_lt_of_cell? w _ hw200_0)).trans hw200_0), ((HB.out.cell (block_lt_of_cell? w _ hw200_1)).trans hw200_1), ((HB.out.cell (block_lt_of_cell? w _ hw200_2)).trans hw200_2)⟩ (fun hHeld => ?_)
            clear hK K
            refine norm_ (a' := ?_) ?_ ?_
            rotate_left
            · show Act.put _ (some 43) _ = _
              simp only [Act.put, stA, stZ, stS, i64_w, i32_w]
              rfl
            refine pure_ (i := 8) (N := some 4) (v := ?_) (a' := ?_) #[true, true, true, true, true, true, true, true, true] rfl rfl (any_of HT_.out (by kernel_rfl)) (fun _ _ _ h => h) (Or.inl ⟨by rfl, ?_⟩) ?_ ?_
            rotate_left
            · intro w'
              go_simp
              with_reducible rfl
            rotate_left
            · simp only [Act.put, stA, stZ, stS, i64_w, i32_w]
              rfl
            refine done_ (done_of HT_.out (by kernel_rfl)) ?_
            try go_wp2
            go_ret
            exact ⟨_, by first | rfl | (simp [errW_none, errW_some] <;> rfl) | (simp [*, errW_none, errW_some] <;> rfl), by (with_reducible repeat (first | apply R_alloc | apply R_drewN | apply R_drew)); exact Kd.R_mono HO206.out (fun _ hk => trivial), by repeat (first | (with_reducible first | exact HB.out | apply bwA | apply bwN | apply bw1) | exact HB.out)⟩
        · rw [if_neg c10] at H
          exact absurd H (by simp)
      · rw [if_neg c9] at H
        exact absurd H (by simp)
end Go.Proofs.Ytljfflhbabkbgaa.PFnWithout
