/- Texts of the claim of the law FnLetGo, made smaller by a program of this session: what the claim does not use is left out. No condition. -/
import Derived.Test.YtcndchcepajmjaaZLgPFnLetGox0
import Derived.Test.YtcndchcepajmjaaZLgPFnLetGox2
import Derived.Test.YtcndchcepajmjaaZLgPFnLetGox3
namespace Go.Proofs.Ytcndchcepajmjaa.PFnLetGo
open Go.RowKit Go.Proofs.YtcndchcepajmjaaW.PrintWords Go.Proofs.YtcndchcepajmjaaW.PrintLast Go.Proofs.YtcndchcepajmjaaW.PrintMore
open List (map_toArray map_cons map_nil length_take)
open Option (bind_eq_some_iff)
open Go.World (block_lt_of_cell?)
open Kd (C_below)
attribute [local go_sem] max2_int min2_int max_two min_two max_three min_three max_four min_four   -- for this text's walks alone
set_option linter.unusedVariables false
set_option linter.unusedSimpArgs false
def spec_EventsOk.l0 : Nat → List (S30) → List (S58) → Int → Option (Bool)
 | 0, _, _, _ => none
 | k + 1, x0, x1, x5 => if x5 < (x1.length : Int) then (if 0 ≤ x5 then ((spec_l6Event.f x0 ((rd_T58 x1 x5).f0) ((rd_T58 x1 x5).f1) ((rd_T58 x1 x5).f2) ((rd_T58 x1 x5).f3)).bind fun t139 => (if t139 = true then (if x5 > 0 then (if 0 ≤ (wrap64 (x5 - 1)) then (if (wrap64 (x5 - 1)) < (x1.length : Int) then (if ((rd_T58 x1 x5).f3) < ((rd_T58 x1 (wrap64 (x5 - 1))).f3) then (some false) else (if x5 ≤ (x1.length : Int) then ((spec_l6First.f k x0 (x1.take (x5 : Int).toNat) ((rd_T58 x1 x5).f0)).bind fun t147 => (if t147 ≥ 0 then (some false) else (spec_EventsOk.l0 k x0 x1 (wrap64 (x5 + 1))))) else (none))) else (none)) else (none)) else (if x5 ≤ (x1.length : Int) then ((spec_l6First.f k x0 (x1.take (x5 : Int).toNat) ((rd_T58 x1 x5).f0)).bind fun t153 => (if t153 ≥ 0 then (some false) else (spec_EventsOk.l0 k x0 x1 (wrap64 (x5 + 1))))) else (none))) else (some false))) else (none)) else (some true)
def spec_EventsOk.f (k : Nat) (l0 : List (S30)) (l1 : List (S58)) : Option (Bool) := (spec_TreeOk.f k l0).bind fun t137 => (if t137 = true then (spec_EventsOk.l0 k l0 l1 0) else (some false))
def spec_EventsOk.T6 : Bool × List (List Nat × List Nat) := (true, [([], []), ([], []), ([], []), ([1, 2], [1, 2]), ([3], [3]), ([0, 4], [0, 4]), ([5], [5]), ([6, 5], [6]), ([7], [7]), ([8, 7], [7, 8]), ([9, 7, 7], [7, 9]), ([10], [10]), ([10], [10]), ([11, 12, 10], [10, 11, 12]), ([13, 10], [10, 13]), ([14, 10], [10, 14]), ([10], [10]), ([10], [10]), ([17, 10], [10, 17]), ([16, 18, 10], [10, 16, 18]), ([19, 10], [10, 19]), ([20, 10], [10, 20]), ([15, 21, 10], [10, 15, 21]), ([10, 22, 7], [7, 10, 22]), ([7, 23], [7, 23]), ([24, 10], [24]), ([25], [25]), ([25], [25]), ([25], [25]), ([27, 28, 25], [25, 27, 28]), ([25], [25]), ([25], [25]), ([30, 31, 25], [25, 30, 31]), ([32, 25], [25, 32]), ([33, 25], [25, 33]), ([26, 29, 34, 25, 25], [25, 26, 29, 34]), ([35, 25], [25, 35]), ([25, 36], [25, 36])])
def spec_EventsOk.B6 : List Nat := [0, 0, 0, 6, 14, 31, 63, 127, 255, 511, 1023, 2047, 2047, 8191, 16383, 32767, 2047, 2047, 133119, 460799, 985087, 2033663, 4194303, 8388607, 16777215, 33554431, 67108863, 67108863, 67108863, 469762047, 67108863, 67108863, 3288334335, 7583301631, 16173236223, 34359738367, 68719476735, 137438953471]
theorem spec_EventsOk.tab6 : rtab .any (opsOf Try.f40 6) = spec_EventsOk.T6 := by kernel_rfl
theorem spec_EventsOk.bits6 : waitsOk spec_EventsOk.T6.2 spec_EventsOk.B6 = true := by kernel_rfl
set_option maxHeartbeats 8000000 in
set_option maxRecDepth 100000 in
theorem spec_EventsOk.calls (k : Nat) (A0 : Option Addr) (c0 : Nat) (l0 : List (S30)) (A1 : Option Addr) (c1 : Nat) (l1 : List (S58)) (r : Bool) (w : World) (hr0 : Kd.C k30 w A0 l0.length l0) (hc0 : l0.length ≤ c0) (hr1 : Kd.C k58 w A1 l1.length l1) (hc1 : l1.length ≤ c1) (h : spec_EventsOk.f k l0 l1 = some r) :
  Calls Try.prog 40 #[.slice A0 l0.length c0, .slice A1 l1.length c1] w fun e w' => e = .returned (.bool r) ∧ Below w.heap.size w w' := by
 have hu58 := Try.underlying58
 have HR0 := Aside0.mk hr0
 have HC0 := Aside0.mk hc0
 clear hr0 hc0
 have HR1 := Aside0.mk hr1
 have HC1 := Aside0.mk hc1
 clear hr1 hc1
 have HB := Aside0.mk (Below.refl w.heap.size w)
 have H : ((spec_TreeOk.f k l0).bind fun t137 => (if t137 = true then (spec_EventsOk.l0 k l0 l1 0) else (some false))) = some r := h
 clear h
 replace H := bind_eq_some_iff.mp H
 obtain ⟨t137, A30, H⟩ := H
 replace H : (if t137 = true then (spec_EventsOk.l0 k l0 l1 0) else (some false)) = some r := H
 have A3 := Aside0.mk A30
 clear A30
 by_cases c4 : t137 = true
 ·subst c4
  have H1 : (spec_EventsOk.l0 k l0 l1 0) = some r := by rw [if_pos rfl] at H; exact H
  clear H
  have H := H1
  clear H1
  have H' := Aside0.mk H
  clear H
  go_enter Try.func40, Try.ntmps40
  go_wp2_with ((with_reducible refine gate_callee (f := 32) rfl ?_); refine goesL_ (some 7) rfl rfl Try.func32 (by kernel_rfl) rfl #[.slice A0 l0.length c0] rfl (by (try simp only [map_toArray, map_cons, map_nil]); rfl) ?_; (with_reducible refine (spec_TreeOk.calls k _ _ l0 true _ ?side1 ?side2 A3.out).mono ?_); (case side1 => repeat (exact HR0.out)); (case side2 => exact HC0.out); rintro e w5 ⟨rfl, hb⟩; refine ⟨_, rfl, ?_⟩; have n0_ := Aside0.mk (below_step (by repeat ((with_reducible exact HB.out))) hb); clear HB; have HB := n0_; clear n0_; (try clear hb); skip)
  go_loopg [5] k (fun kq v5 w' => ∃ (x5_1 : Int), v5 = .int .i64 x5_1 ∧ Aside0 (spec_EventsOk.l0 kq l0 l1 x5_1 = some r) ∧ Aside0 (kq ≤ k) ∧ Aside0 (Below w.heap.size w w'))
  case atStart => exact ⟨(0), (by rfl), H', ⟨Nat.le_refl _⟩, ⟨by repeat ((with_reducible exact HB.out))⟩⟩
  case round =>
   clear H'
   try clear c1
   try clear p2
   try clear c3
   try clear c4
   obtain ⟨x5_1, rfl, HA, HK1, HB⟩ := hrel
   cases gk with
   | zero => exact absurd HA.out (by simp [spec_EventsOk.l0])
   | succ k1 =>
    have H := HA.out
    clear HA
    simp only [spec_EventsOk.l0] at H
    by_cases c6 : x5_1 < (l1.length : Int)
    ·rw [if_pos c6] at H
     have c6b0 : decide (x5_1 < (l1.length : Int)) = true := decide_eq_true c6
     clear c6
     by_cases c7 : 0 ≤ x5_1
     ·rw [if_pos c7] at H
      have c7b0 : decide (0 ≤ x5_1) = true := decide_eq_true c7
      clear c7
      replace H := bind_eq_some_iff.mp H
      obtain ⟨t139, A80, H⟩ := H
      replace H : (if t139 = true then (if x5_1 > 0 then (if 0 ≤ (wrap64 (x5_1 - 1)) then (if (wrap64 (x5_1 - 1)) < (l1.length : Int) then (if ((rd_T58 l1 x5_1).f3) < ((rd_T58 l1 (wrap64 (x5_1 - 1))).f3) then (some false) else (if x5_1 ≤ (l1.length : Int) then ((spec_l6First.f k1 l0 (l1.take (x5_1 : Int).toNat) ((rd_T58 l1 x5_1).f0)).bind fun t147 => (if t147 ≥ 0 then (some false) else (spec_EventsOk.l0 k1 l0 l1 (wrap64 (x5_1 + 1))))) else (none))) else (none)) else (none)) else (if x5_1 ≤ (l1.length : Int) then ((spec_l6First.f k1 l0 (l1.take (x5_1 : Int).toNat) ((rd_T58 l1 x5_1).f0)).bind fun t153 => (if t153 ≥ 0 then (some false) else (spec_EventsOk.l0 k1 l0 l1 (wrap64 (x5_1 + 1))))) else (none))) else (some false)) = some r := H
      have A8 := Aside0.mk A80
      clear A80
      by_cases c9 : t139 = true
      ·subst c9
       have H1 : (if x5_1 > 0 then (if 0 ≤ (wrap64 (x5_1 - 1)) then (if (wrap64 (x5_1 - 1)) < (l1.length : Int) then (if ((rd_T58 l1 x5_1).f3) < ((rd_T58 l1 (wrap64 (x5_1 - 1))).f3) then (some false) else (if x5_1 ≤ (l1.length : Int) then ((spec_l6First.f k1 l0 (l1.take (x5_1 : Int).toNat) ((rd_T58 l1 x5_1).f0)).bind fun t147 => (if t147 ≥ 0 then (some false) else (spec_EventsOk.l0 k1 l0 l1 (wrap64 (x5_1 + 1))))) else (none))) else (none)) else (none)) else (if x5_1 ≤ (l1.length : Int) then ((spec_l6First.f k1 l0 (l1.take (x5_1 : Int).toNat) ((rd_T58 l1 x5_1).f0)).bind fun t153 => (if t153 ≥ 0 then (some false) else (spec_EventsOk.l0 k1 l0 l1 (wrap64 (x5_1 + 1))))) else (none))) = some r := by rw [if_pos rfl] at H; exact H
       clear H
       have H := H1
       clear H1
       by_cases c10 : x5_1 > 0
       ·rw [if_pos c10] at H
        have c10b0 : decide (0 < x5_1) = true := decide_eq_true c10
        clear c10
        obtain ⟨ji11, hji11⟩ : ∃ j_ : Int, (wrap64 (x5_1 - 1)) = j_ := ⟨_, rfl⟩
        replace H : (if 0 ≤ (ji11) then (if (ji11) < (l1.length : Int) then (if ((rd_T58 l1 x5_1).f3) < ((rd_T58 l1 (ji11)).f3) then (some false) else (if x5_1 ≤ (l1.length : Int) then ((spec_l6First.f k1 l0 (l1.take (x5_1 : Int).toNat) ((rd_T58 l1 x5_1).f0)).bind fun t147 => (if t147 ≥ 0 then (some false) else (spec_EventsOk.l0 k1 l0 l1 (wrap64 (x5_1 + 1))))) else (none))) else (none)) else (none)) = some r := by (rw [hji11] at H; exact H)
        have hji11w : (IntKind.i64.wrap (x5_1 - 1)) = ji11 := (i64_w _).trans hji11
        by_cases c12 : 0 ≤ (ji11)
        ·rw [if_pos c12] at H
         have c12b0 : decide (0 ≤ (ji11)) = true := decide_eq_true c12
         clear c12
         by_cases c13 : (ji11) < (l1.length : Int)
         ·rw [if_pos c13] at H
          have c13b0 : decide ((ji11) < (l1.length : Int)) = true := decide_eq_true c13
          clear c13
          by_cases c14 : ((rd_T58 l1 x5_1).f3) < ((rd_T58 l1 (ji11)).f3)
          ·rw [if_pos c14] at H
           have c14b0 : decide (((rd_T58 l1 x5_1).f3) < ((rd_T58 l1 (ji11)).f3)) = true := decide_eq_true c14
           clear c14
           obtain rfl := Option.some.inj H
           try go_wp2
           have n0_ := Aside0.mk (bw1 HB.out)
           clear HB
           have HB := n0_
           clear n0_
           have p138 : 0 ≤ (x5_1 : Int) := of_decide_eq_true (by (with_reducible assumption))
           have q138 : x5_1 < (l1.length : Int) := of_decide_eq_true (by (with_reducible assumption))
           obtain ⟨ad138, e138, hx138_0, hx138_1, hx138_2, hx138_3⟩ := at_T58 HR1.out x5_1 p138 q138
           have hw138_3 := hx138_3
           have hw138_2 := hx138_2
           have hw138_1 := hx138_1
           have hw138_0 := hx138_0
           cases e138
           replace hx138_0 := (HB.out.cell (block_lt_of_cell? w _ hx138_0)).trans hx138_0
           replace hx138_1 := (HB.out.cell (block_lt_of_cell? w _ hx138_1)).trans hx138_1
           replace hx138_2 := (HB.out.cell (block_lt_of_cell? w _ hx138_2)).trans hx138_2
           replace hx138_3 := (HB.out.cell (block_lt_of_cell? w _ hx138_3)).trans hx138_3
           replace p138 := eq_true p138
           replace q138 := eq_true q138
           have p140 : 0 ≤ (x5_1 : Int) := of_decide_eq_true (by (with_reducible assumption))
           have q140 : x5_1 < (l1.length : Int) := of_decide_eq_true (by (with_reducible assumption))
           obtain ⟨ad140, e140, hx140_0, hx140_1, hx140_2, hx140_3⟩ := at_T58 HR1.out x5_1 p140 q140
           have hw140_3 := hx140_3
           have hw140_2 := hx140_2
           have hw140_1 := hx140_1
           have hw140_0 := hx140_0
           obtain rfl : ad138 = ad140 := (by injection e140)
           replace hx140_0 := (HB.out.cell (block_lt_of_cell? w _ hx140_0)).trans hx140_0
           replace hx140_1 := (HB.out.cell (block_lt_of_cell? w _ hx140_1)).trans hx140_1
           replace hx140_2 := (HB.out.cell (block_lt_of_cell? w _ hx140_2)).trans hx140_2
           replace hx140_3 := (HB.out.cell (block_lt_of_cell? w _ hx140_3)).trans hx140_3
           replace p140 := eq_true p140
           replace q140 := eq_true q140
           have p141 : 0 ≤ ((ji11) : Int) := of_decide_eq_true (by (with_reducible assumption))
           have q141 : (ji11) < (l1.length : Int) := of_decide_eq_true (by (with_reducible assumption))
           obtain ⟨ad141, e141, hx141_0, hx141_1, hx141_2, hx141_3⟩ := at_T58 HR1.out (ji11) p141 q141
           have hw141_3 := hx141_3
           have hw141_2 := hx141_2
           have hw141_1 := hx141_1
           have hw141_0 := hx141_0
           obtain rfl : ad138 = ad141 := (by injection e141)
           replace hx141_0 := (HB.out.cell (block_lt_of_cell? w _ hx141_0)).trans hx141_0
           replace hx141_1 := (HB.out.cell (block_lt_of_cell? w _ hx141_1)).trans hx141_1
           replace hx141_2 := (HB.out.cell (block_lt_of_cell? w _ hx141_2)).trans hx141_2
           replace hx141_3 := (HB.out.cell (block_lt_of_cell? w _ hx141_3)).trans hx141_3
           replace p141 := eq_true p141
           replace q141 := eq_true q141
           refine start_ (n := 38) (S := fun w' => w'.cell? (ad138.add ((x5_1).toNat * 4)) = some (.int .i64 ((rd_T58 l1 x5_1).f0)) ∧ w'.cell? ⟨(ad138.add ((x5_1).toNat * 4)).block, (ad138.add ((x5_1).toNat * 4)).off + 1, none⟩ = some (.int .i64 ((rd_T58 l1 x5_1).f1)) ∧ w'.cell? ⟨(ad138.add ((x5_1).toNat * 4)).block, (ad138.add ((x5_1).toNat * 4)).off + 2, none⟩ = some (.int .i64 ((rd_T58 l1 x5_1).f2)) ∧ w'.cell? ⟨(ad138.add ((x5_1).toNat * 4)).block, (ad138.add ((x5_1).toNat * 4)).off + 3, none⟩ = some (.int .i64 ((rd_T58 l1 x5_1).f3)) ∧ w'.cell? (ad138.add ((x5_1).toNat * 4)) = some (.int .i64 ((rd_T58 l1 x5_1).f0)) ∧ w'.cell? ⟨(ad138.add ((x5_1).toNat * 4)).block, (ad138.add ((x5_1).toNat * 4)).off + 1, none⟩ = some (.int .i64 ((rd_T58 l1 x5_1).f1)) ∧ w'.cell? ⟨(ad138.add ((x5_1).toNat * 4)).block, (ad138.add ((x5_1).toNat * 4)).off + 2, none⟩ = some (.int .i64 ((rd_T58 l1 x5_1).f2)) ∧ w'.cell? ⟨(ad138.add ((x5_1).toNat * 4)).block, (ad138.add ((x5_1).toNat * 4)).off + 3, none⟩ = some (.int .i64 ((rd_T58 l1 x5_1).f3)) ∧ w'.cell? (ad138.add (((ji11)).toNat * 4)) = some (.int .i64 ((rd_T58 l1 (ji11)).f0)) ∧ w'.cell? ⟨(ad138.add (((ji11)).toNat * 4)).block, (ad138.add (((ji11)).toNat * 4)).off + 1, none⟩ = some (.int .i64 ((rd_T58 l1 (ji11)).f1)) ∧ w'.cell? ⟨(ad138.add (((ji11)).toNat * 4)).block, (ad138.add (((ji11)).toNat * 4)).off + 2, none⟩ = some (.int .i64 ((rd_T58 l1 (ji11)).f2)) ∧ w'.cell? ⟨(ad138.add (((ji11)).toNat * 4)).block, (ad138.add (((ji11)).toNat * 4)).off + 3, none⟩ = some (.int .i64 ((rd_T58 l1 (ji11)).f3))) (ds := []) #[false, false, false, false, false, false, false, false, false, false, false, false, false, false, false, false, false, false, false, false, false, false, false, false, false, false, false, false, false, false, false, false, false, false, false, false, false, false] (by kernel_rfl) rfl rfl ⟨((HB.out.cell (block_lt_of_cell? w _ hw138_0)).trans hw138_0), ((HB.out.cell (block_lt_of_cell? w _ hw138_1)).trans hw138_1), ((HB.out.cell (block_lt_of_cell? w _ hw138_2)).trans hw138_2), ((HB.out.cell (block_lt_of_cell? w _ hw138_3)).trans hw138_3), ((HB.out.cell (block_lt_of_cell? w _ hw140_0)).trans hw140_0), ((HB.out.cell (block_lt_of_cell? w _ hw140_1)).trans hw140_1), ((HB.out.cell (block_lt_of_cell? w _ hw140_2)).trans hw140_2), ((HB.out.cell (block_lt_of_cell? w _ hw140_3)).trans hw140_3), ((HB.out.cell (block_lt_of_cell? w _ hw141_0)).trans hw141_0), ((HB.out.cell (block_lt_of_cell? w _ hw141_1)).trans hw141_1), ((HB.out.cell (block_lt_of_cell? w _ hw141_2)).trans hw141_2), ((HB.out.cell (block_lt_of_cell? w _ hw141_3)).trans hw141_3)⟩ (fun hHeld => ?_); refine with_tabW spec_EventsOk.tab6 spec_EventsOk.bits6 (fun HT_ HW_ => ?_)
           generalize wr.drew = w15 at HB hx138_0 hx138_1 hx138_2 hx138_3 hx140_0 hx140_1 hx140_2 hx140_3 hx141_0 hx141_1 hx141_2 hx141_3 hHeld ⊢
           refine puY (i := 0) 15 (bq 1 38) HT_ ?_
           refine puY (i := 1) 16 (bq 2 38) HT_ ?_
           refine puY (i := 2) 17 (bq 3 38) HT_ ?_
           refine puY (i := 3) 18 (bq 4 38) HT_ ?_
           refine take_ (i := 4) (N := some 19) (v := ?_) (a' := ?_) (bq 5 38) rfl rfl (take_ofW HT_.out HW_.out (by kernel_rfl)) (fun _ _ _ h => h) (Or.inl ⟨by rfl, ?_⟩) hHeld ?_ ?_
           rotate_left
           ·rintro w' ⟨s0, s1, s2, s3, s4, s5, s6, s7, s8, s9, s10, s11⟩
            go_simp
            with_reducible rfl
           rotate_left
           ·simp only [Act.put, stA, stZ, stS, i64_w, i32_w]
            rfl
           refine onY (i := 5) 20 (bq 6 38) HT_ (fun K hK => ?_)
           refine goes_ Try.func76 (by kernel_rfl) rfl #[.slice A0 l0.length c0, .agg #[.int .i64 ((rd_T58 l1 x5_1).f0), .int .i64 ((rd_T58 l1 x5_1).f1), .int .i64 ((rd_T58 l1 x5_1).f2), .int .i64 ((rd_T58 l1 x5_1).f3)]] (by rfl) rfl rfl (by (try simp only [map_toArray, map_cons, map_nil]); rfl) ?_
           with_reducible refine (spec_l6Event.calls _ _ l0 ((rd_T58 l1 x5_1).f0) ((rd_T58 l1 x5_1).f1) ((rd_T58 l1 x5_1).f2) ((rd_T58 l1 x5_1).f3) true _ ?side1 ?side2 A8.out).mono ?_
           (case side1 => repeat (exact (C_below HR0.out HB.out)))
           (case side2 => exact HC0.out)
           rintro e w16 ⟨rfl, hb⟩
           refine ⟨_, rfl, ?_⟩
           have n0_ := Aside0.mk (below_step (by repeat ((with_reducible exact HB.out))) hb)
           clear HB
           have HB := n0_
           clear n0_
           (try clear hb)
           refine hK.out _ _ ⟨((HB.out.cell (block_lt_of_cell? w _ hw138_0)).trans hw138_0), ((HB.out.cell (block_lt_of_cell? w _ hw138_1)).trans hw138_1), ((HB.out.cell (block_lt_of_cell? w _ hw138_2)).trans hw138_2), ((HB.out.cell (block_lt_of_cell? w _ hw138_3)).trans hw138_3), ((HB.out.cell (block_lt_of_cell? w _ hw140_0)).trans hw140_0), ((HB.out.cell (block_lt_of_cell? w _ hw140_1)).trans hw140_1), ((HB.out.cell (block_lt_of_cell? w _ hw140_2)).trans hw140_2), ((HB.out.cell (block_lt_of_cell? w _ hw140_3)).trans hw140_3), ((HB.out.cell (block_lt_of_cell? w _ hw141_0)).trans hw141_0), ((HB.out.cell (block_lt_of_cell? w _ hw141_1)).trans hw141_1), ((HB.out.cell (block_lt_of_cell? w _ hw141_2)).trans hw141_2), ((HB.out.cell (block_lt_of_cell? w _ hw141_3)).trans hw141_3)⟩ (fun hHeld => ?_)
           clear hK K
           refine norm_ (a' := ?_) ?_ ?_
           rotate_left
           ·show Act.put _ (some 20) _ = _
            simp only [Act.put, stA, stZ, stS, i64_w, i32_w]
            rfl
           refine puY (i := 6) 21 (bq 7 38) HT_ ?_
           refine puY (i := 7) 22 (bq 8 38) HT_ ?_
           refine puY (i := 8) 23 (bq 9 38) HT_ ?_
           refine puY (i := 9) 24 (bq 10 38) HT_ ?_
           refine puY (i := 10) 25 (bq 11 38) HT_ ?_
           refine puY (i := 11) 26 (bq 12 38) HT_ ?_
           refine puY (i := 12) 27 (bq 13 38) HT_ ?_
           refine puY (i := 13) 28 (bq 14 38) HT_ ?_
           refine puY (i := 14) 29 (bq 15 38) HT_ ?_
           refine puY (i := 16) 31 #[true, true, true, true, true, true, true, true, true, true, true, true, true, true, true, false, true, false, false, false, false, false, false, false, false, false, false, false, false, false, false, false, false, false, false, false, false, false] HT_ ?_
           refine puY (i := 17) 32 #[true, true, true, true, true, true, true, true, true, true, true, true, true, true, true, false, true, true, false, false, false, false, false, false, false, false, false, false, false, false, false, false, false, false, false, false, false, false] HT_ ?_
           refine puY (i := 18) 33 #[true, true, true, true, true, true, true, true, true, true, true, true, true, true, true, false, true, true, true, false, false, false, false, false, false, false, false, false, false, false, false, false, false, false, false, false, false, false] HT_ ?_
           refine puY (i := 19) 34 #[true, true, true, true, true, true, true, true, true, true, true, true, true, true, true, false, true, true, true, true, false, false, false, false, false, false, false, false, false, false, false, false, false, false, false, false, false, false] HT_ ?_
           refine puY (i := 20) 35 #[true, true, true, true, true, true, true, true, true, true, true, true, true, true, true, false, true, true, true, true, true, false, false, false, false, false, false, false, false, false, false, false, false, false, false, false, false, false] HT_ ?_
           refine take_ (i := 15) (N := some 30) (v := ?_) (a' := ?_) (bq 21 38) rfl rfl (take_ofW HT_.out HW_.out (by kernel_rfl)) (fun _ _ _ h => h) (Or.inl ⟨by rfl, ?_⟩) hHeld ?_ ?_
           rotate_left
           ·rintro w' ⟨s0, s1, s2, s3, s4, s5, s6, s7, s8, s9, s10, s11⟩
            go_simp
            with_reducible rfl
           rotate_left
           ·simp only [Act.put, stA, stZ, stS, i64_w, i32_w]
            rfl
           refine take_ (i := 21) (N := some 36) (v := ?_) (a' := ?_) (bq 22 38) rfl rfl (take_ofW HT_.out HW_.out (by kernel_rfl)) (fun _ _ _ h => h) (Or.inl ⟨by rfl, ?_⟩) hHeld ?_ ?_
           rotate_left
           ·rintro w' ⟨s0, s1, s2, s3, s4, s5, s6, s7, s8, s9, s10, s11⟩
            go_simp
            with_reducible rfl
           rotate_left
           ·simp only [Act.put, stA, stZ, stS, i64_w, i32_w]
            rfl
           refine puY (i := 22) 37 (bq 23 38) HT_ ?_
           refine puY (i := 23) 38 (bq 24 38) HT_ ?_
           refine puY (i := 24) 39 (bq 25 38) HT_ ?_
           refine puY (i := 25) 40 (bq 26 38) HT_ ?_
           refine puN (i := 26) 41 (bq 27 38) HT_ ?_
           refine puN (i := 27) 42 (bq 28 38) HT_ ?_
           refine puN (i := 28) 43 (bq 29 38) HT_ ?_
           refine puN (i := 29) 44 (bq 30 38) HT_ ?_
           refine puN (i := 30) 45 (bq 31 38) HT_ ?_
           refine puN (i := 31) 46 (bq 32 38) HT_ ?_
           refine puN (i := 32) 47 (bq 33 38) HT_ ?_
           refine puN (i := 33) 48 (bq 34 38) HT_ ?_
           refine puN (i := 34) 49 (bq 35 38) HT_ ?_
           refine puN (i := 35) 50 (bq 36 38) HT_ ?_
           refine puN (i := 36) 51 (bq 37 38) HT_ ?_
           refine puY (i := 37) 52 (bq 38 38) HT_ ?_
           refine done_ (done_of HT_.out (by kernel_rfl)) ?_
           try go_wp2
           go_ret
           exact ⟨by rfl, by repeat ((with_reducible exact HB.out))⟩
          ·rw [if_neg c14] at H
           have c14b0 : decide (((rd_T58 l1 x5_1).f3) < ((rd_T58 l1 (ji11)).f3)) = false := decide_eq_false c14
           clear c14
           have c17b0 := eq_true (of_decide_eq_true (by (with_reducible assumption)) : 0 ≤ x5_1)
           by_cases c18 : x5_1 ≤ (l1.length : Int)
           ·rw [if_pos c18] at H
            have c18b0 := eq_true c18
            have c18b1 : decide (x5_1 ≤ (l1.length : Int)) = true := decide_eq_true c18
            clear c18
            obtain ⟨y142, hy142⟩ : ∃ y_ : List (S58), y_ = (l1.take (x5_1 : Int).toNat) := ⟨_, rfl⟩
            replace H : ((spec_l6First.f k1 l0 y142 ((rd_T58 l1 x5_1).f0)).bind fun t147 => (if t147 ≥ 0 then (some false) else (spec_EventsOk.l0 k1 l0 l1 (wrap64 (x5_1 + 1))))) = some r := by (rw [hy142]; with_reducible exact H)
            have Ny142 := Aside0.mk hy142
            clear hy142
            replace H := bind_eq_some_iff.mp H
            obtain ⟨t147, A190, H⟩ := H
            replace H : (if t147 ≥ 0 then (some false) else (spec_EventsOk.l0 k1 l0 l1 (wrap64 (x5_1 + 1)))) = some r := H
            have A19 := Aside0.mk A190
            clear A190
            by_cases c20 : t147 ≥ 0
            ·rw [if_pos c20] at H
             have c20b0 : decide (0 ≤ t147) = true := decide_eq_true c20
             clear c20
             obtain rfl := Option.some.inj H
             try go_wp2
             have n0_ := Aside0.mk (bw1 HB.out)
             clear HB
             have HB := n0_
             clear n0_
             have p138 : 0 ≤ (x5_1 : Int) := of_decide_eq_true (by (with_reducible assumption))
             have q138 : x5_1 < (l1.length : Int) := of_decide_eq_true (by (with_reducible assumption))
             obtain ⟨ad138, e138, hx138_0, hx138_1, hx138_2, hx138_3⟩ := at_T58 HR1.out x5_1 p138 q138
             have hw138_3 := hx138_3
             have hw138_2 := hx138_2
             have hw138_1 := hx138_1
             have hw138_0 := hx138_0
             cases e138
             replace hx138_0 := (HB.out.cell (block_lt_of_cell? w _ hx138_0)).trans hx138_0
             replace hx138_1 := (HB.out.cell (block_lt_of_cell? w _ hx138_1)).trans hx138_1
             replace hx138_2 := (HB.out.cell (block_lt_of_cell? w _ hx138_2)).trans hx138_2
             replace hx138_3 := (HB.out.cell (block_lt_of_cell? w _ hx138_3)).trans hx138_3
             replace p138 := eq_true p138
             replace q138 := eq_true q138
             have p140 : 0 ≤ (x5_1 : Int) := of_decide_eq_true (by (with_reducible assumption))
             have q140 : x5_1 < (l1.length : Int) := of_decide_eq_true (by (with_reducible assumption))
             obtain ⟨ad140, e140, hx140_0, hx140_1, hx140_2, hx140_3⟩ := at_T58 HR1.out x5_1 p140 q140
             have hw140_3 := hx140_3
             have hw140_2 := hx140_2
             have hw140_1 := hx140_1
             have hw140_0 := hx140_0
             obtain rfl : ad138 = ad140 := (by injection e140)
             replace hx140_0 := (HB.out.cell (block_lt_of_cell? w _ hx140_0)).trans hx140_0
             replace hx140_1 := (HB.out.cell (block_lt_of_cell? w _ hx140_1)).trans hx140_1
             replace hx140_2 := (HB.out.cell (block_lt_of_cell? w _ hx140_2)).trans hx140_2
             replace hx140_3 := (HB.out.cell (block_lt_of_cell? w _ hx140_3)).trans hx140_3
             replace p140 := eq_true p140
             replace q140 := eq_true q140
             have p141 : 0 ≤ ((ji11) : Int) := of_decide_eq_true (by (with_reducible assumption))
             have q141 : (ji11) < (l1.length : Int) := of_decide_eq_true (by (with_reducible assumption))
             obtain ⟨ad141, e141, hx141_0, hx141_1, hx141_2, hx141_3⟩ := at_T58 HR1.out (ji11) p141 q141
             have hw141_3 := hx141_3
             have hw141_2 := hx141_2
             have hw141_1 := hx141_1
             have hw141_0 := hx141_0
             obtain rfl : ad138 = ad141 := (by injection e141)
             replace hx141_0 := (HB.out.cell (block_lt_of_cell? w _ hx141_0)).trans hx141_0
             replace hx141_1 := (HB.out.cell (block_lt_of_cell? w _ hx141_1)).trans hx141_1
             replace hx141_2 := (HB.out.cell (block_lt_of_cell? w _ hx141_2)).trans hx141_2
             replace hx141_3 := (HB.out.cell (block_lt_of_cell? w _ hx141_3)).trans hx141_3
             replace p141 := eq_true p141
             replace q141 := eq_true q141
             have p146 : 0 ≤ (x5_1 : Int) := of_decide_eq_true (by (with_reducible assumption))
             have q146 : x5_1 < (l1.length : Int) := of_decide_eq_true (by (with_reducible assumption))
             obtain ⟨ad146, e146, hx146_0, hx146_1, hx146_2, hx146_3⟩ := at_T58 HR1.out x5_1 p146 q146
             have hw146_3 := hx146_3
             have hw146_2 := hx146_2
             have hw146_1 := hx146_1
             have hw146_0 := hx146_0
             obtain rfl : ad138 = ad146 := (by injection e146)
             replace hx146_0 := (HB.out.cell (block_lt_of_cell? w _ hx146_0)).trans hx146_0
             replace hx146_1 := (HB.out.cell (block_lt_of_cell? w _ hx146_1)).trans hx146_1
             replace hx146_2 := (HB.out.cell (block_lt_of_cell? w _ hx146_2)).trans hx146_2
             replace hx146_3 := (HB.out.cell (block_lt_of_cell? w _ hx146_3)).trans hx146_3
             replace p146 := eq_true p146
             replace q146 := eq_true q146
             refine start_ (n := 38) (S := fun w' => w'.cell? (ad138.add ((x5_1).toNat * 4)) = some (.int .i64 ((rd_T58 l1 x5_1).f0)) ∧ w'.cell? ⟨(ad138.add ((x5_1).toNat * 4)).block, (ad138.add ((x5_1).toNat * 4)).off + 1, none⟩ = some (.int .i64 ((rd_T58 l1 x5_1).f1)) ∧ w'.cell? ⟨(ad138.add ((x5_1).toNat * 4)).block, (ad138.add ((x5_1).toNat * 4)).off + 2, none⟩ = some (.int .i64 ((rd_T58 l1 x5_1).f2)) ∧ w'.cell? ⟨(ad138.add ((x5_1).toNat * 4)).block, (ad138.add ((x5_1).toNat * 4)).off + 3, none⟩ = some (.int .i64 ((rd_T58 l1 x5_1).f3)) ∧ w'.cell? (ad138.add ((x5_1).toNat * 4)) = some (.int .i64 ((rd_T58 l1 x5_1).f0)) ∧ w'.cell? ⟨(ad138.add ((x5_1).toNat * 4)).block, (ad138.add ((x5_1).toNat * 4)).off + 1, none⟩ = some (.int .i64 ((rd_T58 l1 x5_1).f1)) ∧ w'.cell? ⟨(ad138.add ((x5_1).toNat * 4)).block, (ad138.add ((x5_1).toNat * 4)).off + 2, none⟩ = some (.int .i64 ((rd_T58 l1 x5_1).f2)) ∧ w'.cell? ⟨(ad138.add ((x5_1).toNat * 4)).block, (ad138.add ((x5_1).toNat * 4)).off + 3, none⟩ = some (.int .i64 ((rd_T58 l1 x5_1).f3)) ∧ w'.cell? (ad138.add (((ji11)).toNat * 4)) = some (.int .i64 ((rd_T58 l1 (ji11)).f0)) ∧ w'.cell? ⟨(ad138.add (((ji11)).toNat * 4)).block, (ad138.add (((ji11)).toNat * 4)).off + 1, none⟩ = some (.int .i64 ((rd_T58 l1 (ji11)).f1)) ∧ w'.cell? ⟨(ad138.add (((ji11)).toNat * 4)).block, (ad138.add (((ji11)).toNat * 4)).off + 2, none⟩ = some (.int .i64 ((rd_T58 l1 (ji11)).f2)) ∧ w'.cell? ⟨(ad138.add (((ji11)).toNat * 4)).block, (ad138.add (((ji11)).toNat * 4)).off + 3, none⟩ = some (.int .i64 ((rd_T58 l1 (ji11)).f3)) ∧ w'.cell? (ad138.add ((x5_1).toNat * 4)) = some (.int .i64 ((rd_T58 l1 x5_1).f0)) ∧ w'.cell? ⟨(ad138.add ((x5_1).toNat * 4)).block, (ad138.add ((x5_1).toNat * 4)).off + 1, none⟩ = some (.int .i64 ((rd_T58 l1 x5_1).f1)) ∧ w'.cell? ⟨(ad138.add ((x5_1).toNat * 4)).block, (ad138.add ((x5_1).toNat * 4)).off + 2, none⟩ = some (.int .i64 ((rd_T58 l1 x5_1).f2)) ∧ w'.cell? ⟨(ad138.add ((x5_1).toNat * 4)).block, (ad138.add ((x5_1).toNat * 4)).off + 3, none⟩ = some (.int .i64 ((rd_T58 l1 x5_1).f3))) (ds := []) #[false, false, false, false, false, false, false, false, false, false, false, false, false, false, false, false, false, false, false, false, false, false, false, false, false, false, false, false, false, false, false, false, false, false, false, false, false, false] (by kernel_rfl) rfl rfl ⟨((HB.out.cell (block_lt_of_cell? w _ hw138_0)).trans hw138_0), ((HB.out.cell (block_lt_of_cell? w _ hw138_1)).trans hw138_1), ((HB.out.cell (block_lt_of_cell? w _ hw138_2)).trans hw138_2), ((HB.out.cell (block_lt_of_cell? w _ hw138_3)).trans hw138_3), ((HB.out.cell (block_lt_of_cell? w _ hw140_0)).trans hw140_0), ((HB.out.cell (block_lt_of_cell? w _ hw140_1)).trans hw140_1), ((HB.out.cell (block_lt_of_cell? w _ hw140_2)).trans hw140_2), ((HB.out.cell (block_lt_of_cell? w _ hw140_3)).trans hw140_3), ((HB.out.cell (block_lt_of_cell? w _ hw141_0)).trans hw141_0), ((HB.out.cell (block_lt_of_cell? w _ hw141_1)).trans hw141_1), ((HB.out.cell (block_lt_of_cell? w _ hw141_2)).trans hw141_2), ((HB.out.cell (block_lt_of_cell? w _ hw141_3)).trans hw141_3), ((HB.out.cell (block_lt_of_cell? w _ hw146_0)).trans hw146_0), ((HB.out.cell (block_lt_of_cell? w _ hw146_1)).trans hw146_1), ((HB.out.cell (block_lt_of_cell? w _ hw146_2)).trans hw146_2), ((HB.out.cell (block_lt_of_cell? w _ hw146_3)).trans hw146_3)⟩ (fun hHeld => ?_); refine with_tabW spec_EventsOk.tab6 spec_EventsOk.bits6 (fun HT_ HW_ => ?_)
             generalize wr.drew = w21 at HB hx138_0 hx138_1 hx138_2 hx138_3 hx140_0 hx140_1 hx140_2 hx140_3 hx141_0 hx141_1 hx141_2 hx141_3 hx146_0 hx146_1 hx146_2 hx146_3 hHeld ⊢
             refine puY (i := 0) 15 (bq 1 38) HT_ ?_
             refine puY (i := 1) 16 (bq 2 38) HT_ ?_
             refine puY (i := 2) 17 (bq 3 38) HT_ ?_
             refine puY (i := 3) 18 (bq 4 38) HT_ ?_
             refine take_ (i := 4) (N := some 19) (v := ?_) (a' := ?_) (bq 5 38) rfl rfl (take_ofW HT_.out HW_.out (by kernel_rfl)) (fun _ _ _ h => h) (Or.inl ⟨by rfl, ?_⟩) hHeld ?_ ?_
             rotate_left
             ·rintro w' ⟨s0, s1, s2, s3, s4, s5, s6, s7, s8, s9, s10, s11, s12, s13, s14, s15⟩
              go_simp
              with_reducible rfl
             rotate_left
             ·simp only [Act.put, stA, stZ, stS, i64_w, i32_w]
              rfl
             refine onY (i := 5) 20 (bq 6 38) HT_ (fun K hK => ?_)
             refine goes_ Try.func76 (by kernel_rfl) rfl #[.slice A0 l0.length c0, .agg #[.int .i64 ((rd_T58 l1 x5_1).f0), .int .i64 ((rd_T58 l1 x5_1).f1), .int .i64 ((rd_T58 l1 x5_1).f2), .int .i64 ((rd_T58 l1 x5_1).f3)]] (by rfl) rfl rfl (by (try simp only [map_toArray, map_cons, map_nil]); rfl) ?_
             with_reducible refine (spec_l6Event.calls _ _ l0 ((rd_T58 l1 x5_1).f0) ((rd_T58 l1 x5_1).f1) ((rd_T58 l1 x5_1).f2) ((rd_T58 l1 x5_1).f3) true _ ?side1 ?side2 A8.out).mono ?_
             (case side1 => repeat (exact (C_below HR0.out HB.out)))
             (case side2 => exact HC0.out)
             rintro e w22 ⟨rfl, hb⟩
             refine ⟨_, rfl, ?_⟩
             have n0_ := Aside0.mk (below_step (by repeat ((with_reducible exact HB.out))) hb)
             clear HB
             have HB := n0_
             clear n0_
             (try clear hb)
             have q23 : (x5_1 : Int) ≤ ((l1.length : Int) : Int) := of_decide_eq_true (by (with_reducible assumption))
             obtain ⟨i023, hi023, _, hsz23, _⟩ := info_parts info58
             have hroom23 : l1.length ≤ c1 := HC1.out
             have hC23 : Kd.C k58 _ (some ad138) l1.length l1 := HR1.out
             have hcut23 := cut_to (P := Try.prog) 53 58 .i64 Try.underlying53 hi023 (some ad138) l1.length c1 x5_1 (of_decide_eq_true (by (with_reducible assumption))) q23 hroom23
             have hr23 := Kd.C_take (m := (x5_1 : Int).toNat) hC23 (by omega)
             have hy23 : y142.length = (x5_1 : Int).toNat := (by rw [Ny142.out, length_take]; omega)
             rw [← Ny142.out] at hr23
             rw [← hy23] at hcut23
             have HR145 := Aside0.mk hr23
             have HC145 := Aside0.mk (show y142.length ≤ c1 from by omega)
             clear hr23 hC23 hroom23 hi023 hsz23
             have KY23 := Aside0.mk hy23
             clear hy23
             replace q23 := eq_true q23
             refine hK.out _ _ ⟨((HB.out.cell (block_lt_of_cell? w _ hw138_0)).trans hw138_0), ((HB.out.cell (block_lt_of_cell? w _ hw138_1)).trans hw138_1), ((HB.out.cell (block_lt_of_cell? w _ hw138_2)).trans hw138_2), ((HB.out.cell (block_lt_of_cell? w _ hw138_3)).trans hw138_3), ((HB.out.cell (block_lt_of_cell? w _ hw140_0)).trans hw140_0), ((HB.out.cell (block_lt_of_cell? w _ hw140_1)).trans hw140_1), ((HB.out.cell (block_lt_of_cell? w _ hw140_2)).trans hw140_2), ((HB.out.cell (block_lt_of_cell? w _ hw140_3)).trans hw140_3), ((HB.out.cell (block_lt_of_cell? w _ hw141_0)).trans hw141_0), ((HB.out.cell (block_lt_of_cell? w _ hw141_1)).trans hw141_1), ((HB.out.cell (block_lt_of_cell? w _ hw141_2)).trans hw141_2), ((HB.out.cell (block_lt_of_cell? w _ hw141_3)).trans hw141_3), ((HB.out.cell (block_lt_of_cell? w _ hw146_0)).trans hw146_0), ((HB.out.cell (block_lt_of_cell? w _ hw146_1)).trans hw146_1), ((HB.out.cell (block_lt_of_cell? w _ hw146_2)).trans hw146_2), ((HB.out.cell (block_lt_of_cell? w _ hw146_3)).trans hw146_3)⟩ (fun hHeld => ?_)
             clear hK K
             refine norm_ (a' := ?_) ?_ ?_
             rotate_left
             ·show Act.put _ (some 20) _ = _
              simp only [Act.put, stA, stZ, stS, i64_w, i32_w]
              rfl
             refine puY (i := 6) 21 (bq 7 38) HT_ ?_
             refine puY (i := 7) 22 (bq 8 38) HT_ ?_
             refine puY (i := 8) 23 (bq 9 38) HT_ ?_
             refine puY (i := 9) 24 (bq 10 38) HT_ ?_
             refine puY (i := 10) 25 (bq 11 38) HT_ ?_
             refine puY (i := 11) 26 (bq 12 38) HT_ ?_
             refine puY (i := 12) 27 (bq 13 38) HT_ ?_
             refine puY (i := 13) 28 (bq 14 38) HT_ ?_
             refine puY (i := 14) 29 (bq 15 38) HT_ ?_
             refine puY (i := 16) 31 #[true, true, true, true, true, true, true, true, true, true, true, true, true, true, true, false, true, false, false, false, false, false, false, false, false, false, false, false, false, false, false, false, false, false, false, false, false, false] HT_ ?_
             refine puY (i := 17) 32 #[true, true, true, true, true, true, true, true, true, true, true, true, true, true, true, false, true, true, false, false, false, false, false, false, false, false, false, false, false, false, false, false, false, false, false, false, false, false] HT_ ?_
             refine puY (i := 18) 33 #[true, true, true, true, true, true, true, true, true, true, true, true, true, true, true, false, true, true, true, false, false, false, false, false, false, false, false, false, false, false, false, false, false, false, false, false, false, false] HT_ ?_
             refine puY (i := 19) 34 #[true, true, true, true, true, true, true, true, true, true, true, true, true, true, true, false, true, true, true, true, false, false, false, false, false, false, false, false, false, false, false, false, false, false, false, false, false, false] HT_ ?_
             refine puY (i := 20) 35 #[true, true, true, true, true, true, true, true, true, true, true, true, true, true, true, false, true, true, true, true, true, false, false, false, false, false, false, false, false, false, false, false, false, false, false, false, false, false] HT_ ?_
             refine take_ (i := 15) (N := some 30) (v := ?_) (a' := ?_) (bq 21 38) rfl rfl (take_ofW HT_.out HW_.out (by kernel_rfl)) (fun _ _ _ h => h) (Or.inl ⟨by rfl, ?_⟩) hHeld ?_ ?_
             rotate_left
             ·rintro w' ⟨s0, s1, s2, s3, s4, s5, s6, s7, s8, s9, s10, s11, s12, s13, s14, s15⟩
              go_simp
              with_reducible rfl
             rotate_left
             ·simp only [Act.put, stA, stZ, stS, i64_w, i32_w]
              rfl
             refine take_ (i := 21) (N := some 36) (v := ?_) (a' := ?_) (bq 22 38) rfl rfl (take_ofW HT_.out HW_.out (by kernel_rfl)) (fun _ _ _ h => h) (Or.inl ⟨by rfl, ?_⟩) hHeld ?_ ?_
             rotate_left
             ·rintro w' ⟨s0, s1, s2, s3, s4, s5, s6, s7, s8, s9, s10, s11, s12, s13, s14, s15⟩
              go_simp
              with_reducible rfl
             rotate_left
             ·simp only [Act.put, stA, stZ, stS, i64_w, i32_w]
              rfl
             refine puY (i := 22) 37 (bq 23 38) HT_ ?_
             refine puY (i := 23) 38 (bq 24 38) HT_ ?_
             refine puY (i := 24) 39 (bq 25 38) HT_ ?_
             refine puY (i := 25) 40 (bq 26 38) HT_ ?_
             refine puY (i := 26) 41 (bq 27 38) HT_ ?_
             refine puY (i := 27) 42 (bq 28 38) HT_ ?_
             refine puY (i := 28) 43 (bq 29 38) HT_ ?_
             refine puY (i := 29) 44 (bq 30 38) HT_ ?_
             refine puY (i := 30) 45 (bq 31 38) HT_ ?_
             refine puY (i := 31) 46 (bq 32 38) HT_ ?_
             refine puY (i := 32) 47 (bq 33 38) HT_ ?_
             refine puY (i := 33) 48 (bq 34 38) HT_ ?_
             refine take_ (i := 34) (N := some 49) (v := ?_) (a' := ?_) (bq 35 38) rfl rfl (take_ofW HT_.out HW_.out (by kernel_rfl)) (fun _ _ _ h => h) (Or.inl ⟨by rfl, ?_⟩) hHeld ?_ ?_
             rotate_left
             ·rintro w' ⟨s0, s1, s2, s3, s4, s5, s6, s7, s8, s9, s10, s11, s12, s13, s14, s15⟩
              go_simp
              with_reducible rfl
             rotate_left
             ·simp only [Act.put, stA, stZ, stS, i64_w, i32_w]
              rfl
             refine onY (i := 35) 50 (bq 36 38) HT_ (fun K hK => ?_)
             refine goes_ Try.func77 (by kernel_rfl) rfl #[.slice A0 l0.length c0, .slice (some ad138) y142.length c1, .int .i64 ((rd_T58 l1 x5_1).f0)] (by rfl) rfl rfl (by (try simp only [map_toArray, map_cons, map_nil]); rfl) ?_
             with_reducible refine (spec_l6First.calls k1 _ _ l0 _ _ y142 ((rd_T58 l1 x5_1).f0) t147 _ ?side1 ?side2 ?side3 ?side4 A19.out).mono ?_
             (case side1 => repeat (exact (C_below HR0.out HB.out)))
             (case side2 => exact HC0.out)
             (case side3 => repeat (exact (C_below HR145.out HB.out)))
             (case side4 => exact HC145.out)
             rintro e w24 ⟨rfl, hb⟩
             refine ⟨_, rfl, ?_⟩
             have n0_ := Aside0.mk (below_step (by repeat ((with_reducible exact HB.out))) hb)
             clear HB
             have HB := n0_
             clear n0_
             (try clear hb)
             refine hK.out _ _ ⟨((HB.out.cell (block_lt_of_cell? w _ hw138_0)).trans hw138_0), ((HB.out.cell (block_lt_of_cell? w _ hw138_1)).trans hw138_1), ((HB.out.cell (block_lt_of_cell? w _ hw138_2)).trans hw138_2), ((HB.out.cell (block_lt_of_cell? w _ hw138_3)).trans hw138_3), ((HB.out.cell (block_lt_of_cell? w _ hw140_0)).trans hw140_0), ((HB.out.cell (block_lt_of_cell? w _ hw140_1)).trans hw140_1), ((HB.out.cell (block_lt_of_cell? w _ hw140_2)).trans hw140_2), ((HB.out.cell (block_lt_of_cell? w _ hw140_3)).trans hw140_3), ((HB.out.cell (block_lt_of_cell? w _ hw141_0)).trans hw141_0), ((HB.out.cell (block_lt_of_cell? w _ hw141_1)).trans hw141_1), ((HB.out.cell (block_lt_of_cell? w _ hw141_2)).trans hw141_2), ((HB.out.cell (block_lt_of_cell? w _ hw141_3)).trans hw141_3), ((HB.out.cell (block_lt_of_cell? w _ hw146_0)).trans hw146_0), ((HB.out.cell (block_lt_of_cell? w _ hw146_1)).trans hw146_1), ((HB.out.cell (block_lt_of_cell? w _ hw146_2)).trans hw146_2), ((HB.out.cell (block_lt_of_cell? w _ hw146_3)).trans hw146_3)⟩ (fun hHeld => ?_)
             clear hK K
             refine norm_ (a' := ?_) ?_ ?_
             rotate_left
             ·show Act.put _ (some 50) _ = _
              simp only [Act.put, stA, stZ, stS, i64_w, i32_w]
              rfl
             refine puY (i := 36) 51 (bq 37 38) HT_ ?_
             refine puY (i := 37) 52 (bq 38 38) HT_ ?_
             refine done_ (done_of HT_.out (by kernel_rfl)) ?_
             try go_wp2
             go_ret
             exact ⟨by rfl, by repeat ((with_reducible exact HB.out))⟩
            ·rw [if_neg c20] at H
             have c20b0 : decide (0 ≤ t147) = false := decide_eq_false c20
             clear c20
             have H' := Aside0.mk H
             clear H
             try go_wp2
             have n0_ := Aside0.mk (bw1 HB.out)
             clear HB
             have HB := n0_
             clear n0_
             have p138 : 0 ≤ (x5_1 : Int) := of_decide_eq_true (by (with_reducible assumption))
             have q138 : x5_1 < (l1.length : Int) := of_decide_eq_true (by (with_reducible assumption))
             obtain ⟨ad138, e138, hx138_0, hx138_1, hx138_2, hx138_3⟩ := at_T58 HR1.out x5_1 p138 q138
             have hw138_3 := hx138_3
             have hw138_2 := hx138_2
             have hw138_1 := hx138_1
             have hw138_0 := hx138_0
             cases e138
             replace hx138_0 := (HB.out.cell (block_lt_of_cell? w _ hx138_0)).trans hx138_0
             replace hx138_1 := (HB.out.cell (block_lt_of_cell? w _ hx138_1)).trans hx138_1
             replace hx138_2 := (HB.out.cell (block_lt_of_cell? w _ hx138_2)).trans hx138_2
             replace hx138_3 := (HB.out.cell (block_lt_of_cell? w _ hx138_3)).trans hx138_3
             replace p138 := eq_true p138
             replace q138 := eq_true q138
             have p140 : 0 ≤ (x5_1 : Int) := of_decide_eq_true (by (with_reducible assumption))
             have q140 : x5_1 < (l1.length : Int) := of_decide_eq_true (by (with_reducible assumption))
             obtain ⟨ad140, e140, hx140_0, hx140_1, hx140_2, hx140_3⟩ := at_T58 HR1.out x5_1 p140 q140
             have hw140_3 := hx140_3
             have hw140_2 := hx140_2
             have hw140_1 := hx140_1
             have hw140_0 := hx140_0
             obtain rfl : ad138 = ad140 := (by injection e140)
             replace hx140_0 := (HB.out.cell (block_lt_of_cell? w _ hx140_0)).trans hx140_0
             replace hx140_1 := (HB.out.cell (block_lt_of_cell? w _ hx140_1)).trans hx140_1
             replace hx140_2 := (HB.out.cell (block_lt_of_cell? w _ hx140_2)).trans hx140_2
             replace hx140_3 := (HB.out.cell (block_lt_of_cell? w _ hx140_3)).trans hx140_3
             replace p140 := eq_true p140
             replace q140 := eq_true q140
             have p141 : 0 ≤ ((ji11) : Int) := of_decide_eq_true (by (with_reducible assumption))
             have q141 : (ji11) < (l1.length : Int) := of_decide_eq_true (by (with_reducible assumption))
             obtain ⟨ad141, e141, hx141_0, hx141_1, hx141_2, hx141_3⟩ := at_T58 HR1.out (ji11) p141 q141
             have hw141_3 := hx141_3
             have hw141_2 := hx141_2
             have hw141_1 := hx141_1
             have hw141_0 := hx141_0
             obtain rfl : ad138 = ad141 := (by injection e141)
             replace hx141_0 := (HB.out.cell (block_lt_of_cell? w _ hx141_0)).trans hx141_0
             replace hx141_1 := (HB.out.cell (block_lt_of_cell? w _ hx141_1)).trans hx141_1
             replace hx141_2 := (HB.out.cell (block_lt_of_cell? w _ hx141_2)).trans hx141_2
             replace hx141_3 := (HB.out.cell (block_lt_of_cell? w _ hx141_3)).trans hx141_3
             replace p141 := eq_true p141
             replace q141 := eq_true q141
             have p146 : 0 ≤ (x5_1 : Int) := of_decide_eq_true (by (with_reducible assumption))
             have q146 : x5_1 < (l1.length : Int) := of_decide_eq_true (by (with_reducible assumption))
             obtain ⟨ad146, e146, hx146_0, hx146_1, hx146_2, hx146_3⟩ := at_T58 HR1.out x5_1 p146 q146
             have hw146_3 := hx146_3
             have hw146_2 := hx146_2
             have hw146_1 := hx146_1
             have hw146_0 := hx146_0
             obtain rfl : ad138 = ad146 := (by injection e146)
             replace hx146_0 := (HB.out.cell (block_lt_of_cell? w _ hx146_0)).trans hx146_0
             replace hx146_1 := (HB.out.cell (block_lt_of_cell? w _ hx146_1)).trans hx146_1
             replace hx146_2 := (HB.out.cell (block_lt_of_cell? w _ hx146_2)).trans hx146_2
             replace hx146_3 := (HB.out.cell (block_lt_of_cell? w _ hx146_3)).trans hx146_3
             replace p146 := eq_true p146
             replace q146 := eq_true q146
             refine start_ (n := 38) (S := fun w' => w'.cell? (ad138.add ((x5_1).toNat * 4)) = some (.int .i64 ((rd_T58 l1 x5_1).f0)) ∧ w'.cell? ⟨(ad138.add ((x5_1).toNat * 4)).block, (ad138.add ((x5_1).toNat * 4)).off + 1, none⟩ = some (.int .i64 ((rd_T58 l1 x5_1).f1)) ∧ w'.cell? ⟨(ad138.add ((x5_1).toNat * 4)).block, (ad138.add ((x5_1).toNat * 4)).off + 2, none⟩ = some (.int .i64 ((rd_T58 l1 x5_1).f2)) ∧ w'.cell? ⟨(ad138.add ((x5_1).toNat * 4)).block, (ad138.add ((x5_1).toNat * 4)).off + 3, none⟩ = some (.int .i64 ((rd_T58 l1 x5_1).f3)) ∧ w'.cell? (ad138.add ((x5_1).toNat * 4)) = some (.int .i64 ((rd_T58 l1 x5_1).f0)) ∧ w'.cell? ⟨(ad138.add ((x5_1).toNat * 4)).block, (ad138.add ((x5_1).toNat * 4)).off + 1, none⟩ = some (.int .i64 ((rd_T58 l1 x5_1).f1)) ∧ w'.cell? ⟨(ad138.add ((x5_1).toNat * 4)).block, (ad138.add ((x5_1).toNat * 4)).off + 2, none⟩ = some (.int .i64 ((rd_T58 l1 x5_1).f2)) ∧ w'.cell? ⟨(ad138.add ((x5_1).toNat * 4)).block, (ad138.add ((x5_1).toNat * 4)).off + 3, none⟩ = some (.int .i64 ((rd_T58 l1 x5_1).f3)) ∧ w'.cell? (ad138.add (((ji11)).toNat * 4)) = some (.int .i64 ((rd_T58 l1 (ji11)).f0)) ∧ w'.cell? ⟨(ad138.add (((ji11)).toNat * 4)).block, (ad138.add (((ji11)).toNat * 4)).off + 1, none⟩ = some (.int .i64 ((rd_T58 l1 (ji11)).f1)) ∧ w'.cell? ⟨(ad138.add (((ji11)).toNat * 4)).block, (ad138.add (((ji11)).toNat * 4)).off + 2, none⟩ = some (.int .i64 ((rd_T58 l1 (ji11)).f2)) ∧ w'.cell? ⟨(ad138.add (((ji11)).toNat * 4)).block, (ad138.add (((ji11)).toNat * 4)).off + 3, none⟩ = some (.int .i64 ((rd_T58 l1 (ji11)).f3)) ∧ w'.cell? (ad138.add ((x5_1).toNat * 4)) = some (.int .i64 ((rd_T58 l1 x5_1).f0)) ∧ w'.cell? ⟨(ad138.add ((x5_1).toNat * 4)).block, (ad138.add ((x5_1).toNat * 4)).off + 1, none⟩ = some (.int .i64 ((rd_T58 l1 x5_1).f1)) ∧ w'.cell? ⟨(ad138.add ((x5_1).toNat * 4)).block, (ad138.add ((x5_1).toNat * 4)).off + 2, none⟩ = some (.int .i64 ((rd_T58 l1 x5_1).f2)) ∧ w'.cell? ⟨(ad138.add ((x5_1).toNat * 4)).block, (ad138.add ((x5_1).toNat * 4)).off + 3, none⟩ = some (.int .i64 ((rd_T58 l1 x5_1).f3))) (ds := []) #[false, false, false, false, false, false, false, false, false, false, false, false, false, false, false, false, false, false, false, false, false, false, false, false, false, false, false, false, false, false, false, false, false, false, false, false, false, false] (by kernel_rfl) rfl rfl ⟨((HB.out.cell (block_lt_of_cell? w _ hw138_0)).trans hw138_0), ((HB.out.cell (block_lt_of_cell? w _ hw138_1)).trans hw138_1), ((HB.out.cell (block_lt_of_cell? w _ hw138_2)).trans hw138_2), ((HB.out.cell (block_lt_of_cell? w _ hw138_3)).trans hw138_3), ((HB.out.cell (block_lt_of_cell? w _ hw140_0)).trans hw140_0), ((HB.out.cell (block_lt_of_cell? w _ hw140_1)).trans hw140_1), ((HB.out.cell (block_lt_of_cell? w _ hw140_2)).trans hw140_2), ((HB.out.cell (block_lt_of_cell? w _ hw140_3)).trans hw140_3), ((HB.out.cell (block_lt_of_cell? w _ hw141_0)).trans hw141_0), ((HB.out.cell (block_lt_of_cell? w _ hw141_1)).trans hw141_1), ((HB.out.cell (block_lt_of_cell? w _ hw141_2)).trans hw141_2), ((HB.out.cell (block_lt_of_cell? w _ hw141_3)).trans hw141_3), ((HB.out.cell (block_lt_of_cell? w _ hw146_0)).trans hw146_0), ((HB.out.cell (block_lt_of_cell? w _ hw146_1)).trans hw146_1), ((HB.out.cell (block_lt_of_cell? w _ hw146_2)).trans hw146_2), ((HB.out.cell (block_lt_of_cell? w _ hw146_3)).trans hw146_3)⟩ (fun hHeld => ?_); refine with_tabW spec_EventsOk.tab6 spec_EventsOk.bits6 (fun HT_ HW_ => ?_)
             generalize wr.drew = w25 at HB hx138_0 hx138_1 hx138_2 hx138_3 hx140_0 hx140_1 hx140_2 hx140_3 hx141_0 hx141_1 hx141_2 hx141_3 hx146_0 hx146_1 hx146_2 hx146_3 hHeld ⊢
             refine puY (i := 0) 15 (bq 1 38) HT_ ?_
             refine puY (i := 1) 16 (bq 2 38) HT_ ?_
             refine puY (i := 2) 17 (bq 3 38) HT_ ?_
             refine puY (i := 3) 18 (bq 4 38) HT_ ?_
             refine take_ (i := 4) (N := some 19) (v := ?_) (a' := ?_) (bq 5 38) rfl rfl (take_ofW HT_.out HW_.out (by kernel_rfl)) (fun _ _ _ h => h) (Or.inl ⟨by rfl, ?_⟩) hHeld ?_ ?_
             rotate_left
             ·rintro w' ⟨s0, s1, s2, s3, s4, s5, s6, s7, s8, s9, s10, s11, s12, s13, s14, s15⟩
              go_simp
              with_reducible rfl
             rotate_left
             ·simp only [Act.put, stA, stZ, stS, i64_w, i32_w]
              rfl
             refine onY (i := 5) 20 (bq 6 38) HT_ (fun K hK => ?_)
             refine goes_ Try.func76 (by kernel_rfl) rfl #[.slice A0 l0.length c0, .agg #[.int .i64 ((rd_T58 l1 x5_1).f0), .int .i64 ((rd_T58 l1 x5_1).f1), .int .i64 ((rd_T58 l1 x5_1).f2), .int .i64 ((rd_T58 l1 x5_1).f3)]] (by rfl) rfl rfl (by (try simp only [map_toArray, map_cons, map_nil]); rfl) ?_
             with_reducible refine (spec_l6Event.calls _ _ l0 ((rd_T58 l1 x5_1).f0) ((rd_T58 l1 x5_1).f1) ((rd_T58 l1 x5_1).f2) ((rd_T58 l1 x5_1).f3) true _ ?side1 ?side2 A8.out).mono ?_
             (case side1 => repeat (exact (C_below HR0.out HB.out)))
             (case side2 => exact HC0.out)
             rintro e w26 ⟨rfl, hb⟩
             refine ⟨_, rfl, ?_⟩
             have n0_ := Aside0.mk (below_step (by repeat ((with_reducible exact HB.out))) hb)
             clear HB
             have HB := n0_
             clear n0_
             (try clear hb)
             have q27 : (x5_1 : Int) ≤ ((l1.length : Int) : Int) := of_decide_eq_true (by (with_reducible assumption))
             obtain ⟨i027, hi027, _, hsz27, _⟩ := info_parts info58
             have hroom27 : l1.length ≤ c1 := HC1.out
             have hC27 : Kd.C k58 _ (some ad138) l1.length l1 := HR1.out
             have hcut27 := cut_to (P := Try.prog) 53 58 .i64 Try.underlying53 hi027 (some ad138) l1.length c1 x5_1 (of_decide_eq_true (by (with_reducible assumption))) q27 hroom27
             have hr27 := Kd.C_take (m := (x5_1 : Int).toNat) hC27 (by omega)
             have hy27 : y142.length = (x5_1 : Int).toNat := (by rw [Ny142.out, length_take]; omega)
             rw [← Ny142.out] at hr27
             rw [← hy27] at hcut27
             have HR145 := Aside0.mk hr27
             have HC145 := Aside0.mk (show y142.length ≤ c1 from by omega)
             clear hr27 hC27 hroom27 hi027 hsz27
             have KY27 := Aside0.mk hy27
             clear hy27
             replace q27 := eq_true q27
             refine hK.out _ _ ⟨((HB.out.cell (block_lt_of_cell? w _ hw138_0)).trans hw138_0), ((HB.out.cell (block_lt_of_cell? w _ hw138_1)).trans hw138_1), ((HB.out.cell (block_lt_of_cell? w _ hw138_2)).trans hw138_2), ((HB.out.cell (block_lt_of_cell? w _ hw138_3)).trans hw138_3), ((HB.out.cell (block_lt_of_cell? w _ hw140_0)).trans hw140_0), ((HB.out.cell (block_lt_of_cell? w _ hw140_1)).trans hw140_1), ((HB.out.cell (block_lt_of_cell? w _ hw140_2)).trans hw140_2), ((HB.out.cell (block_lt_of_cell? w _ hw140_3)).trans hw140_3), ((HB.out.cell (block_lt_of_cell? w _ hw141_0)).trans hw141_0), ((HB.out.cell (block_lt_of_cell? w _ hw141_1)).trans hw141_1), ((HB.out.cell (block_lt_of_cell? w _ hw141_2)).trans hw141_2), ((HB.out.cell (block_lt_of_cell? w _ hw141_3)).trans hw141_3), ((HB.out.cell (block_lt_of_cell? w _ hw146_0)).trans hw146_0), ((HB.out.cell (block_lt_of_cell? w _ hw146_1)).trans hw146_1), ((HB.out.cell (block_lt_of_cell? w _ hw146_2)).trans hw146_2), ((HB.out.cell (block_lt_of_cell? w _ hw146_3)).trans hw146_3)⟩ (fun hHeld => ?_)
             clear hK K
             refine norm_ (a' := ?_) ?_ ?_
             rotate_left
             ·show Act.put _ (some 20) _ = _
              simp only [Act.put, stA, stZ, stS, i64_w, i32_w]
              rfl
             refine puY (i := 6) 21 (bq 7 38) HT_ ?_
             refine puY (i := 7) 22 (bq 8 38) HT_ ?_
             refine puY (i := 8) 23 (bq 9 38) HT_ ?_
             refine puY (i := 9) 24 (bq 10 38) HT_ ?_
             refine puY (i := 10) 25 (bq 11 38) HT_ ?_
             refine puY (i := 11) 26 (bq 12 38) HT_ ?_
             refine puY (i := 12) 27 (bq 13 38) HT_ ?_
             refine puY (i := 13) 28 (bq 14 38) HT_ ?_
             refine puY (i := 14) 29 (bq 15 38) HT_ ?_
             refine puY (i := 16) 31 #[true, true, true, true, true, true, true, true, true, true, true, true, true, true, true, false, true, false, false, false, false, false, false, false, false, false, false, false, false, false, false, false, false, false, false, false, false, false] HT_ ?_
             refine puY (i := 17) 32 #[true, true, true, true, true, true, true, true, true, true, true, true, true, true, true, false, true, true, false, false, false, false, false, false, false, false, false, false, false, false, false, false, false, false, false, false, false, false] HT_ ?_
             refine puY (i := 18) 33 #[true, true, true, true, true, true, true, true, true, true, true, true, true, true, true, false, true, true, true, false, false, false, false, false, false, false, false, false, false, false, false, false, false, false, false, false, false, false] HT_ ?_
             refine puY (i := 19) 34 #[true, true, true, true, true, true, true, true, true, true, true, true, true, true, true, false, true, true, true, true, false, false, false, false, false, false, false, false, false, false, false, false, false, false, false, false, false, false] HT_ ?_
             refine puY (i := 20) 35 #[true, true, true, true, true, true, true, true, true, true, true, true, true, true, true, false, true, true, true, true, true, false, false, false, false, false, false, false, false, false, false, false, false, false, false, false, false, false] HT_ ?_
             refine take_ (i := 15) (N := some 30) (v := ?_) (a' := ?_) (bq 21 38) rfl rfl (take_ofW HT_.out HW_.out (by kernel_rfl)) (fun _ _ _ h => h) (Or.inl ⟨by rfl, ?_⟩) hHeld ?_ ?_
             rotate_left
             ·rintro w' ⟨s0, s1, s2, s3, s4, s5, s6, s7, s8, s9, s10, s11, s12, s13, s14, s15⟩
              go_simp
              with_reducible rfl
             rotate_left
             ·simp only [Act.put, stA, stZ, stS, i64_w, i32_w]
              rfl
             refine take_ (i := 21) (N := some 36) (v := ?_) (a' := ?_) (bq 22 38) rfl rfl (take_ofW HT_.out HW_.out (by kernel_rfl)) (fun _ _ _ h => h) (Or.inl ⟨by rfl, ?_⟩) hHeld ?_ ?_
             rotate_left
             ·rintro w' ⟨s0, s1, s2, s3, s4, s5, s6, s7, s8, s9, s10, s11, s12, s13, s14, s15⟩
              go_simp
              with_reducible rfl
             rotate_left
             ·simp only [Act.put, stA, stZ, stS, i64_w, i32_w]
              rfl
             refine puY (i := 22) 37 (bq 23 38) HT_ ?_
             refine puY (i := 23) 38 (bq 24 38) HT_ ?_
             refine puY (i := 24) 39 (bq 25 38) HT_ ?_
             refine puY (i := 25) 40 (bq 26 38) HT_ ?_
             refine puY (i := 26) 41 (bq 27 38) HT_ ?_
             refine puY (i := 27) 42 (bq 28 38) HT_ ?_
             refine puY (i := 28) 43 (bq 29 38) HT_ ?_
             refine puY (i := 29) 44 (bq 30 38) HT_ ?_
             refine puY (i := 30) 45 (bq 31 38) HT_ ?_
             refine puY (i := 31) 46 (bq 32 38) HT_ ?_
             refine puY (i := 32) 47 (bq 33 38) HT_ ?_
             refine puY (i := 33) 48 (bq 34 38) HT_ ?_
             refine take_ (i := 34) (N := some 49) (v := ?_) (a' := ?_) (bq 35 38) rfl rfl (take_ofW HT_.out HW_.out (by kernel_rfl)) (fun _ _ _ h => h) (Or.inl ⟨by rfl, ?_⟩) hHeld ?_ ?_
             rotate_left
             ·rintro w' ⟨s0, s1, s2, s3, s4, s5, s6, s7, s8, s9, s10, s11, s12, s13, s14, s15⟩
              go_simp
              with_reducible rfl
             rotate_left
             ·simp only [Act.put, stA, stZ, stS, i64_w, i32_w]
              rfl
             refine onY (i := 35) 50 (bq 36 38) HT_ (fun K hK => ?_)
             refine goes_ Try.func77 (by kernel_rfl) rfl #[.slice A0 l0.length c0, .slice (some ad138) y142.length c1, .int .i64 ((rd_T58 l1 x5_1).f0)] (by rfl) rfl rfl (by (try simp only [map_toArray, map_cons, map_nil]); rfl) ?_
             with_reducible refine (spec_l6First.calls k1 _ _ l0 _ _ y142 ((rd_T58 l1 x5_1).f0) t147 _ ?side1 ?side2 ?side3 ?side4 A19.out).mono ?_
             (case side1 => repeat (exact (C_below HR0.out HB.out)))
             (case side2 => exact HC0.out)
             (case side3 => repeat (exact (C_below HR145.out HB.out)))
             (case side4 => exact HC145.out)
             rintro e w28 ⟨rfl, hb⟩
             refine ⟨_, rfl, ?_⟩
             have n0_ := Aside0.mk (below_step (by repeat ((with_reducible exact HB.out))) hb)
             clear HB
             have HB := n0_
             clear n0_
             (try clear hb)
             refine hK.out _ _ ⟨((HB.out.cell (block_lt_of_cell? w _ hw138_0)).trans hw138_0), ((HB.out.cell (block_lt_of_cell? w _ hw138_1)).trans hw138_1), ((HB.out.cell (block_lt_of_cell? w _ hw138_2)).trans hw138_2), ((HB.out.cell (block_lt_of_cell? w _ hw138_3)).trans hw138_3), ((HB.out.cell (block_lt_of_cell? w _ hw140_0)).trans hw140_0), ((HB.out.cell (block_lt_of_cell? w _ hw140_1)).trans hw140_1), ((HB.out.cell (block_lt_of_cell? w _ hw140_2)).trans hw140_2), ((HB.out.cell (block_lt_of_cell? w _ hw140_3)).trans hw140_3), ((HB.out.cell (block_lt_of_cell? w _ hw141_0)).trans hw141_0), ((HB.out.cell (block_lt_of_cell? w _ hw141_1)).trans hw141_1), ((HB.out.cell (block_lt_of_cell? w _ hw141_2)).trans hw141_2), ((HB.out.cell (block_lt_of_cell? w _ hw141_3)).trans hw141_3), ((HB.out.cell (block_lt_of_cell? w _ hw146_0)).trans hw146_0), ((HB.out.cell (block_lt_of_cell? w _ hw146_1)).trans hw146_1), ((HB.out.cell (block_lt_of_cell? w _ hw146_2)).trans hw146_2), ((HB.out.cell (block_lt_of_cell? w _ hw146_3)).trans hw146_3)⟩ (fun hHeld => ?_)
             clear hK K
             refine norm_ (a' := ?_) ?_ ?_
             rotate_left
             ·show Act.put _ (some 50) _ = _
              simp only [Act.put, stA, stZ, stS, i64_w, i32_w]
              rfl
             refine puY (i := 36) 51 (bq 37 38) HT_ ?_
             refine puY (i := 37) 52 (bq 38 38) HT_ ?_
             refine done_ (done_of HT_.out (by kernel_rfl)) ?_
             try go_wp2
             go_roundg k1
             case measure => have := HK1.out; omega
             case rel => exact ⟨(wrap64 (x5_1 + 1)), (by rfl), H', ⟨by have := HK1.out; omega⟩, ⟨by repeat ((with_reducible exact HB.out))⟩⟩
           ·rw [if_neg c18] at H
            exact absurd H (by simp)
         ·rw [if_neg c13] at H
          exact absurd H (by simp)
        ·rw [if_neg c12] at H
         exact absurd H (by simp)
       ·rw [if_neg c10] at H
        have c10b0 : decide (0 < x5_1) = false := decide_eq_false c10
        clear c10
        have c29b0 := eq_true (of_decide_eq_true (by (with_reducible assumption)) : 0 ≤ x5_1)
        by_cases c30 : x5_1 ≤ (l1.length : Int)
        ·rw [if_pos c30] at H
         have c30b0 := eq_true c30
         have c30b1 : decide (x5_1 ≤ (l1.length : Int)) = true := decide_eq_true c30
         clear c30
         obtain ⟨y148, hy148⟩ : ∃ y_ : List (S58), y_ = (l1.take (x5_1 : Int).toNat) := ⟨_, rfl⟩
         replace H : ((spec_l6First.f k1 l0 y148 ((rd_T58 l1 x5_1).f0)).bind fun t153 => (if t153 ≥ 0 then (some false) else (spec_EventsOk.l0 k1 l0 l1 (wrap64 (x5_1 + 1))))) = some r := by (rw [hy148]; with_reducible exact H)
         have Ny148 := Aside0.mk hy148
         clear hy148
         replace H := bind_eq_some_iff.mp H
         obtain ⟨t153, A310, H⟩ := H
         replace H : (if t153 ≥ 0 then (some false) else (spec_EventsOk.l0 k1 l0 l1 (wrap64 (x5_1 + 1)))) = some r := H
         have A31 := Aside0.mk A310
         clear A310
         by_cases c32 : t153 ≥ 0
         ·rw [if_pos c32] at H
          have c32b0 : decide (0 ≤ t153) = true := decide_eq_true c32
          clear c32
          obtain rfl := Option.some.inj H
          try go_wp2
          have n0_ := Aside0.mk (bw1 HB.out)
          clear HB
          have HB := n0_
          clear n0_
          have p138 : 0 ≤ (x5_1 : Int) := of_decide_eq_true (by (with_reducible assumption))
          have q138 : x5_1 < (l1.length : Int) := of_decide_eq_true (by (with_reducible assumption))
          obtain ⟨ad138, e138, hx138_0, hx138_1, hx138_2, hx138_3⟩ := at_T58 HR1.out x5_1 p138 q138
          have hw138_3 := hx138_3
          have hw138_2 := hx138_2
          have hw138_1 := hx138_1
          have hw138_0 := hx138_0
          cases e138
          replace hx138_0 := (HB.out.cell (block_lt_of_cell? w _ hx138_0)).trans hx138_0
          replace hx138_1 := (HB.out.cell (block_lt_of_cell? w _ hx138_1)).trans hx138_1
          replace hx138_2 := (HB.out.cell (block_lt_of_cell? w _ hx138_2)).trans hx138_2
          replace hx138_3 := (HB.out.cell (block_lt_of_cell? w _ hx138_3)).trans hx138_3
          replace p138 := eq_true p138
          replace q138 := eq_true q138
          have p152 : 0 ≤ (x5_1 : Int) := of_decide_eq_true (by (with_reducible assumption))
          have q152 : x5_1 < (l1.length : Int) := of_decide_eq_true (by (with_reducible assumption))
          obtain ⟨ad152, e152, hx152_0, hx152_1, hx152_2, hx152_3⟩ := at_T58 HR1.out x5_1 p152 q152
          have hw152_3 := hx152_3
          have hw152_2 := hx152_2
          have hw152_1 := hx152_1
          have hw152_0 := hx152_0
          obtain rfl : ad138 = ad152 := (by injection e152)
          replace hx152_0 := (HB.out.cell (block_lt_of_cell? w _ hx152_0)).trans hx152_0
          replace hx152_1 := (HB.out.cell (block_lt_of_cell? w _ hx152_1)).trans hx152_1
          replace hx152_2 := (HB.out.cell (block_lt_of_cell? w _ hx152_2)).trans hx152_2
          replace hx152_3 := (HB.out.cell (block_lt_of_cell? w _ hx152_3)).trans hx152_3
          replace p152 := eq_true p152
          replace q152 := eq_true q152
          refine start_ (n := 38) (S := fun w' => w'.cell? (ad138.add ((x5_1).toNat * 4)) = some (.int .i64 ((rd_T58 l1 x5_1).f0)) ∧ w'.cell? ⟨(ad138.add ((x5_1).toNat * 4)).block, (ad138.add ((x5_1).toNat * 4)).off + 1, none⟩ = some (.int .i64 ((rd_T58 l1 x5_1).f1)) ∧ w'.cell? ⟨(ad138.add ((x5_1).toNat * 4)).block, (ad138.add ((x5_1).toNat * 4)).off + 2, none⟩ = some (.int .i64 ((rd_T58 l1 x5_1).f2)) ∧ w'.cell? ⟨(ad138.add ((x5_1).toNat * 4)).block, (ad138.add ((x5_1).toNat * 4)).off + 3, none⟩ = some (.int .i64 ((rd_T58 l1 x5_1).f3)) ∧ w'.cell? (ad138.add ((x5_1).toNat * 4)) = some (.int .i64 ((rd_T58 l1 x5_1).f0)) ∧ w'.cell? ⟨(ad138.add ((x5_1).toNat * 4)).block, (ad138.add ((x5_1).toNat * 4)).off + 1, none⟩ = some (.int .i64 ((rd_T58 l1 x5_1).f1)) ∧ w'.cell? ⟨(ad138.add ((x5_1).toNat * 4)).block, (ad138.add ((x5_1).toNat * 4)).off + 2, none⟩ = some (.int .i64 ((rd_T58 l1 x5_1).f2)) ∧ w'.cell? ⟨(ad138.add ((x5_1).toNat * 4)).block, (ad138.add ((x5_1).toNat * 4)).off + 3, none⟩ = some (.int .i64 ((rd_T58 l1 x5_1).f3))) (ds := []) #[false, false, false, false, false, false, false, false, false, false, false, false, false, false, false, false, false, false, false, false, false, false, false, false, false, false, false, false, false, false, false, false, false, false, false, false, false, false] (by kernel_rfl) rfl rfl ⟨((HB.out.cell (block_lt_of_cell? w _ hw138_0)).trans hw138_0), ((HB.out.cell (block_lt_of_cell? w _ hw138_1)).trans hw138_1), ((HB.out.cell (block_lt_of_cell? w _ hw138_2)).trans hw138_2), ((HB.out.cell (block_lt_of_cell? w _ hw138_3)).trans hw138_3), ((HB.out.cell (block_lt_of_cell? w _ hw152_0)).trans hw152_0), ((HB.out.cell (block_lt_of_cell? w _ hw152_1)).trans hw152_1), ((HB.out.cell (block_lt_of_cell? w _ hw152_2)).trans hw152_2), ((HB.out.cell (block_lt_of_cell? w _ hw152_3)).trans hw152_3)⟩ (fun hHeld => ?_); refine with_tabW spec_EventsOk.tab6 spec_EventsOk.bits6 (fun HT_ HW_ => ?_)
          generalize wr.drew = w33 at HB hx138_0 hx138_1 hx138_2 hx138_3 hx152_0 hx152_1 hx152_2 hx152_3 hHeld ⊢
          refine puY (i := 0) 15 (bq 1 38) HT_ ?_
          refine puY (i := 1) 16 (bq 2 38) HT_ ?_
          refine puY (i := 2) 17 (bq 3 38) HT_ ?_
          refine puY (i := 3) 18 (bq 4 38) HT_ ?_
          refine take_ (i := 4) (N := some 19) (v := ?_) (a' := ?_) (bq 5 38) rfl rfl (take_ofW HT_.out HW_.out (by kernel_rfl)) (fun _ _ _ h => h) (Or.inl ⟨by rfl, ?_⟩) hHeld ?_ ?_
          rotate_left
          ·rintro w' ⟨s0, s1, s2, s3, s4, s5, s6, s7⟩
           go_simp
           with_reducible rfl
          rotate_left
          ·simp only [Act.put, stA, stZ, stS, i64_w, i32_w]
           rfl
          refine onY (i := 5) 20 (bq 6 38) HT_ (fun K hK => ?_)
          refine goes_ Try.func76 (by kernel_rfl) rfl #[.slice A0 l0.length c0, .agg #[.int .i64 ((rd_T58 l1 x5_1).f0), .int .i64 ((rd_T58 l1 x5_1).f1), .int .i64 ((rd_T58 l1 x5_1).f2), .int .i64 ((rd_T58 l1 x5_1).f3)]] (by rfl) rfl rfl (by (try simp only [map_toArray, map_cons, map_nil]); rfl) ?_
          with_reducible refine (spec_l6Event.calls _ _ l0 ((rd_T58 l1 x5_1).f0) ((rd_T58 l1 x5_1).f1) ((rd_T58 l1 x5_1).f2) ((rd_T58 l1 x5_1).f3) true _ ?side1 ?side2 A8.out).mono ?_
          (case side1 => repeat (exact (C_below HR0.out HB.out)))
          (case side2 => exact HC0.out)
          rintro e w34 ⟨rfl, hb⟩
          refine ⟨_, rfl, ?_⟩
          have n0_ := Aside0.mk (below_step (by repeat ((with_reducible exact HB.out))) hb)
          clear HB
          have HB := n0_
          clear n0_
          (try clear hb)
          have q35 : (x5_1 : Int) ≤ ((l1.length : Int) : Int) := of_decide_eq_true (by (with_reducible assumption))
          obtain ⟨i035, hi035, _, hsz35, _⟩ := info_parts info58
          have hroom35 : l1.length ≤ c1 := HC1.out
          have hC35 : Kd.C k58 _ (some ad138) l1.length l1 := HR1.out
          have hcut35 := cut_to (P := Try.prog) 53 58 .i64 Try.underlying53 hi035 (some ad138) l1.length c1 x5_1 (of_decide_eq_true (by (with_reducible assumption))) q35 hroom35
          have hr35 := Kd.C_take (m := (x5_1 : Int).toNat) hC35 (by omega)
          have hy35 : y148.length = (x5_1 : Int).toNat := (by rw [Ny148.out, length_take]; omega)
          rw [← Ny148.out] at hr35
          rw [← hy35] at hcut35
          have HR151 := Aside0.mk hr35
          have HC151 := Aside0.mk (show y148.length ≤ c1 from by omega)
          clear hr35 hC35 hroom35 hi035 hsz35
          have KY35 := Aside0.mk hy35
          clear hy35
          replace q35 := eq_true q35
          refine hK.out _ _ ⟨((HB.out.cell (block_lt_of_cell? w _ hw138_0)).trans hw138_0), ((HB.out.cell (block_lt_of_cell? w _ hw138_1)).trans hw138_1), ((HB.out.cell (block_lt_of_cell? w _ hw138_2)).trans hw138_2), ((HB.out.cell (block_lt_of_cell? w _ hw138_3)).trans hw138_3), ((HB.out.cell (block_lt_of_cell? w _ hw152_0)).trans hw152_0), ((HB.out.cell (block_lt_of_cell? w _ hw152_1)).trans hw152_1), ((HB.out.cell (block_lt_of_cell? w _ hw152_2)).trans hw152_2), ((HB.out.cell (block_lt_of_cell? w _ hw152_3)).trans hw152_3)⟩ (fun hHeld => ?_)
          clear hK K
          refine norm_ (a' := ?_) ?_ ?_
          rotate_left
          ·show Act.put _ (some 20) _ = _
           simp only [Act.put, stA, stZ, stS, i64_w, i32_w]
           rfl
          refine puY (i := 6) 21 (bq 7 38) HT_ ?_
          refine puY (i := 7) 22 (bq 8 38) HT_ ?_
          refine puY (i := 8) 23 (bq 9 38) HT_ ?_
          refine puY (i := 9) 24 (bq 10 38) HT_ ?_
          refine puY (i := 10) 25 (bq 11 38) HT_ ?_
          refine puN (i := 11) 26 (bq 12 38) HT_ ?_
          refine puN (i := 12) 27 (bq 13 38) HT_ ?_
          refine puN (i := 13) 28 (bq 14 38) HT_ ?_
          refine puN (i := 14) 29 (bq 15 38) HT_ ?_
          refine puN (i := 15) 30 (bq 16 38) HT_ ?_
          refine puN (i := 16) 31 (bq 17 38) HT_ ?_
          refine puN (i := 17) 32 (bq 18 38) HT_ ?_
          refine puN (i := 18) 33 (bq 19 38) HT_ ?_
          refine puN (i := 19) 34 (bq 20 38) HT_ ?_
          refine puN (i := 20) 35 (bq 21 38) HT_ ?_
          refine puN (i := 21) 36 (bq 22 38) HT_ ?_
          refine puN (i := 22) 37 (bq 23 38) HT_ ?_
          refine puY (i := 23) 38 (bq 24 38) HT_ ?_
          refine puY (i := 24) 39 (bq 25 38) HT_ ?_
          refine puY (i := 25) 40 (bq 26 38) HT_ ?_
          refine puY (i := 26) 41 (bq 27 38) HT_ ?_
          refine puY (i := 27) 42 (bq 28 38) HT_ ?_
          refine puY (i := 28) 43 (bq 29 38) HT_ ?_
          refine puY (i := 29) 44 (bq 30 38) HT_ ?_
          refine puY (i := 30) 45 (bq 31 38) HT_ ?_
          refine puY (i := 31) 46 (bq 32 38) HT_ ?_
          refine puY (i := 32) 47 (bq 33 38) HT_ ?_
          refine puY (i := 33) 48 (bq 34 38) HT_ ?_
          refine take_ (i := 34) (N := some 49) (v := ?_) (a' := ?_) (bq 35 38) rfl rfl (take_ofW HT_.out HW_.out (by kernel_rfl)) (fun _ _ _ h => h) (Or.inl ⟨by rfl, ?_⟩) hHeld ?_ ?_
          rotate_left
          ·rintro w' ⟨s0, s1, s2, s3, s4, s5, s6, s7⟩
           go_simp
           with_reducible rfl
          rotate_left
          ·simp only [Act.put, stA, stZ, stS, i64_w, i32_w]
           rfl
          refine onY (i := 35) 50 (bq 36 38) HT_ (fun K hK => ?_)
          refine goes_ Try.func77 (by kernel_rfl) rfl #[.slice A0 l0.length c0, .slice (some ad138) y148.length c1, .int .i64 ((rd_T58 l1 x5_1).f0)] (by rfl) rfl rfl (by (try simp only [map_toArray, map_cons, map_nil]); rfl) ?_
          with_reducible refine (spec_l6First.calls k1 _ _ l0 _ _ y148 ((rd_T58 l1 x5_1).f0) t153 _ ?side1 ?side2 ?side3 ?side4 A31.out).mono ?_
          (case side1 => repeat (exact (C_below HR0.out HB.out)))
          (case side2 => exact HC0.out)
          (case side3 => repeat (exact (C_below HR151.out HB.out)))
          (case side4 => exact HC151.out)
          rintro e w36 ⟨rfl, hb⟩
          refine ⟨_, rfl, ?_⟩
          have n0_ := Aside0.mk (below_step (by repeat ((with_reducible exact HB.out))) hb)
          clear HB
          have HB := n0_
          clear n0_
          (try clear hb)
          refine hK.out _ _ ⟨((HB.out.cell (block_lt_of_cell? w _ hw138_0)).trans hw138_0), ((HB.out.cell (block_lt_of_cell? w _ hw138_1)).trans hw138_1), ((HB.out.cell (block_lt_of_cell? w _ hw138_2)).trans hw138_2), ((HB.out.cell (block_lt_of_cell? w _ hw138_3)).trans hw138_3), ((HB.out.cell (block_lt_of_cell? w _ hw152_0)).trans hw152_0), ((HB.out.cell (block_lt_of_cell? w _ hw152_1)).trans hw152_1), ((HB.out.cell (block_lt_of_cell? w _ hw152_2)).trans hw152_2), ((HB.out.cell (block_lt_of_cell? w _ hw152_3)).trans hw152_3)⟩ (fun hHeld => ?_)
          clear hK K
          refine norm_ (a' := ?_) ?_ ?_
          rotate_left
          ·show Act.put _ (some 50) _ = _
           simp only [Act.put, stA, stZ, stS, i64_w, i32_w]
           rfl
          refine puY (i := 36) 51 (bq 37 38) HT_ ?_
          refine puY (i := 37) 52 (bq 38 38) HT_ ?_
          refine done_ (done_of HT_.out (by kernel_rfl)) ?_
          try go_wp2
          go_ret
          exact ⟨by rfl, by repeat ((with_reducible exact HB.out))⟩
         ·rw [if_neg c32] at H
          have c32b0 : decide (0 ≤ t153) = false := decide_eq_false c32
          clear c32
          have H' := Aside0.mk H
          clear H
          try go_wp2
          have n0_ := Aside0.mk (bw1 HB.out)
          clear HB
          have HB := n0_
          clear n0_
          have p138 : 0 ≤ (x5_1 : Int) := of_decide_eq_true (by (with_reducible assumption))
          have q138 : x5_1 < (l1.length : Int) := of_decide_eq_true (by (with_reducible assumption))
          obtain ⟨ad138, e138, hx138_0, hx138_1, hx138_2, hx138_3⟩ := at_T58 HR1.out x5_1 p138 q138
          have hw138_3 := hx138_3
          have hw138_2 := hx138_2
          have hw138_1 := hx138_1
          have hw138_0 := hx138_0
          cases e138
          replace hx138_0 := (HB.out.cell (block_lt_of_cell? w _ hx138_0)).trans hx138_0
          replace hx138_1 := (HB.out.cell (block_lt_of_cell? w _ hx138_1)).trans hx138_1
          replace hx138_2 := (HB.out.cell (block_lt_of_cell? w _ hx138_2)).trans hx138_2
          replace hx138_3 := (HB.out.cell (block_lt_of_cell? w _ hx138_3)).trans hx138_3
          replace p138 := eq_true p138
          replace q138 := eq_true q138
          have p152 : 0 ≤ (x5_1 : Int) := of_decide_eq_true (by (with_reducible assumption))
          have q152 : x5_1 < (l1.length : Int) := of_decide_eq_true (by (with_reducible assumption))
          obtain ⟨ad152, e152, hx152_0, hx152_1, hx152_2, hx152_3⟩ := at_T58 HR1.out x5_1 p152 q152
          have hw152_3 := hx152_3
          have hw152_2 := hx152_2
          have hw152_1 := hx152_1
          have hw152_0 := hx152_0
          obtain rfl : ad138 = ad152 := (by injection e152)
          replace hx152_0 := (HB.out.cell (block_lt_of_cell? w _ hx152_0)).trans hx152_0
          replace hx152_1 := (HB.out.cell (block_lt_of_cell? w _ hx152_1)).trans hx152_1
          replace hx152_2 := (HB.out.cell (block_lt_of_cell? w _ hx152_2)).trans hx152_2
          replace hx152_3 := (HB.out.cell (block_lt_of_cell? w _ hx152_3)).trans hx152_3
          replace p152 := eq_true p152
          replace q152 := eq_true q152
          refine start_ (n := 38) (S := fun w' => w'.cell? (ad138.add ((x5_1).toNat * 4)) = some (.int .i64 ((rd_T58 l1 x5_1).f0)) ∧ w'.cell? ⟨(ad138.add ((x5_1).toNat * 4)).block, (ad138.add ((x5_1).toNat * 4)).off + 1, none⟩ = some (.int .i64 ((rd_T58 l1 x5_1).f1)) ∧ w'.cell? ⟨(ad138.add ((x5_1).toNat * 4)).block, (ad138.add ((x5_1).toNat * 4)).off + 2, none⟩ = some (.int .i64 ((rd_T58 l1 x5_1).f2)) ∧ w'.cell? ⟨(ad138.add ((x5_1).toNat * 4)).block, (ad138.add ((x5_1).toNat * 4)).off + 3, none⟩ = some (.int .i64 ((rd_T58 l1 x5_1).f3)) ∧ w'.cell? (ad138.add ((x5_1).toNat * 4)) = some (.int .i64 ((rd_T58 l1 x5_1).f0)) ∧ w'.cell? ⟨(ad138.add ((x5_1).toNat * 4)).block, (ad138.add ((x5_1).toNat * 4)).off + 1, none⟩ = some (.int .i64 ((rd_T58 l1 x5_1).f1)) ∧ w'.cell? ⟨(ad138.add ((x5_1).toNat * 4)).block, (ad138.add ((x5_1).toNat * 4)).off + 2, none⟩ = some (.int .i64 ((rd_T58 l1 x5_1).f2)) ∧ w'.cell? ⟨(ad138.add ((x5_1).toNat * 4)).block, (ad138.add ((x5_1).toNat * 4)).off + 3, none⟩ = some (.int .i64 ((rd_T58 l1 x5_1).f3))) (ds := []) #[false, false, false, false, false, false, false, false, false, false, false, false, false, false, false, false, false, false, false, false, false, false, false, false, false, false, false, false, false, false, false, false, false, false, false, false, false, false] (by kernel_rfl) rfl rfl ⟨((HB.out.cell (block_lt_of_cell? w _ hw138_0)).trans hw138_0), ((HB.out.cell (block_lt_of_cell? w _ hw138_1)).trans hw138_1), ((HB.out.cell (block_lt_of_cell? w _ hw138_2)).trans hw138_2), ((HB.out.cell (block_lt_of_cell? w _ hw138_3)).trans hw138_3), ((HB.out.cell (block_lt_of_cell? w _ hw152_0)).trans hw152_0), ((HB.out.cell (block_lt_of_cell? w _ hw152_1)).trans hw152_1), ((HB.out.cell (block_lt_of_cell? w _ hw152_2)).trans hw152_2), ((HB.out.cell (block_lt_of_cell? w _ hw152_3)).trans hw152_3)⟩ (fun hHeld => ?_); refine with_tabW spec_EventsOk.tab6 spec_EventsOk.bits6 (fun HT_ HW_ => ?_)
          generalize wr.drew = w37 at HB hx138_0 hx138_1 hx138_2 hx138_3 hx152_0 hx152_1 hx152_2 hx152_3 hHeld ⊢
          refine puY (i := 0) 15 (bq 1 38) HT_ ?_
          refine puY (i := 1) 16 (bq 2 38) HT_ ?_
          refine puY (i := 2) 17 (bq 3 38) HT_ ?_
          refine puY (i := 3) 18 (bq 4 38) HT_ ?_
          refine take_ (i := 4) (N := some 19) (v := ?_) (a' := ?_) (bq 5 38) rfl rfl (take_ofW HT_.out HW_.out (by kernel_rfl)) (fun _ _ _ h => h) (Or.inl ⟨by rfl, ?_⟩) hHeld ?_ ?_
          rotate_left
          ·rintro w' ⟨s0, s1, s2, s3, s4, s5, s6, s7⟩
           go_simp
           with_reducible rfl
          rotate_left
          ·simp only [Act.put, stA, stZ, stS, i64_w, i32_w]
           rfl
          refine onY (i := 5) 20 (bq 6 38) HT_ (fun K hK => ?_)
          refine goes_ Try.func76 (by kernel_rfl) rfl #[.slice A0 l0.length c0, .agg #[.int .i64 ((rd_T58 l1 x5_1).f0), .int .i64 ((rd_T58 l1 x5_1).f1), .int .i64 ((rd_T58 l1 x5_1).f2), .int .i64 ((rd_T58 l1 x5_1).f3)]] (by rfl) rfl rfl (by (try simp only [map_toArray, map_cons, map_nil]); rfl) ?_
          with_reducible refine (spec_l6Event.calls _ _ l0 ((rd_T58 l1 x5_1).f0) ((rd_T58 l1 x5_1).f1) ((rd_T58 l1 x5_1).f2) ((rd_T58 l1 x5_1).f3) true _ ?side1 ?side2 A8.out).mono ?_
          (case side1 => repeat (exact (C_below HR0.out HB.out)))
          (case side2 => exact HC0.out)
          rintro e w38 ⟨rfl, hb⟩
          refine ⟨_, rfl, ?_⟩
          have n0_ := Aside0.mk (below_step (by repeat ((with_reducible exact HB.out))) hb)
          clear HB
          have HB := n0_
          clear n0_
          (try clear hb)
          have q39 : (x5_1 : Int) ≤ ((l1.length : Int) : Int) := of_decide_eq_true (by (with_reducible assumption))
          obtain ⟨i039, hi039, _, hsz39, _⟩ := info_parts info58
          have hroom39 : l1.length ≤ c1 := HC1.out
          have hC39 : Kd.C k58 _ (some ad138) l1.length l1 := HR1.out
          have hcut39 := cut_to (P := Try.prog) 53 58 .i64 Try.underlying53 hi039 (some ad138) l1.length c1 x5_1 (of_decide_eq_true (by (with_reducible assumption))) q39 hroom39
          have hr39 := Kd.C_take (m := (x5_1 : Int).toNat) hC39 (by omega)
          have hy39 : y148.length = (x5_1 : Int).toNat := (by rw [Ny148.out, length_take]; omega)
          rw [← Ny148.out] at hr39
          rw [← hy39] at hcut39
          have HR151 := Aside0.mk hr39
          have HC151 := Aside0.mk (show y148.length ≤ c1 from by omega)
          clear hr39 hC39 hroom39 hi039 hsz39
          have KY39 := Aside0.mk hy39
          clear hy39
          replace q39 := eq_true q39
          refine hK.out _ _ ⟨((HB.out.cell (block_lt_of_cell? w _ hw138_0)).trans hw138_0), ((HB.out.cell (block_lt_of_cell? w _ hw138_1)).trans hw138_1), ((HB.out.cell (block_lt_of_cell? w _ hw138_2)).trans hw138_2), ((HB.out.cell (block_lt_of_cell? w _ hw138_3)).trans hw138_3), ((HB.out.cell (block_lt_of_cell? w _ hw152_0)).trans hw152_0), ((HB.out.cell (block_lt_of_cell? w _ hw152_1)).trans hw152_1), ((HB.out.cell (block_lt_of_cell? w _ hw152_2)).trans hw152_2), ((HB.out.cell (block_lt_of_cell? w _ hw152_3)).trans hw152_3)⟩ (fun hHeld => ?_)
          clear hK K
          refine norm_ (a' := ?_) ?_ ?_
          rotate_left
          ·show Act.put _ (some 20) _ = _
           simp only [Act.put, stA, stZ, stS, i64_w, i32_w]
           rfl
          refine puY (i := 6) 21 (bq 7 38) HT_ ?_
          refine puY (i := 7) 22 (bq 8 38) HT_ ?_
          refine puY (i := 8) 23 (bq 9 38) HT_ ?_
          refine puY (i := 9) 24 (bq 10 38) HT_ ?_
          refine puY (i := 10) 25 (bq 11 38) HT_ ?_
          refine puN (i := 11) 26 (bq 12 38) HT_ ?_
          refine puN (i := 12) 27 (bq 13 38) HT_ ?_
          refine puN (i := 13) 28 (bq 14 38) HT_ ?_
          refine puN (i := 14) 29 (bq 15 38) HT_ ?_
          refine puN (i := 15) 30 (bq 16 38) HT_ ?_
          refine puN (i := 16) 31 (bq 17 38) HT_ ?_
          refine puN (i := 17) 32 (bq 18 38) HT_ ?_
          refine puN (i := 18) 33 (bq 19 38) HT_ ?_
          refine puN (i := 19) 34 (bq 20 38) HT_ ?_
          refine puN (i := 20) 35 (bq 21 38) HT_ ?_
          refine puN (i := 21) 36 (bq 22 38) HT_ ?_
          refine puN (i := 22) 37 (bq 23 38) HT_ ?_
          refine puY (i := 23) 38 (bq 24 38) HT_ ?_
          refine puY (i := 24) 39 (bq 25 38) HT_ ?_
          refine puY (i := 25) 40 (bq 26 38) HT_ ?_
          refine puY (i := 26) 41 (bq 27 38) HT_ ?_
          refine puY (i := 27) 42 (bq 28 38) HT_ ?_
          refine puY (i := 28) 43 (bq 29 38) HT_ ?_
          refine puY (i := 29) 44 (bq 30 38) HT_ ?_
          refine puY (i := 30) 45 (bq 31 38) HT_ ?_
          refine puY (i := 31) 46 (bq 32 38) HT_ ?_
          refine puY (i := 32) 47 (bq 33 38) HT_ ?_
          refine puY (i := 33) 48 (bq 34 38) HT_ ?_
          refine take_ (i := 34) (N := some 49) (v := ?_) (a' := ?_) (bq 35 38) rfl rfl (take_ofW HT_.out HW_.out (by kernel_rfl)) (fun _ _ _ h => h) (Or.inl ⟨by rfl, ?_⟩) hHeld ?_ ?_
          rotate_left
          ·rintro w' ⟨s0, s1, s2, s3, s4, s5, s6, s7⟩
           go_simp
           with_reducible rfl
          rotate_left
          ·simp only [Act.put, stA, stZ, stS, i64_w, i32_w]
           rfl
          refine onY (i := 35) 50 (bq 36 38) HT_ (fun K hK => ?_)
          refine goes_ Try.func77 (by kernel_rfl) rfl #[.slice A0 l0.length c0, .slice (some ad138) y148.length c1, .int .i64 ((rd_T58 l1 x5_1).f0)] (by rfl) rfl rfl (by (try simp only [map_toArray, map_cons, map_nil]); rfl) ?_
          with_reducible refine (spec_l6First.calls k1 _ _ l0 _ _ y148 ((rd_T58 l1 x5_1).f0) t153 _ ?side1 ?side2 ?side3 ?side4 A31.out).mono ?_
          (case side1 => repeat (exact (C_below HR0.out HB.out)))
          (case side2 => exact HC0.out)
          (case side3 => repeat (exact (C_below HR151.out HB.out)))
          (case side4 => exact HC151.out)
          rintro e w40 ⟨rfl, hb⟩
          refine ⟨_, rfl, ?_⟩
          have n0_ := Aside0.mk (below_step (by repeat ((with_reducible exact HB.out))) hb)
          clear HB
          have HB := n0_
          clear n0_
          (try clear hb)
          refine hK.out _ _ ⟨((HB.out.cell (block_lt_of_cell? w _ hw138_0)).trans hw138_0), ((HB.out.cell (block_lt_of_cell? w _ hw138_1)).trans hw138_1), ((HB.out.cell (block_lt_of_cell? w _ hw138_2)).trans hw138_2), ((HB.out.cell (block_lt_of_cell? w _ hw138_3)).trans hw138_3), ((HB.out.cell (block_lt_of_cell? w _ hw152_0)).trans hw152_0), ((HB.out.cell (block_lt_of_cell? w _ hw152_1)).trans hw152_1), ((HB.out.cell (block_lt_of_cell? w _ hw152_2)).trans hw152_2), ((HB.out.cell (block_lt_of_cell? w _ hw152_3)).trans hw152_3)⟩ (fun hHeld => ?_)
          clear hK K
          refine norm_ (a' := ?_) ?_ ?_
          rotate_left
          ·show Act.put _ (some 50) _ = _
           simp only [Act.put, stA, stZ, stS, i64_w, i32_w]
           rfl
          refine puY (i := 36) 51 (bq 37 38) HT_ ?_
          refine puY (i := 37) 52 (bq 38 38) HT_ ?_
          refine done_ (done_of HT_.out (by kernel_rfl)) ?_
          try go_wp2
          go_roundg k1
          case measure => have := HK1.out; omega
          case rel => exact ⟨(wrap64 (x5_1 + 1)), (by rfl), H', ⟨by have := HK1.out; omega⟩, ⟨by repeat ((with_reducible exact HB.out))⟩⟩
        ·rw [if_neg c30] at H
         exact absurd H (by simp)
      ·replace c9 := Bool.eq_false_iff.mpr c9
       subst c9
       have H1 : (some false) = some r := by rw [if_neg (show ¬ (false = true) by decide)] at H; exact H
       clear H
       have H := H1
       clear H1
       obtain rfl := Option.some.inj H
       try go_wp2
       have n0_ := Aside0.mk (bw1 HB.out)
       clear HB
       have HB := n0_
       clear n0_
       have p138 : 0 ≤ (x5_1 : Int) := of_decide_eq_true (by (with_reducible assumption))
       have q138 : x5_1 < (l1.length : Int) := of_decide_eq_true (by (with_reducible assumption))
       obtain ⟨ad138, e138, hx138_0, hx138_1, hx138_2, hx138_3⟩ := at_T58 HR1.out x5_1 p138 q138
       have hw138_3 := hx138_3
       have hw138_2 := hx138_2
       have hw138_1 := hx138_1
       have hw138_0 := hx138_0
       cases e138
       replace hx138_0 := (HB.out.cell (block_lt_of_cell? w _ hx138_0)).trans hx138_0
       replace hx138_1 := (HB.out.cell (block_lt_of_cell? w _ hx138_1)).trans hx138_1
       replace hx138_2 := (HB.out.cell (block_lt_of_cell? w _ hx138_2)).trans hx138_2
       replace hx138_3 := (HB.out.cell (block_lt_of_cell? w _ hx138_3)).trans hx138_3
       replace p138 := eq_true p138
       replace q138 := eq_true q138
       refine start_ (n := 38) (S := fun w' => w'.cell? (ad138.add ((x5_1).toNat * 4)) = some (.int .i64 ((rd_T58 l1 x5_1).f0)) ∧ w'.cell? ⟨(ad138.add ((x5_1).toNat * 4)).block, (ad138.add ((x5_1).toNat * 4)).off + 1, none⟩ = some (.int .i64 ((rd_T58 l1 x5_1).f1)) ∧ w'.cell? ⟨(ad138.add ((x5_1).toNat * 4)).block, (ad138.add ((x5_1).toNat * 4)).off + 2, none⟩ = some (.int .i64 ((rd_T58 l1 x5_1).f2)) ∧ w'.cell? ⟨(ad138.add ((x5_1).toNat * 4)).block, (ad138.add ((x5_1).toNat * 4)).off + 3, none⟩ = some (.int .i64 ((rd_T58 l1 x5_1).f3))) (ds := []) #[false, false, false, false, false, false, false, false, false, false, false, false, false, false, false, false, false, false, false, false, false, false, false, false, false, false, false, false, false, false, false, false, false, false, false, false, false, false] (by kernel_rfl) rfl rfl ⟨((HB.out.cell (block_lt_of_cell? w _ hw138_0)).trans hw138_0), ((HB.out.cell (block_lt_of_cell? w _ hw138_1)).trans hw138_1), ((HB.out.cell (block_lt_of_cell? w _ hw138_2)).trans hw138_2), ((HB.out.cell (block_lt_of_cell? w _ hw138_3)).trans hw138_3)⟩ (fun hHeld => ?_); refine with_tabW spec_EventsOk.tab6 spec_EventsOk.bits6 (fun HT_ HW_ => ?_)
       generalize wr.drew = w41 at HB hx138_0 hx138_1 hx138_2 hx138_3 hHeld ⊢
       refine puY (i := 0) 15 (bq 1 38) HT_ ?_
       refine puY (i := 1) 16 (bq 2 38) HT_ ?_
       refine puY (i := 2) 17 (bq 3 38) HT_ ?_
       refine puY (i := 3) 18 (bq 4 38) HT_ ?_
       refine take_ (i := 4) (N := some 19) (v := ?_) (a' := ?_) (bq 5 38) rfl rfl (take_ofW HT_.out HW_.out (by kernel_rfl)) (fun _ _ _ h => h) (Or.inl ⟨by rfl, ?_⟩) hHeld ?_ ?_
       rotate_left
       ·rintro w' ⟨s0, s1, s2, s3⟩
        go_simp
        with_reducible rfl
       rotate_left
       ·simp only [Act.put, stA, stZ, stS, i64_w, i32_w]
        rfl
       refine onY (i := 5) 20 (bq 6 38) HT_ (fun K hK => ?_)
       refine goes_ Try.func76 (by kernel_rfl) rfl #[.slice A0 l0.length c0, .agg #[.int .i64 ((rd_T58 l1 x5_1).f0), .int .i64 ((rd_T58 l1 x5_1).f1), .int .i64 ((rd_T58 l1 x5_1).f2), .int .i64 ((rd_T58 l1 x5_1).f3)]] (by rfl) rfl rfl (by (try simp only [map_toArray, map_cons, map_nil]); rfl) ?_
       with_reducible refine (spec_l6Event.calls _ _ l0 ((rd_T58 l1 x5_1).f0) ((rd_T58 l1 x5_1).f1) ((rd_T58 l1 x5_1).f2) ((rd_T58 l1 x5_1).f3) false _ ?side1 ?side2 A8.out).mono ?_
       (case side1 => repeat (exact (C_below HR0.out HB.out)))
       (case side2 => exact HC0.out)
       rintro e w42 ⟨rfl, hb⟩
       refine ⟨_, rfl, ?_⟩
       have n0_ := Aside0.mk (below_step (by repeat ((with_reducible exact HB.out))) hb)
       clear HB
       have HB := n0_
       clear n0_
       (try clear hb)
       refine hK.out _ _ ⟨((HB.out.cell (block_lt_of_cell? w _ hw138_0)).trans hw138_0), ((HB.out.cell (block_lt_of_cell? w _ hw138_1)).trans hw138_1), ((HB.out.cell (block_lt_of_cell? w _ hw138_2)).trans hw138_2), ((HB.out.cell (block_lt_of_cell? w _ hw138_3)).trans hw138_3)⟩ (fun hHeld => ?_)
       clear hK K
       refine norm_ (a' := ?_) ?_ ?_
       rotate_left
       ·show Act.put _ (some 20) _ = _
        simp only [Act.put, stA, stZ, stS, i64_w, i32_w]
        rfl
       refine puY (i := 6) 21 (bq 7 38) HT_ ?_
       refine puY (i := 7) 22 (bq 8 38) HT_ ?_
       refine puN (i := 8) 23 (bq 9 38) HT_ ?_
       refine puN (i := 9) 24 (bq 10 38) HT_ ?_
       refine puN (i := 10) 25 (bq 11 38) HT_ ?_
       refine puN (i := 11) 26 (bq 12 38) HT_ ?_
       refine puN (i := 12) 27 (bq 13 38) HT_ ?_
       refine puN (i := 13) 28 (bq 14 38) HT_ ?_
       refine puN (i := 14) 29 (bq 15 38) HT_ ?_
       refine puN (i := 15) 30 (bq 16 38) HT_ ?_
       refine puN (i := 16) 31 (bq 17 38) HT_ ?_
       refine puN (i := 17) 32 (bq 18 38) HT_ ?_
       refine puN (i := 18) 33 (bq 19 38) HT_ ?_
       refine puN (i := 19) 34 (bq 20 38) HT_ ?_
       refine puN (i := 20) 35 (bq 21 38) HT_ ?_
       refine puN (i := 21) 36 (bq 22 38) HT_ ?_
       refine puN (i := 22) 37 (bq 23 38) HT_ ?_
       refine puN (i := 23) 38 (bq 24 38) HT_ ?_
       refine puY (i := 24) 39 (bq 25 38) HT_ ?_
       refine puY (i := 25) 40 (bq 26 38) HT_ ?_
       refine puN (i := 26) 41 (bq 27 38) HT_ ?_
       refine puN (i := 27) 42 (bq 28 38) HT_ ?_
       refine puN (i := 28) 43 (bq 29 38) HT_ ?_
       refine puN (i := 29) 44 (bq 30 38) HT_ ?_
       refine puN (i := 30) 45 (bq 31 38) HT_ ?_
       refine puN (i := 31) 46 (bq 32 38) HT_ ?_
       refine puN (i := 32) 47 (bq 33 38) HT_ ?_
       refine puN (i := 33) 48 (bq 34 38) HT_ ?_
       refine puN (i := 34) 49 (bq 35 38) HT_ ?_
       refine puN (i := 35) 50 (bq 36 38) HT_ ?_
       refine puN (i := 36) 51 (bq 37 38) HT_ ?_
       refine puY (i := 37) 52 (bq 38 38) HT_ ?_
       refine done_ (done_of HT_.out (by kernel_rfl)) ?_
       try go_wp2
       go_ret
       exact ⟨by rfl, by repeat ((with_reducible exact HB.out))⟩
     ·rw [if_neg c7] at H
      exact absurd H (by simp)
    ·rw [if_neg c6] at H
     have c6b0 : decide (x5_1 < (l1.length : Int)) = false := decide_eq_false c6
     clear c6
     obtain rfl := Option.some.inj H
     go_wp2
     go_ret
     exact ⟨by rfl, by repeat ((with_reducible exact HB.out))⟩
 ·replace c4 := Bool.eq_false_iff.mpr c4
  subst c4
  have H1 : (some false) = some r := by rw [if_neg (show ¬ (false = true) by decide)] at H; exact H
  clear H
  have H := H1
  clear H1
  obtain rfl := Option.some.inj H
  go_enter Try.func40, Try.ntmps40
  go_wp2_with ((with_reducible refine gate_callee (f := 32) rfl ?_); refine goesL_ (some 7) rfl rfl Try.func32 (by kernel_rfl) rfl #[.slice A0 l0.length c0] rfl (by (try simp only [map_toArray, map_cons, map_nil]); rfl) ?_; (with_reducible refine (spec_TreeOk.calls k _ _ l0 false _ ?side1 ?side2 A3.out).mono ?_); (case side1 => repeat (exact HR0.out)); (case side2 => exact HC0.out); rintro e w43 ⟨rfl, hb⟩; refine ⟨_, rfl, ?_⟩; have n0_ := Aside0.mk (below_step (by repeat ((with_reducible exact HB.out))) hb); clear HB; have HB := n0_; clear n0_; (try clear hb); skip)
  go_ret
  exact ⟨by rfl, by repeat ((with_reducible exact HB.out))⟩
end Go.Proofs.Ytcndchcepajmjaa.PFnLetGo
