/- Texts of the claim of the law FnLetGo, made smaller by a program of this session: what the claim does not use is left out. No condition. -/
import Derived.Test.YtcndchcepajmjaaZLgPFnLetGox0
import Derived.Test.YtcndchcepajmjaaZLgPFnLetGox6
namespace Go.Proofs.Ytcndchcepajmjaa.PFnLetGo
open Go.RowKit Go.Proofs.YtcndchcepajmjaaW.PrintWords Go.Proofs.YtcndchcepajmjaaW.PrintLast Go.Proofs.YtcndchcepajmjaaW.PrintMore
open List (map_toArray map_cons map_nil)
open Option (bind_eq_some_iff)
open Go.World (block_lt_of_cell?)
open Kd (C_below)
attribute [local go_sem] max2_int min2_int max_two min_two max_three min_three max_four min_four   -- for this text's walks alone
set_option linter.unusedVariables false
set_option linter.unusedSimpArgs false
def impl_Event_fits.f (k : Nat) (a0_0 : Int) (a0_1 : Int) (a0_2 : Int) (a0_3 : Int) (l1 : List (S30)) (l2 : List (S58)) : Option (Bool) := (impl_Event_isEvent.f a0_0 a0_1 a0_2 a0_3 l1).bind fun t190 => (if t190 = true then (if (l2.length : Int) > 0 then (if 0 ≤ (wrap64 ((l2.length : Int) - 1)) then (if (wrap64 ((l2.length : Int) - 1)) < (l2.length : Int) then (if ((rd_T58 l2 (wrap64 ((l2.length : Int) - 1))).f3) > a0_3 then (some false) else ((impl_firstOf.f k l1 l2 a0_0).bind fun bt192 => (some (!bt192.2.2.2.2)))) else (none)) else (none)) else ((impl_firstOf.f k l1 l2 a0_0).bind fun bt198 => (some (!bt198.2.2.2.2)))) else (some false))
def impl_Event_fits.T1 : Bool × List (List Nat × List Nat) := (true, [([], []), ([], []), ([0, 1], [0, 1]), ([2], [2]), ([3, 2], [3]), ([4], [4]), ([5, 4], [4, 5]), ([6, 4], [4, 6]), ([7, 4, 4], [4, 7]), ([8], [8]), ([8], [8]), ([10, 8], [8, 10]), ([11, 8], [8, 11]), ([9, 12, 8], [8, 9, 12]), ([13, 8], [8, 13]), ([14, 8], [8, 14]), ([8], [8]), ([16, 8], [8, 16]), ([15, 17, 8], [8, 15, 17]), ([8, 18, 4], [4, 8, 18]), ([4, 19], [4, 19])])
def impl_Event_fits.B1 : List Nat := [0, 0, 3, 7, 15, 31, 63, 127, 255, 511, 511, 1535, 3583, 8191, 16383, 32767, 511, 66047, 262143, 524287, 1048575]
theorem impl_Event_fits.tab1 : rtab .any (opsOf Try.f78 1) = impl_Event_fits.T1 := by kernel_rfl
theorem impl_Event_fits.bits1 : waitsOk impl_Event_fits.T1.2 impl_Event_fits.B1 = true := by kernel_rfl
set_option maxHeartbeats 8000000 in
set_option maxRecDepth 100000 in
theorem impl_Event_fits.calls (k : Nat) (a0_0 : Int) (a0_1 : Int) (a0_2 : Int) (a0_3 : Int) (A1 : Option Addr) (c1 : Nat) (l1 : List (S30)) (A2 : Option Addr) (c2 : Nat) (l2 : List (S58)) (r : Bool) (w : World) (hr1 : Kd.C k30 w A1 l1.length l1) (hc1 : l1.length ≤ c1) (hr2 : Kd.C k58 w A2 l2.length l2) (hc2 : l2.length ≤ c2) (h : impl_Event_fits.f k a0_0 a0_1 a0_2 a0_3 l1 l2 = some r) :
  Calls Try.prog 78 #[.agg #[.int .i64 a0_0, .int .i64 a0_1, .int .i64 a0_2, .int .i64 a0_3], .slice A1 l1.length c1, .slice A2 l2.length c2] w fun e w' => e = .returned (.bool r) ∧ Below w.heap.size w w' := by
 have hu58 := Try.underlying58
 have HR1 := Aside0.mk hr1
 have HC1 := Aside0.mk hc1
 clear hr1 hc1
 have HR2 := Aside0.mk hr2
 have HC2 := Aside0.mk hc2
 clear hr2 hc2
 have HB := Aside0.mk (Below.refl w.heap.size w)
 have H : ((impl_Event_isEvent.f a0_0 a0_1 a0_2 a0_3 l1).bind fun t190 => (if t190 = true then (if (l2.length : Int) > 0 then (if 0 ≤ (wrap64 ((l2.length : Int) - 1)) then (if (wrap64 ((l2.length : Int) - 1)) < (l2.length : Int) then (if ((rd_T58 l2 (wrap64 ((l2.length : Int) - 1))).f3) > a0_3 then (some false) else ((impl_firstOf.f k l1 l2 a0_0).bind fun bt192 => (some (!bt192.2.2.2.2)))) else (none)) else (none)) else ((impl_firstOf.f k l1 l2 a0_0).bind fun bt198 => (some (!bt198.2.2.2.2)))) else (some false))) = some r := h
 clear h
 replace H := bind_eq_some_iff.mp H
 obtain ⟨t190, A40, H⟩ := H
 replace H : (if t190 = true then (if (l2.length : Int) > 0 then (if 0 ≤ (wrap64 ((l2.length : Int) - 1)) then (if (wrap64 ((l2.length : Int) - 1)) < (l2.length : Int) then (if ((rd_T58 l2 (wrap64 ((l2.length : Int) - 1))).f3) > a0_3 then (some false) else ((impl_firstOf.f k l1 l2 a0_0).bind fun bt192 => (some (!bt192.2.2.2.2)))) else (none)) else (none)) else ((impl_firstOf.f k l1 l2 a0_0).bind fun bt198 => (some (!bt198.2.2.2.2)))) else (some false)) = some r := H
 have A4 := Aside0.mk A40
 clear A40
 by_cases c5 : t190 = true
 ·subst c5
  have H1 : (if (l2.length : Int) > 0 then (if 0 ≤ (wrap64 ((l2.length : Int) - 1)) then (if (wrap64 ((l2.length : Int) - 1)) < (l2.length : Int) then (if ((rd_T58 l2 (wrap64 ((l2.length : Int) - 1))).f3) > a0_3 then (some false) else ((impl_firstOf.f k l1 l2 a0_0).bind fun bt192 => (some (!bt192.2.2.2.2)))) else (none)) else (none)) else ((impl_firstOf.f k l1 l2 a0_0).bind fun bt198 => (some (!bt198.2.2.2.2)))) = some r := by rw [if_pos rfl] at H; exact H
  clear H
  have H := H1
  clear H1
  by_cases c6 : (l2.length : Int) > 0
  ·rw [if_pos c6] at H
   have c6b0 : decide (0 < (l2.length : Int)) = true := decide_eq_true c6
   have c6b1 : decide (0 < l2.length) = true := decide_eq_true (by omega)
   clear c6
   obtain ⟨ji7, hji7⟩ : ∃ j_ : Int, (wrap64 ((l2.length : Int) - 1)) = j_ := ⟨_, rfl⟩
   replace H : (if 0 ≤ (ji7) then (if (ji7) < (l2.length : Int) then (if ((rd_T58 l2 (ji7)).f3) > a0_3 then (some false) else ((impl_firstOf.f k l1 l2 a0_0).bind fun bt192 => (some (!bt192.2.2.2.2)))) else (none)) else (none)) = some r := by (rw [hji7] at H; exact H)
   have hji7w : (IntKind.i64.wrap ((l2.length : Int) - 1)) = ji7 := (i64_w _).trans hji7
   by_cases c8 : 0 ≤ (ji7)
   ·rw [if_pos c8] at H
    have c8b0 : decide (0 ≤ (ji7)) = true := decide_eq_true c8
    clear c8
    by_cases c9 : (ji7) < (l2.length : Int)
    ·rw [if_pos c9] at H
     have c9b0 : decide ((ji7) < (l2.length : Int)) = true := decide_eq_true c9
     clear c9
     by_cases c10 : ((rd_T58 l2 (ji7)).f3) > a0_3
     ·rw [if_pos c10] at H
      have c10b0 : decide (a0_3 < ((rd_T58 l2 (ji7)).f3)) = true := decide_eq_true c10
      clear c10
      obtain rfl := Option.some.inj H
      go_enter Try.func78, Try.ntmps78
      try go_wp2_with ((with_reducible refine gate_dst (N := 3) rfl ?_); (try (refine gate_guard (by rfl) ?_; dsimp only)); refine box_event ?hg (N := 3) ?hd (cs := #[.int .i64 a0_0, .int .i64 a0_1, .int .i64 a0_2, .int .i64 a0_3]) (t := 58) ?hr ?_; (case hd => rfl); (case hg => rfl); (case hr => (go_simp; done)); intro gb189 hg w11 hbox hb; have n0_ := Aside0.mk (below_step (by repeat ((with_reducible exact HB.out))) hb); have n1_ := Aside0.mk (hbox); have n2_ := Aside0.mk ((by rw [hg]; exact (below_size (by repeat ((with_reducible exact HB.out)))) : w.heap.size ≤ gb189)); have n3_ := Aside0.mk ((by rw [hg]; exact (below_size (by repeat ((with_reducible exact HB.out)))) : w.heap.size ≤ gb189)); clear HB; have HB := n0_; have BK189 := n1_; have GW189 := n2_; have GE189 := n3_; clear n0_ n1_ n2_ n3_; clear hb hbox hg)
      have n0_ := Aside0.mk (blk_drew BK189.out)
      have n1_ := Aside0.mk (bw1 HB.out)
      clear BK189
      clear HB
      have BK189 := n0_
      have HB := n1_
      clear n0_ n1_
      have p191 : 0 ≤ ((ji7) : Int) := of_decide_eq_true (by (with_reducible assumption))
      have q191 : (ji7) < (l2.length : Int) := of_decide_eq_true (by (with_reducible assumption))
      obtain ⟨ad191, e191, hx191_0, hx191_1, hx191_2, hx191_3⟩ := at_T58 HR2.out (ji7) p191 q191
      have hw191_3 := hx191_3
      have hw191_2 := hx191_2
      have hw191_1 := hx191_1
      have hw191_0 := hx191_0
      cases e191
      replace hx191_0 := (HB.out.cell (block_lt_of_cell? w _ hx191_0)).trans hx191_0
      replace hx191_1 := (HB.out.cell (block_lt_of_cell? w _ hx191_1)).trans hx191_1
      replace hx191_2 := (HB.out.cell (block_lt_of_cell? w _ hx191_2)).trans hx191_2
      replace hx191_3 := (HB.out.cell (block_lt_of_cell? w _ hx191_3)).trans hx191_3
      replace p191 := eq_true p191
      replace q191 := eq_true q191
      refine start_ (n := 21) (S := fun w' => w'.cell? ⟨gb189, 0, none⟩ = some (.int .i64 a0_0) ∧ w'.cell? ⟨gb189, 1, none⟩ = some (.int .i64 a0_1) ∧ w'.cell? ⟨gb189, 2, none⟩ = some (.int .i64 a0_2) ∧ w'.cell? ⟨gb189, 3, none⟩ = some (.int .i64 a0_3) ∧ w'.cell? (ad191.add (((ji7)).toNat * 4)) = some (.int .i64 ((rd_T58 l2 (ji7)).f0)) ∧ w'.cell? ⟨(ad191.add (((ji7)).toNat * 4)).block, (ad191.add (((ji7)).toNat * 4)).off + 1, none⟩ = some (.int .i64 ((rd_T58 l2 (ji7)).f1)) ∧ w'.cell? ⟨(ad191.add (((ji7)).toNat * 4)).block, (ad191.add (((ji7)).toNat * 4)).off + 2, none⟩ = some (.int .i64 ((rd_T58 l2 (ji7)).f2)) ∧ w'.cell? ⟨(ad191.add (((ji7)).toNat * 4)).block, (ad191.add (((ji7)).toNat * 4)).off + 3, none⟩ = some (.int .i64 ((rd_T58 l2 (ji7)).f3))) (ds := []) #[false, false, false, false, false, false, false, false, false, false, false, false, false, false, false, false, false, false, false, false, false] (by kernel_rfl) rfl rfl ⟨(blk_cell BK189.out 0).trans rfl, (blk_cell BK189.out 1).trans rfl, (blk_cell BK189.out 2).trans rfl, (blk_cell BK189.out 3).trans rfl, ((HB.out.cell (block_lt_of_cell? w _ hw191_0)).trans hw191_0), ((HB.out.cell (block_lt_of_cell? w _ hw191_1)).trans hw191_1), ((HB.out.cell (block_lt_of_cell? w _ hw191_2)).trans hw191_2), ((HB.out.cell (block_lt_of_cell? w _ hw191_3)).trans hw191_3)⟩ (fun hHeld => ?_); refine with_tabW impl_Event_fits.tab1 impl_Event_fits.bits1 (fun HT_ HW_ => ?_)
      generalize w11.drew = w12 at BK189 HB hx191_0 hx191_1 hx191_2 hx191_3 hHeld ⊢
      refine puY (i := 1) 10 #[false, true, false, false, false, false, false, false, false, false, false, false, false, false, false, false, false, false, false, false, false] HT_ ?_
      refine take_ (i := 0) (N := some 9) (v := ?_) (a' := ?_) (bq 2 21) rfl rfl (take_ofW HT_.out HW_.out (by kernel_rfl)) (fun _ _ _ h => h) (Or.inl ⟨by rfl, ?_⟩) hHeld ?_ ?_
      rotate_left
      ·rintro w' ⟨s0, s1, s2, s3, s4, s5, s6, s7⟩
       go_simp
       with_reducible rfl
      rotate_left
      ·simp only [Act.put, stA, stZ, stS, i64_w, i32_w]
       rfl
      refine onY (i := 2) 11 (bq 3 21) HT_ (fun K hK => ?_)
      refine goes_ Try.func92 (by kernel_rfl) rfl #[.agg #[.int .i64 a0_0, .int .i64 a0_1, .int .i64 a0_2, .int .i64 a0_3], .slice A1 l1.length c1] (by rfl) rfl rfl (by (try simp only [map_toArray, map_cons, map_nil]); rfl) ?_
      with_reducible refine (impl_Event_isEvent.calls a0_0 a0_1 a0_2 a0_3 _ _ l1 true _ ?side1 ?side2 A4.out).mono ?_
      (case side1 => repeat (exact (C_below HR1.out HB.out)))
      (case side2 => exact HC1.out)
      rintro e w13 ⟨rfl, hb⟩
      refine ⟨_, rfl, ?_⟩
      have n0_ := Aside0.mk (blk_below (g := gb189) (o := .cells #[.int .i64 a0_0, .int .i64 a0_1, .int .i64 a0_2, .int .i64 a0_3] 58 (0, 0)) (by (with_reducible repeat (fail)); exact BK189.out) hb)
      have n1_ := Aside0.mk (below_step (by repeat ((with_reducible exact HB.out))) hb)
      clear BK189
      clear HB
      have BK189 := n0_
      have HB := n1_
      clear n0_ n1_
      (try clear hb)
      refine hK.out _ _ ⟨(blk_cell BK189.out 0).trans rfl, (blk_cell BK189.out 1).trans rfl, (blk_cell BK189.out 2).trans rfl, (blk_cell BK189.out 3).trans rfl, ((HB.out.cell (block_lt_of_cell? w _ hw191_0)).trans hw191_0), ((HB.out.cell (block_lt_of_cell? w _ hw191_1)).trans hw191_1), ((HB.out.cell (block_lt_of_cell? w _ hw191_2)).trans hw191_2), ((HB.out.cell (block_lt_of_cell? w _ hw191_3)).trans hw191_3)⟩ (fun hHeld => ?_)
      clear hK K
      refine norm_ (a' := ?_) ?_ ?_
      rotate_left
      ·show Act.put _ (some 11) _ = _
       simp only [Act.put, stA, stZ, stS, i64_w, i32_w]
       rfl
      refine puY (i := 3) 12 (bq 4 21) HT_ ?_
      refine puY (i := 4) 13 (bq 5 21) HT_ ?_
      refine puY (i := 5) 14 (bq 6 21) HT_ ?_
      refine puY (i := 6) 15 (bq 7 21) HT_ ?_
      refine puY (i := 7) 16 (bq 8 21) HT_ ?_
      refine puY (i := 8) 17 (bq 9 21) HT_ ?_
      refine puY (i := 9) 18 (bq 10 21) HT_ ?_
      refine puY (i := 10) 19 (bq 11 21) HT_ ?_
      refine puY (i := 11) 20 (bq 12 21) HT_ ?_
      refine puY (i := 12) 21 (bq 13 21) HT_ ?_
      refine puY (i := 13) 22 (bq 14 21) HT_ ?_
      refine puY (i := 14) 23 (bq 15 21) HT_ ?_
      refine puY (i := 16) 25 #[true, true, true, true, true, true, true, true, true, true, true, true, true, true, true, false, true, false, false, false, false] HT_ ?_
      refine take_ (i := 15) (N := some 24) (v := ?_) (a' := ?_) (bq 17 21) rfl rfl (take_ofW HT_.out HW_.out (by kernel_rfl)) (fun _ _ _ h => h) (Or.inl ⟨by rfl, ?_⟩) hHeld ?_ ?_
      rotate_left
      ·rintro w' ⟨s0, s1, s2, s3, s4, s5, s6, s7⟩
       go_simp
       with_reducible rfl
      rotate_left
      ·simp only [Act.put, stA, stZ, stS, i64_w, i32_w]
       rfl
      refine take_ (i := 17) (N := some 26) (v := ?_) (a' := ?_) (bq 18 21) rfl rfl (take_ofW HT_.out HW_.out (by kernel_rfl)) (fun _ _ _ h => h) (Or.inl ⟨by rfl, ?_⟩) hHeld ?_ ?_
      rotate_left
      ·rintro w' ⟨s0, s1, s2, s3, s4, s5, s6, s7⟩
       go_simp
       with_reducible rfl
      rotate_left
      ·simp only [Act.put, stA, stZ, stS, i64_w, i32_w]
       rfl
      refine puY (i := 18) 27 (bq 19 21) HT_ ?_
      refine puY (i := 19) 28 (bq 20 21) HT_ ?_
      refine puY (i := 20) 29 (bq 21 21) HT_ ?_
      refine done_ (done_of HT_.out (by kernel_rfl)) ?_
      try go_wp2
      go_ret
      exact ⟨by rfl, by repeat ((with_reducible exact HB.out))⟩
     ·rw [if_neg c10] at H
      have c10b0 : decide (a0_3 < ((rd_T58 l2 (ji7)).f3)) = false := decide_eq_false c10
      clear c10
      replace H := bind_eq_some_iff.mp H
      obtain ⟨⟨t192, t193, t194, t195, t196⟩, A140, H⟩ := H
      replace H : (some (!t196)) = some r := H
      have A14 := Aside0.mk A140
      clear A140
      obtain rfl := Option.some.inj H
      go_enter Try.func78, Try.ntmps78
      try go_wp2_with ((with_reducible refine gate_dst (N := 3) rfl ?_); (try (refine gate_guard (by rfl) ?_; dsimp only)); refine box_event ?hg (N := 3) ?hd (cs := #[.int .i64 a0_0, .int .i64 a0_1, .int .i64 a0_2, .int .i64 a0_3]) (t := 58) ?hr ?_; (case hd => rfl); (case hg => rfl); (case hr => (go_simp; done)); intro gb189 hg w15 hbox hb; have n0_ := Aside0.mk (below_step (by repeat ((with_reducible exact HB.out))) hb); have n1_ := Aside0.mk (hbox); have n2_ := Aside0.mk ((by rw [hg]; exact (below_size (by repeat ((with_reducible exact HB.out)))) : w.heap.size ≤ gb189)); have n3_ := Aside0.mk ((by rw [hg]; exact (below_size (by repeat ((with_reducible exact HB.out)))) : w.heap.size ≤ gb189)); clear HB; have HB := n0_; have BK189 := n1_; have GW189 := n2_; have GE189 := n3_; clear n0_ n1_ n2_ n3_; clear hb hbox hg)
      have n0_ := Aside0.mk (blk_drew BK189.out)
      have n1_ := Aside0.mk (bw1 HB.out)
      clear BK189
      clear HB
      have BK189 := n0_
      have HB := n1_
      clear n0_ n1_
      have p191 : 0 ≤ ((ji7) : Int) := of_decide_eq_true (by (with_reducible assumption))
      have q191 : (ji7) < (l2.length : Int) := of_decide_eq_true (by (with_reducible assumption))
      obtain ⟨ad191, e191, hx191_0, hx191_1, hx191_2, hx191_3⟩ := at_T58 HR2.out (ji7) p191 q191
      have hw191_3 := hx191_3
      have hw191_2 := hx191_2
      have hw191_1 := hx191_1
      have hw191_0 := hx191_0
      cases e191
      replace hx191_0 := (HB.out.cell (block_lt_of_cell? w _ hx191_0)).trans hx191_0
      replace hx191_1 := (HB.out.cell (block_lt_of_cell? w _ hx191_1)).trans hx191_1
      replace hx191_2 := (HB.out.cell (block_lt_of_cell? w _ hx191_2)).trans hx191_2
      replace hx191_3 := (HB.out.cell (block_lt_of_cell? w _ hx191_3)).trans hx191_3
      replace p191 := eq_true p191
      replace q191 := eq_true q191
      refine start_ (n := 21) (S := fun w' => w'.cell? ⟨gb189, 0, none⟩ = some (.int .i64 a0_0) ∧ w'.cell? ⟨gb189, 1, none⟩ = some (.int .i64 a0_1) ∧ w'.cell? ⟨gb189, 2, none⟩ = some (.int .i64 a0_2) ∧ w'.cell? ⟨gb189, 3, none⟩ = some (.int .i64 a0_3) ∧ w'.cell? (ad191.add (((ji7)).toNat * 4)) = some (.int .i64 ((rd_T58 l2 (ji7)).f0)) ∧ w'.cell? ⟨(ad191.add (((ji7)).toNat * 4)).block, (ad191.add (((ji7)).toNat * 4)).off + 1, none⟩ = some (.int .i64 ((rd_T58 l2 (ji7)).f1)) ∧ w'.cell? ⟨(ad191.add (((ji7)).toNat * 4)).block, (ad191.add (((ji7)).toNat * 4)).off + 2, none⟩ = some (.int .i64 ((rd_T58 l2 (ji7)).f2)) ∧ w'.cell? ⟨(ad191.add (((ji7)).toNat * 4)).block, (ad191.add (((ji7)).toNat * 4)).off + 3, none⟩ = some (.int .i64 ((rd_T58 l2 (ji7)).f3))) (ds := []) #[false, false, false, false, false, false, false, false, false, false, false, false, false, false, false, false, false, false, false, false, false] (by kernel_rfl) rfl rfl ⟨(blk_cell BK189.out 0).trans rfl, (blk_cell BK189.out 1).trans rfl, (blk_cell BK189.out 2).trans rfl, (blk_cell BK189.out 3).trans rfl, ((HB.out.cell (block_lt_of_cell? w _ hw191_0)).trans hw191_0), ((HB.out.cell (block_lt_of_cell? w _ hw191_1)).trans hw191_1), ((HB.out.cell (block_lt_of_cell? w _ hw191_2)).trans hw191_2), ((HB.out.cell (block_lt_of_cell? w _ hw191_3)).trans hw191_3)⟩ (fun hHeld => ?_); refine with_tabW impl_Event_fits.tab1 impl_Event_fits.bits1 (fun HT_ HW_ => ?_)
      generalize w15.drew = w16 at BK189 HB hx191_0 hx191_1 hx191_2 hx191_3 hHeld ⊢
      refine puY (i := 1) 10 #[false, true, false, false, false, false, false, false, false, false, false, false, false, false, false, false, false, false, false, false, false] HT_ ?_
      refine take_ (i := 0) (N := some 9) (v := ?_) (a' := ?_) (bq 2 21) rfl rfl (take_ofW HT_.out HW_.out (by kernel_rfl)) (fun _ _ _ h => h) (Or.inl ⟨by rfl, ?_⟩) hHeld ?_ ?_
      rotate_left
      ·rintro w' ⟨s0, s1, s2, s3, s4, s5, s6, s7⟩
       go_simp
       with_reducible rfl
      rotate_left
      ·simp only [Act.put, stA, stZ, stS, i64_w, i32_w]
       rfl
      refine onY (i := 2) 11 (bq 3 21) HT_ (fun K hK => ?_)
      refine goes_ Try.func92 (by kernel_rfl) rfl #[.agg #[.int .i64 a0_0, .int .i64 a0_1, .int .i64 a0_2, .int .i64 a0_3], .slice A1 l1.length c1] (by rfl) rfl rfl (by (try simp only [map_toArray, map_cons, map_nil]); rfl) ?_
      with_reducible refine (impl_Event_isEvent.calls a0_0 a0_1 a0_2 a0_3 _ _ l1 true _ ?side1 ?side2 A4.out).mono ?_
      (case side1 => repeat (exact (C_below HR1.out HB.out)))
      (case side2 => exact HC1.out)
      rintro e w17 ⟨rfl, hb⟩
      refine ⟨_, rfl, ?_⟩
      have n0_ := Aside0.mk (blk_below (g := gb189) (o := .cells #[.int .i64 a0_0, .int .i64 a0_1, .int .i64 a0_2, .int .i64 a0_3] 58 (0, 0)) (by (with_reducible repeat (fail)); exact BK189.out) hb)
      have n1_ := Aside0.mk (below_step (by repeat ((with_reducible exact HB.out))) hb)
      clear BK189
      clear HB
      have BK189 := n0_
      have HB := n1_
      clear n0_ n1_
      (try clear hb)
      refine hK.out _ _ ⟨(blk_cell BK189.out 0).trans rfl, (blk_cell BK189.out 1).trans rfl, (blk_cell BK189.out 2).trans rfl, (blk_cell BK189.out 3).trans rfl, ((HB.out.cell (block_lt_of_cell? w _ hw191_0)).trans hw191_0), ((HB.out.cell (block_lt_of_cell? w _ hw191_1)).trans hw191_1), ((HB.out.cell (block_lt_of_cell? w _ hw191_2)).trans hw191_2), ((HB.out.cell (block_lt_of_cell? w _ hw191_3)).trans hw191_3)⟩ (fun hHeld => ?_)
      clear hK K
      refine norm_ (a' := ?_) ?_ ?_
      rotate_left
      ·show Act.put _ (some 11) _ = _
       simp only [Act.put, stA, stZ, stS, i64_w, i32_w]
       rfl
      refine puY (i := 3) 12 (bq 4 21) HT_ ?_
      refine puY (i := 4) 13 (bq 5 21) HT_ ?_
      refine puY (i := 5) 14 (bq 6 21) HT_ ?_
      refine puY (i := 6) 15 (bq 7 21) HT_ ?_
      refine puY (i := 7) 16 (bq 8 21) HT_ ?_
      refine puY (i := 8) 17 (bq 9 21) HT_ ?_
      refine puY (i := 9) 18 (bq 10 21) HT_ ?_
      refine puY (i := 10) 19 (bq 11 21) HT_ ?_
      refine puY (i := 11) 20 (bq 12 21) HT_ ?_
      refine puY (i := 12) 21 (bq 13 21) HT_ ?_
      refine puY (i := 13) 22 (bq 14 21) HT_ ?_
      refine puY (i := 14) 23 (bq 15 21) HT_ ?_
      refine puY (i := 16) 25 #[true, true, true, true, true, true, true, true, true, true, true, true, true, true, true, false, true, false, false, false, false] HT_ ?_
      refine take_ (i := 15) (N := some 24) (v := ?_) (a' := ?_) (bq 17 21) rfl rfl (take_ofW HT_.out HW_.out (by kernel_rfl)) (fun _ _ _ h => h) (Or.inl ⟨by rfl, ?_⟩) hHeld ?_ ?_
      rotate_left
      ·rintro w' ⟨s0, s1, s2, s3, s4, s5, s6, s7⟩
       go_simp
       with_reducible rfl
      rotate_left
      ·simp only [Act.put, stA, stZ, stS, i64_w, i32_w]
       rfl
      refine take_ (i := 17) (N := some 26) (v := ?_) (a' := ?_) (bq 18 21) rfl rfl (take_ofW HT_.out HW_.out (by kernel_rfl)) (fun _ _ _ h => h) (Or.inl ⟨by rfl, ?_⟩) hHeld ?_ ?_
      rotate_left
      ·rintro w' ⟨s0, s1, s2, s3, s4, s5, s6, s7⟩
       go_simp
       with_reducible rfl
      rotate_left
      ·simp only [Act.put, stA, stZ, stS, i64_w, i32_w]
       rfl
      refine puY (i := 18) 27 (bq 19 21) HT_ ?_
      refine puY (i := 19) 28 (bq 20 21) HT_ ?_
      refine puY (i := 20) 29 (bq 21 21) HT_ ?_
      refine done_ (done_of HT_.out (by kernel_rfl)) ?_
      have hcz18_0 : w17.cell? ⟨gb189, 0, none⟩ = some (.int .i64 a0_0) := (blk_cell BK189.out 0).trans rfl
      have hcz18_1 : w17.cell? ⟨gb189, 1, none⟩ = some (.int .i64 a0_1) := (blk_cell BK189.out 1).trans rfl
      have hcz18_2 : w17.cell? ⟨gb189, 2, none⟩ = some (.int .i64 a0_2) := (blk_cell BK189.out 2).trans rfl
      have hcz18_3 : w17.cell? ⟨gb189, 3, none⟩ = some (.int .i64 a0_3) := (blk_cell BK189.out 3).trans rfl
      have hfz18_0 := blk_frozen BK189.out 0
      have hfz18_1 := blk_frozen BK189.out 1
      have hfz18_2 := blk_frozen BK189.out 2
      have hfz18_3 := blk_frozen BK189.out 3
      try go_wp2_with (first | ((with_reducible refine gate_callee (f := 79) rfl ?_); refine goesL_ (some 35) rfl rfl Try.func79 (by kernel_rfl) rfl #[.slice A1 l1.length c1, .slice (some ad191) l2.length c2, .int .i64 a0_0] rfl (by (try simp only [map_toArray, map_cons, map_nil]); rfl) ?_; (with_reducible refine (impl_firstOf.calls k _ _ l1 _ _ l2 a0_0 t192 t193 t194 t195 t196 _ ?side1 ?side2 ?side3 ?side4 A14.out).mono ?_); (case side1 => repeat (exact (C_below HR1.out HB.out))); (case side2 => exact HC1.out); (case side3 => repeat (exact (C_below HR2.out HB.out))); (case side4 => exact HC2.out); rintro e w19 ⟨rfl, hb⟩; refine ⟨_, rfl, ?_⟩; have n0_ := Aside0.mk (blk_below (g := gb189) (o := .cells #[.int .i64 a0_0, .int .i64 a0_1, .int .i64 a0_2, .int .i64 a0_3] 58 (0, 0)) (by (with_reducible repeat (fail)); exact BK189.out) hb); have n1_ := Aside0.mk (below_step (by repeat ((with_reducible exact HB.out))) hb); clear BK189; clear HB; have BK189 := n0_; have HB := n1_; clear n0_ n1_; (try clear hb); skip) | ((with_reducible refine gate_dst (N := 7) rfl ?_); (try (refine gate_guard (by rfl) ?_; dsimp only)); refine box_event ?hg (N := 7) ?hd (cs := #[.int .i64 0, .int .i64 0, .int .i64 0, .int .i64 0]) (t := 58) ?hr ?_; (case hd => rfl); (case hg => rfl); (case hr => (go_simp; done)); intro gb197 hg w20 hbox hb; have n0_ := Aside0.mk (blk_below (g := gb189) (o := .cells #[.int .i64 a0_0, .int .i64 a0_1, .int .i64 a0_2, .int .i64 a0_3] 58 (0, 0)) (by (with_reducible repeat (fail)); exact BK189.out) hb); have n1_ := Aside0.mk (below_step (by repeat ((with_reducible exact HB.out))) hb); have n2_ := Aside0.mk (hbox); have n3_ := Aside0.mk ((by rw [hg]; exact (below_size (by repeat ((with_reducible exact HB.out)))) : w.heap.size ≤ gb197)); have n4_ := Aside0.mk ((by rw [hg]; exact (below_size (by repeat ((with_reducible exact HB.out)))) : w.heap.size ≤ gb197)); have n5_ := Aside0.mk ((by rw [hg]; exact Nat.ne_of_lt (blk_lt (g := gb189) (o := .cells #[.int .i64 a0_0, .int .i64 a0_1, .int .i64 a0_2, .int .i64 a0_3] 58 (0, 0)) (by (with_reducible repeat (fail)); exact BK189.out)) : gb189 ≠ gb197)); have n6_ := Aside0.mk ((by rw [hg]; exact Nat.ne_of_gt (blk_lt (g := gb189) (o := .cells #[.int .i64 a0_0, .int .i64 a0_1, .int .i64 a0_2, .int .i64 a0_3] 58 (0, 0)) (by (with_reducible repeat (fail)); exact BK189.out)) : gb197 ≠ gb189)); clear BK189; clear HB; have BK189 := n0_; have HB := n1_; have BK197 := n2_; have GW197 := n3_; have GE197 := n4_; have NB189_197 := n5_; have NB197_189 := n6_; clear n0_ n1_ n2_ n3_ n4_ n5_ n6_; clear hb hbox hg; have hnb21 := NB197_189.out; have hnc21 := NB189_197.out; have hcz22_0 : w20.cell? ⟨gb197, 0, none⟩ = some (.int .i64 0) := (blk_cell BK197.out 0).trans rfl; have hcz22_1 : w20.cell? ⟨gb197, 1, none⟩ = some (.int .i64 0) := (blk_cell BK197.out 1).trans rfl; have hcz22_2 : w20.cell? ⟨gb197, 2, none⟩ = some (.int .i64 0) := (blk_cell BK197.out 2).trans rfl; have hcz22_3 : w20.cell? ⟨gb197, 3, none⟩ = some (.int .i64 0) := (blk_cell BK197.out 3).trans rfl; have hfz22_0 := blk_frozen BK197.out 0; have hfz22_1 := blk_frozen BK197.out 1; have hfz22_2 := blk_frozen BK197.out 2; have hfz22_3 := blk_frozen BK197.out 3))
      go_ret
      exact ⟨by rfl, by repeat ((with_reducible first | exact HB.out | refine below_set ?_ GE197.out))⟩
    ·rw [if_neg c9] at H
     exact absurd H (by simp)
   ·rw [if_neg c8] at H
    exact absurd H (by simp)
  ·rw [if_neg c6] at H
   have c6b0 : decide (0 < (l2.length : Int)) = false := decide_eq_false c6
   have c6b1 : decide (0 < l2.length) = false := decide_eq_false (by omega)
   clear c6
   replace H := bind_eq_some_iff.mp H
   obtain ⟨⟨t198, t199, t200, t201, t202⟩, A230, H⟩ := H
   replace H : (some (!t202)) = some r := H
   have A23 := Aside0.mk A230
   clear A230
   obtain rfl := Option.some.inj H
   go_enter Try.func78, Try.ntmps78
   try go_wp2_with ((with_reducible refine gate_dst (N := 3) rfl ?_); (try (refine gate_guard (by rfl) ?_; dsimp only)); refine box_event ?hg (N := 3) ?hd (cs := #[.int .i64 a0_0, .int .i64 a0_1, .int .i64 a0_2, .int .i64 a0_3]) (t := 58) ?hr ?_; (case hd => rfl); (case hg => rfl); (case hr => (go_simp; done)); intro gb189 hg w24 hbox hb; have n0_ := Aside0.mk (below_step (by repeat ((with_reducible exact HB.out))) hb); have n1_ := Aside0.mk (hbox); have n2_ := Aside0.mk ((by rw [hg]; exact (below_size (by repeat ((with_reducible exact HB.out)))) : w.heap.size ≤ gb189)); have n3_ := Aside0.mk ((by rw [hg]; exact (below_size (by repeat ((with_reducible exact HB.out)))) : w.heap.size ≤ gb189)); clear HB; have HB := n0_; have BK189 := n1_; have GW189 := n2_; have GE189 := n3_; clear n0_ n1_ n2_ n3_; clear hb hbox hg)
   have n0_ := Aside0.mk (blk_drew BK189.out)
   have n1_ := Aside0.mk (bw1 HB.out)
   clear BK189
   clear HB
   have BK189 := n0_
   have HB := n1_
   clear n0_ n1_
   refine start_ (n := 21) (S := fun w' => w'.cell? ⟨gb189, 0, none⟩ = some (.int .i64 a0_0) ∧ w'.cell? ⟨gb189, 1, none⟩ = some (.int .i64 a0_1) ∧ w'.cell? ⟨gb189, 2, none⟩ = some (.int .i64 a0_2) ∧ w'.cell? ⟨gb189, 3, none⟩ = some (.int .i64 a0_3)) (ds := []) #[false, false, false, false, false, false, false, false, false, false, false, false, false, false, false, false, false, false, false, false, false] (by kernel_rfl) rfl rfl ⟨(blk_cell BK189.out 0).trans rfl, (blk_cell BK189.out 1).trans rfl, (blk_cell BK189.out 2).trans rfl, (blk_cell BK189.out 3).trans rfl⟩ (fun hHeld => ?_); refine with_tabW impl_Event_fits.tab1 impl_Event_fits.bits1 (fun HT_ HW_ => ?_)
   generalize w24.drew = w25 at BK189 HB hHeld ⊢
   refine puY (i := 1) 10 #[false, true, false, false, false, false, false, false, false, false, false, false, false, false, false, false, false, false, false, false, false] HT_ ?_
   refine take_ (i := 0) (N := some 9) (v := ?_) (a' := ?_) (bq 2 21) rfl rfl (take_ofW HT_.out HW_.out (by kernel_rfl)) (fun _ _ _ h => h) (Or.inl ⟨by rfl, ?_⟩) hHeld ?_ ?_
   rotate_left
   ·rintro w' ⟨s0, s1, s2, s3⟩
    go_simp
    with_reducible rfl
   rotate_left
   ·simp only [Act.put, stA, stZ, stS, i64_w, i32_w]
    rfl
   refine onY (i := 2) 11 (bq 3 21) HT_ (fun K hK => ?_)
   refine goes_ Try.func92 (by kernel_rfl) rfl #[.agg #[.int .i64 a0_0, .int .i64 a0_1, .int .i64 a0_2, .int .i64 a0_3], .slice A1 l1.length c1] (by rfl) rfl rfl (by (try simp only [map_toArray, map_cons, map_nil]); rfl) ?_
   with_reducible refine (impl_Event_isEvent.calls a0_0 a0_1 a0_2 a0_3 _ _ l1 true _ ?side1 ?side2 A4.out).mono ?_
   (case side1 => repeat (exact (C_below HR1.out HB.out)))
   (case side2 => exact HC1.out)
   rintro e w26 ⟨rfl, hb⟩
   refine ⟨_, rfl, ?_⟩
   have n0_ := Aside0.mk (blk_below (g := gb189) (o := .cells #[.int .i64 a0_0, .int .i64 a0_1, .int .i64 a0_2, .int .i64 a0_3] 58 (0, 0)) (by (with_reducible repeat (fail)); exact BK189.out) hb)
   have n1_ := Aside0.mk (below_step (by repeat ((with_reducible exact HB.out))) hb)
   clear BK189
   clear HB
   have BK189 := n0_
   have HB := n1_
   clear n0_ n1_
   (try clear hb)
   refine hK.out _ _ ⟨(blk_cell BK189.out 0).trans rfl, (blk_cell BK189.out 1).trans rfl, (blk_cell BK189.out 2).trans rfl, (blk_cell BK189.out 3).trans rfl⟩ (fun hHeld => ?_)
   clear hK K
   refine norm_ (a' := ?_) ?_ ?_
   rotate_left
   ·show Act.put _ (some 11) _ = _
    simp only [Act.put, stA, stZ, stS, i64_w, i32_w]
    rfl
   refine puY (i := 3) 12 (bq 4 21) HT_ ?_
   refine puY (i := 4) 13 (bq 5 21) HT_ ?_
   refine puY (i := 5) 14 (bq 6 21) HT_ ?_
   refine puY (i := 6) 15 (bq 7 21) HT_ ?_
   refine puY (i := 7) 16 (bq 8 21) HT_ ?_
   refine puY (i := 8) 17 (bq 9 21) HT_ ?_
   refine puN (i := 9) 18 (bq 10 21) HT_ ?_
   refine puN (i := 10) 19 (bq 11 21) HT_ ?_
   refine puN (i := 11) 20 (bq 12 21) HT_ ?_
   refine puN (i := 12) 21 (bq 13 21) HT_ ?_
   refine puN (i := 13) 22 (bq 14 21) HT_ ?_
   refine puN (i := 14) 23 (bq 15 21) HT_ ?_
   refine puN (i := 15) 24 (bq 16 21) HT_ ?_
   refine puN (i := 16) 25 (bq 17 21) HT_ ?_
   refine puN (i := 17) 26 (bq 18 21) HT_ ?_
   refine puN (i := 18) 27 (bq 19 21) HT_ ?_
   refine puY (i := 19) 28 (bq 20 21) HT_ ?_
   refine puY (i := 20) 29 (bq 21 21) HT_ ?_
   refine done_ (done_of HT_.out (by kernel_rfl)) ?_
   have hcz27_0 : w26.cell? ⟨gb189, 0, none⟩ = some (.int .i64 a0_0) := (blk_cell BK189.out 0).trans rfl
   have hcz27_1 : w26.cell? ⟨gb189, 1, none⟩ = some (.int .i64 a0_1) := (blk_cell BK189.out 1).trans rfl
   have hcz27_2 : w26.cell? ⟨gb189, 2, none⟩ = some (.int .i64 a0_2) := (blk_cell BK189.out 2).trans rfl
   have hcz27_3 : w26.cell? ⟨gb189, 3, none⟩ = some (.int .i64 a0_3) := (blk_cell BK189.out 3).trans rfl
   have hfz27_0 := blk_frozen BK189.out 0
   have hfz27_1 := blk_frozen BK189.out 1
   have hfz27_2 := blk_frozen BK189.out 2
   have hfz27_3 := blk_frozen BK189.out 3
   try go_wp2_with (first | ((with_reducible refine gate_callee (f := 79) rfl ?_); refine goesL_ (some 35) rfl rfl Try.func79 (by kernel_rfl) rfl #[.slice A1 l1.length c1, .slice A2 l2.length c2, .int .i64 a0_0] rfl (by (try simp only [map_toArray, map_cons, map_nil]); rfl) ?_; (with_reducible refine (impl_firstOf.calls k _ _ l1 _ _ l2 a0_0 t198 t199 t200 t201 t202 _ ?side1 ?side2 ?side3 ?side4 A23.out).mono ?_); (case side1 => repeat (exact (C_below HR1.out HB.out))); (case side2 => exact HC1.out); (case side3 => repeat (exact (C_below HR2.out HB.out))); (case side4 => exact HC2.out); rintro e w28 ⟨rfl, hb⟩; refine ⟨_, rfl, ?_⟩; have n0_ := Aside0.mk (blk_below (g := gb189) (o := .cells #[.int .i64 a0_0, .int .i64 a0_1, .int .i64 a0_2, .int .i64 a0_3] 58 (0, 0)) (by (with_reducible repeat (fail)); exact BK189.out) hb); have n1_ := Aside0.mk (below_step (by repeat ((with_reducible exact HB.out))) hb); clear BK189; clear HB; have BK189 := n0_; have HB := n1_; clear n0_ n1_; (try clear hb); skip) | ((with_reducible refine gate_dst (N := 7) rfl ?_); (try (refine gate_guard (by rfl) ?_; dsimp only)); refine box_event ?hg (N := 7) ?hd (cs := #[.int .i64 0, .int .i64 0, .int .i64 0, .int .i64 0]) (t := 58) ?hr ?_; (case hd => rfl); (case hg => rfl); (case hr => (go_simp; done)); intro gb203 hg w29 hbox hb; have n0_ := Aside0.mk (blk_below (g := gb189) (o := .cells #[.int .i64 a0_0, .int .i64 a0_1, .int .i64 a0_2, .int .i64 a0_3] 58 (0, 0)) (by (with_reducible repeat (fail)); exact BK189.out) hb); have n1_ := Aside0.mk (below_step (by repeat ((with_reducible exact HB.out))) hb); have n2_ := Aside0.mk (hbox); have n3_ := Aside0.mk ((by rw [hg]; exact (below_size (by repeat ((with_reducible exact HB.out)))) : w.heap.size ≤ gb203)); have n4_ := Aside0.mk ((by rw [hg]; exact (below_size (by repeat ((with_reducible exact HB.out)))) : w.heap.size ≤ gb203)); have n5_ := Aside0.mk ((by rw [hg]; exact Nat.ne_of_lt (blk_lt (g := gb189) (o := .cells #[.int .i64 a0_0, .int .i64 a0_1, .int .i64 a0_2, .int .i64 a0_3] 58 (0, 0)) (by (with_reducible repeat (fail)); exact BK189.out)) : gb189 ≠ gb203)); have n6_ := Aside0.mk ((by rw [hg]; exact Nat.ne_of_gt (blk_lt (g := gb189) (o := .cells #[.int .i64 a0_0, .int .i64 a0_1, .int .i64 a0_2, .int .i64 a0_3] 58 (0, 0)) (by (with_reducible repeat (fail)); exact BK189.out)) : gb203 ≠ gb189)); clear BK189; clear HB; have BK189 := n0_; have HB := n1_; have BK203 := n2_; have GW203 := n3_; have GE203 := n4_; have NB189_203 := n5_; have NB203_189 := n6_; clear n0_ n1_ n2_ n3_ n4_ n5_ n6_; clear hb hbox hg; have hnb30 := NB203_189.out; have hnc30 := NB189_203.out; have hcz31_0 : w29.cell? ⟨gb203, 0, none⟩ = some (.int .i64 0) := (blk_cell BK203.out 0).trans rfl; have hcz31_1 : w29.cell? ⟨gb203, 1, none⟩ = some (.int .i64 0) := (blk_cell BK203.out 1).trans rfl; have hcz31_2 : w29.cell? ⟨gb203, 2, none⟩ = some (.int .i64 0) := (blk_cell BK203.out 2).trans rfl; have hcz31_3 : w29.cell? ⟨gb203, 3, none⟩ = some (.int .i64 0) := (blk_cell BK203.out 3).trans rfl; have hfz31_0 := blk_frozen BK203.out 0; have hfz31_1 := blk_frozen BK203.out 1; have hfz31_2 := blk_frozen BK203.out 2; have hfz31_3 := blk_frozen BK203.out 3))
   go_ret
   exact ⟨by rfl, by repeat ((with_reducible first | exact HB.out | refine below_set ?_ GE203.out))⟩
 ·replace c5 := Bool.eq_false_iff.mpr c5
  subst c5
  have H1 : (some false) = some r := by rw [if_neg (show ¬ (false = true) by decide)] at H; exact H
  clear H
  have H := H1
  clear H1
  obtain rfl := Option.some.inj H
  go_enter Try.func78, Try.ntmps78
  try go_wp2_with ((with_reducible refine gate_dst (N := 3) rfl ?_); (try (refine gate_guard (by rfl) ?_; dsimp only)); refine box_event ?hg (N := 3) ?hd (cs := #[.int .i64 a0_0, .int .i64 a0_1, .int .i64 a0_2, .int .i64 a0_3]) (t := 58) ?hr ?_; (case hd => rfl); (case hg => rfl); (case hr => (go_simp; done)); intro gb189 hg w32 hbox hb; have n0_ := Aside0.mk (below_step (by repeat ((with_reducible exact HB.out))) hb); have n1_ := Aside0.mk (hbox); have n2_ := Aside0.mk ((by rw [hg]; exact (below_size (by repeat ((with_reducible exact HB.out)))) : w.heap.size ≤ gb189)); have n3_ := Aside0.mk ((by rw [hg]; exact (below_size (by repeat ((with_reducible exact HB.out)))) : w.heap.size ≤ gb189)); clear HB; have HB := n0_; have BK189 := n1_; have GW189 := n2_; have GE189 := n3_; clear n0_ n1_ n2_ n3_; clear hb hbox hg)
  have n0_ := Aside0.mk (blk_drew BK189.out)
  have n1_ := Aside0.mk (bw1 HB.out)
  clear BK189
  clear HB
  have BK189 := n0_
  have HB := n1_
  clear n0_ n1_
  refine start_ (n := 21) (S := fun w' => w'.cell? ⟨gb189, 0, none⟩ = some (.int .i64 a0_0) ∧ w'.cell? ⟨gb189, 1, none⟩ = some (.int .i64 a0_1) ∧ w'.cell? ⟨gb189, 2, none⟩ = some (.int .i64 a0_2) ∧ w'.cell? ⟨gb189, 3, none⟩ = some (.int .i64 a0_3)) (ds := []) #[false, false, false, false, false, false, false, false, false, false, false, false, false, false, false, false, false, false, false, false, false] (by kernel_rfl) rfl rfl ⟨(blk_cell BK189.out 0).trans rfl, (blk_cell BK189.out 1).trans rfl, (blk_cell BK189.out 2).trans rfl, (blk_cell BK189.out 3).trans rfl⟩ (fun hHeld => ?_); refine with_tabW impl_Event_fits.tab1 impl_Event_fits.bits1 (fun HT_ HW_ => ?_)
  generalize w32.drew = w33 at BK189 HB hHeld ⊢
  refine puY (i := 1) 10 #[false, true, false, false, false, false, false, false, false, false, false, false, false, false, false, false, false, false, false, false, false] HT_ ?_
  refine take_ (i := 0) (N := some 9) (v := ?_) (a' := ?_) (bq 2 21) rfl rfl (take_ofW HT_.out HW_.out (by kernel_rfl)) (fun _ _ _ h => h) (Or.inl ⟨by rfl, ?_⟩) hHeld ?_ ?_
  rotate_left
  ·rintro w' ⟨s0, s1, s2, s3⟩
   go_simp
   with_reducible rfl
  rotate_left
  ·simp only [Act.put, stA, stZ, stS, i64_w, i32_w]
   rfl
  refine onY (i := 2) 11 (bq 3 21) HT_ (fun K hK => ?_)
  refine goes_ Try.func92 (by kernel_rfl) rfl #[.agg #[.int .i64 a0_0, .int .i64 a0_1, .int .i64 a0_2, .int .i64 a0_3], .slice A1 l1.length c1] (by rfl) rfl rfl (by (try simp only [map_toArray, map_cons, map_nil]); rfl) ?_
  with_reducible refine (impl_Event_isEvent.calls a0_0 a0_1 a0_2 a0_3 _ _ l1 false _ ?side1 ?side2 A4.out).mono ?_
  (case side1 => repeat (exact (C_below HR1.out HB.out)))
  (case side2 => exact HC1.out)
  rintro e w34 ⟨rfl, hb⟩
  refine ⟨_, rfl, ?_⟩
  have n0_ := Aside0.mk (blk_below (g := gb189) (o := .cells #[.int .i64 a0_0, .int .i64 a0_1, .int .i64 a0_2, .int .i64 a0_3] 58 (0, 0)) (by (with_reducible repeat (fail)); exact BK189.out) hb)
  have n1_ := Aside0.mk (below_step (by repeat ((with_reducible exact HB.out))) hb)
  clear BK189
  clear HB
  have BK189 := n0_
  have HB := n1_
  clear n0_ n1_
  (try clear hb)
  refine hK.out _ _ ⟨(blk_cell BK189.out 0).trans rfl, (blk_cell BK189.out 1).trans rfl, (blk_cell BK189.out 2).trans rfl, (blk_cell BK189.out 3).trans rfl⟩ (fun hHeld => ?_)
  clear hK K
  refine norm_ (a' := ?_) ?_ ?_
  rotate_left
  ·show Act.put _ (some 11) _ = _
   simp only [Act.put, stA, stZ, stS, i64_w, i32_w]
   rfl
  refine puY (i := 3) 12 (bq 4 21) HT_ ?_
  refine puY (i := 4) 13 (bq 5 21) HT_ ?_
  refine puN (i := 5) 14 (bq 6 21) HT_ ?_
  refine puN (i := 6) 15 (bq 7 21) HT_ ?_
  refine puN (i := 7) 16 (bq 8 21) HT_ ?_
  refine puN (i := 8) 17 (bq 9 21) HT_ ?_
  refine puN (i := 9) 18 (bq 10 21) HT_ ?_
  refine puN (i := 10) 19 (bq 11 21) HT_ ?_
  refine puN (i := 11) 20 (bq 12 21) HT_ ?_
  refine puN (i := 12) 21 (bq 13 21) HT_ ?_
  refine puN (i := 13) 22 (bq 14 21) HT_ ?_
  refine puN (i := 14) 23 (bq 15 21) HT_ ?_
  refine puN (i := 15) 24 (bq 16 21) HT_ ?_
  refine puN (i := 16) 25 (bq 17 21) HT_ ?_
  refine puN (i := 17) 26 (bq 18 21) HT_ ?_
  refine puN (i := 18) 27 (bq 19 21) HT_ ?_
  refine puN (i := 19) 28 (bq 20 21) HT_ ?_
  refine puY (i := 20) 29 (bq 21 21) HT_ ?_
  refine done_ (done_of HT_.out (by kernel_rfl)) ?_
  try go_wp2
  go_ret
  exact ⟨by rfl, by repeat ((with_reducible exact HB.out))⟩
end Go.Proofs.Ytcndchcepajmjaa.PFnLetGo
