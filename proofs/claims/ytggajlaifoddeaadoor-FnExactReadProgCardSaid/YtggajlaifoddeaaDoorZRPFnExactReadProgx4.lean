/- Texts of the claim of the law FnExactReadProg, made smaller by a program of this session: what the claim does not use is left out. No condition. -/
import Derived.Test.YtggajlaifoddeaaDoorZRPFnExactReadProgx0
import Derived.Test.YtggajlaifoddeaaDoorZRPFnExactReadProgx1
import Derived.Test.YtggajlaifoddeaaDoorZRPFnExactReadProgx2
import Derived.Test.YtggajlaifoddeaaDoorZRPFnExactReadProgx3
namespace Go.Proofs.YtggajlaifoddeaaDoor.PFnExactReadProg
open Go.RowKit Go.Proofs.YtggajlaifoddeaaDoorW.PrintWords Go.Proofs.YtggajlaifoddeaaDoorW.PrintLast Go.Proofs.YtggajlaifoddeaaDoorW.PrintMore
open List (map_toArray map_cons map_nil length_drop length_take)
open Option (bind_eq_some_iff)
open Go.World (block_lt_of_cell?)
open Kd (R_drew R_drewN R_alloc R_reads' R_below)
attribute [local go_sem] max2_int min2_int max_two min_two max_three min_three max_four min_four   -- for this text's walks alone
set_option linter.unusedVariables false
set_option linter.unusedSimpArgs false
mutual
def spec_l9Read.l0 : Nat → List ByteArray → Int → Option (Int × Int × Int × Bool)
 | 0, _, _ => none
 | k + 1, x4, x5 => if x5 ≤ 10 then ((spec_l9Name.f x5).bind fun t132 => (if 0 < (x4.length : Int) then (if t132.toList = (rdOf ByteArray.empty x4 0).toList then (if (x4.length : Int) = 2 then (if (x4.length : Int) = 3 then (spec_l9Read.j1 k x4 x5 false) else ((spec_l9Two.f x5).bind fun t134 => (spec_l9Read.j1 k x4 x5 t134))) else ((spec_l9Two.f x5).bind fun t135 => (if t135 = true then (if (x4.length : Int) = 3 then (spec_l9Read.j1 k x4 x5 false) else ((spec_l9Two.f x5).bind fun t136 => (spec_l9Read.j1 k x4 x5 t136))) else (spec_l9Read.j1 k x4 x5 true)))) else (spec_l9Read.j1 k x4 x5 true)) else (none))) else (some (0, 0, 0, false))
def spec_l9Read.j1 : Nat → List ByteArray → Int → Bool → Option (Int × Int × Int × Bool)
 | 0, _, _, _ => none
 | k + 1, x4, x5, x38 => if x38 = true then (spec_l9Read.l0 k x4 (wrap64 (x5 + 1))) else (if 1 < (x4.length : Int) then (if (rdOf ByteArray.empty x4 1).toList = ([105, 116] : List UInt8) then (spec_l9Read.j2 k x4 x5 true x5 (-1) 0) else ((spec_l1Read.f k (rdOf ByteArray.empty x4 1)).bind fun bt140 => (if bt140.2 = true then (spec_l9Read.j2 k x4 x5 (decide (bt140.1 ≥ 0)) x5 bt140.1 0) else (spec_l9Read.j2 k x4 x5 false x5 bt140.1 0)))) else (none))
def spec_l9Read.j2 : Nat → List ByteArray → Int → Bool → Int → Int → Int → Option (Int × Int × Int × Bool)
 | 0, _, _, _, _, _, _ => none
 | k + 1, x4, x5, x7, x138000, x138001, x138002 => if x7 = true then ((spec_l9Two.f x5).bind fun t142 => (spec_l9Read.j3 k x4 x7 t142 x138000 x138001 x138002)) else (spec_l9Read.j3 k x4 x7 false x138000 x138001 x138002)
def spec_l9Read.j3 : Nat → List ByteArray → Bool → Bool → Int → Int → Int → Option (Int × Int × Int × Bool)
 | 0, _, _, _, _, _, _ => none
 | k + 1, x4, x7, x64, x138000, x138001, x138002 => if x64 = true then (if 2 < (x4.length : Int) then ((spec_l1Read.f k (rdOf ByteArray.empty x4 2)).bind fun bt144 => (if bt144.2 = true then ((spec_InsOk.f k x138000 x138001 bt144.1).bind fun t146 => (some (x138000, x138001, bt144.1, t146))) else (some (x138000, x138001, bt144.1, false)))) else (none)) else (if x7 = true then ((spec_InsOk.f k x138000 x138001 x138002).bind fun t147 => (some (x138000, x138001, x138002, t147))) else (some (x138000, x138001, x138002, false)))
end
def spec_l9Read.f (k : Nat) (a0 : ByteArray) : Option (Int × Int × Int × Bool) := (spec_l1Split.f k a0 32).bind fun t129 => (spec_l9Read.l0 k t129 0)
def spec_l9Read.T5 : Bool × List (List Nat × List Nat) := (true, [([], []), ([0], [0]), ([], []), ([2], [2]), ([3], [3]), ([1, 4], [1, 4]), ([5, 1], [5]), ([6], [6]), ([7, 6], [6, 7]), ([8, 6], [6, 8]), ([9, 6, 6], [6, 9]), ([10], [10]), ([11, 10, 10], [10, 11]), ([12, 10], [10, 12]), ([10, 13, 6], [6, 10, 13]), ([6, 14], [6, 14]), ([15, 12], [15]), ([16], [16]), ([17, 16], [16, 17]), ([18, 16], [16, 18]), ([19, 16, 16], [16, 19]), ([20], [20]), ([21, 20, 20], [20, 21]), ([20, 22, 16], [16, 20, 22]), ([16, 23], [16, 23])])
def spec_l9Read.B5 : List Nat := [0, 1, 0, 4, 12, 31, 63, 127, 255, 511, 1023, 2047, 4095, 8191, 16383, 32767, 65535, 131071, 262143, 524287, 1048575, 2097151, 4194303, 8388607, 16777215]
theorem spec_l9Read.tab5 : rtab .any (opsOf Tryd.f14 5) = spec_l9Read.T5 := by kernel_rfl
theorem spec_l9Read.bits5 : waitsOk spec_l9Read.T5.2 spec_l9Read.B5 = true := by kernel_rfl
def spec_l9Read.T14 : Bool × List (List Nat × List Nat) := (true, [([], []), ([], []), ([1], [1]), ([2], [2]), ([3, 2, 2], [2, 3]), ([2, 4], [2, 4]), ([0, 4, 0], [0]), ([5, 6, 0, 1, 2, 3, 4, 5, 6], [5])])
def spec_l9Read.B14 : List Nat := [0, 0, 2, 6, 14, 30, 31, 127]
theorem spec_l9Read.tab14 : rtab .any (opsOf Tryd.f14 14) = spec_l9Read.T14 := by kernel_rfl
theorem spec_l9Read.bits14 : waitsOk spec_l9Read.T14.2 spec_l9Read.B14 = true := by kernel_rfl
set_option maxHeartbeats 8000000 in
set_option maxRecDepth 100000 in
theorem spec_l9Read.calls (k : Nat) (a0 : ByteArray) (r1 : Int) (r2 : Int) (r3 : Int) (r4 : Bool) (w : World) (h : spec_l9Read.f k a0 = some (r1, r2, r3, r4)) :
  Calls Tryd.prog 14 #[.string a0] w fun e w' => e = .returned (.tuple #[.agg #[.int .i64 r1, .int .i64 r2, .int .i64 r3], .bool r4]) ∧ Below w.heap.size w w' := by
 have hu34 := Tryd.underlying34
 have HB := Aside0.mk (Below.refl w.heap.size w)
 have H : ((spec_l1Split.f k a0 32).bind fun t129 => (spec_l9Read.l0 k t129 0)) = some (r1, r2, r3, r4) := h
 clear h
 replace H := bind_eq_some_iff.mp H
 obtain ⟨t129, A20, H⟩ := H
 replace H : (spec_l9Read.l0 k t129 0) = some (r1, r2, r3, r4) := H
 have A2 := Aside0.mk A20
 clear A20
 have H' := Aside0.mk H
 clear H
 go_enter Tryd.func14, Tryd.ntmps14
 go_wp2_with (first | ((with_reducible refine gate_dst (N := 2) rfl ?_); (try (refine gate_guard (by rfl) ?_; dsimp only)); refine box_event ?hg (N := 2) ?hd (cs := #[.int .i64 0, .int .i64 0, .int .i64 0]) (t := 34) ?hr ?_; (case hd => rfl); (case hg => rfl); (case hr => first | (go_simp; done) | (go_simp; rfl)); intro gb128 hg w3 hbox hb; have n0_ := Aside0.mk (below_step (by repeat (first | (with_reducible first | exact HB.out | apply bwA | apply bwN | apply bw1) | exact HB.out)) hb); have n1_ := Aside0.mk (hbox); have n2_ := Aside0.mk ((by rw [hg]; exact (below_size (by repeat (first | (with_reducible first | exact HB.out | apply bwA | apply bwN | apply bw1) | exact HB.out))) : w.heap.size ≤ gb128)); have n3_ := Aside0.mk ((by rw [hg]; exact (below_size (by repeat (first | (with_reducible first | exact HB.out | apply bwA | apply bwN | apply bw1) | exact HB.out))) : w.heap.size ≤ gb128)); clear HB; have HB := n0_; have BK128 := n1_; have GW128 := n2_; have GE128 := n3_; clear n0_ n1_ n2_ n3_; clear hb hbox hg) | ((with_reducible refine gate_callee (f := 24) rfl ?_); refine goesL_ (some 9) rfl rfl Tryd.func24 (by kernel_rfl) rfl #[.string a0, .int .u8 32] rfl (by (try simp only [map_toArray, map_cons, map_nil]); first | done | rfl | (simp only [length_drop, length_take]; rfl)) ?_; (with_reducible refine (spec_l1Split.calls k a0 32 t129 _ A2.out).mono ?_); rintro e w4 ⟨v130, rfl, ho0, hb⟩; refine ⟨_, rfl, ?_⟩; have n0_ := Aside0.mk (Kd.R_lower ho0 (below_size (by repeat (first | (with_reducible first | exact HB.out | apply bwA | apply bwN | apply bw1 | refine below_set ?_ GE128.out) | exact HB.out)))); have n1_ := Aside0.mk (blk_below (g := gb128) (o := .cells #[.int .i64 0, .int .i64 0, .int .i64 0] 34 (0, 0)) (by (with_reducible repeat (first | refine blk_drewN ?_ _ | refine blk_drew ?_ | refine blk_alloc ?_ _)); exact BK128.out) hb); have n2_ := Aside0.mk (below_step (by repeat (first | (with_reducible first | exact HB.out | apply bwA | apply bwN | apply bw1 | refine below_set ?_ GE128.out) | exact HB.out)) hb); clear BK128; clear HB; have HO131 := n0_; have BK128 := n1_; have HB := n2_; clear n0_ n1_ n2_; (try clear hb); (try clear hb2); (try clear hk); (try clear hi); (try clear ho0)))
 go_loopg [5] k (fun kq v5 w' => ∃ (x5_1 : Int) (x129000_1 : Int) (x129001_1 : Int) (x129002_1 : Int), v5 = .int .i64 x5_1 ∧ Aside0 (spec_l9Read.l0 kq t129 x5_1 = some (r1, r2, r3, r4)) ∧ Aside0 (kq ≤ k) ∧ Aside0 (Kd.R Kd.string 9 w' w.heap.size (fun _ => True) v130 t129) ∧ Aside0 (w'.heap[gb128]? = some (.cells #[.int .i64 x129000_1, .int .i64 x129001_1, .int .i64 x129002_1] 34 (0, 0))) ∧ Aside0 (Below w.heap.size w w'))
 case atStart => exact ⟨(0), (0), (0), (0), (by first | rfl | (simp; done) | (simp [*]; done)), H', ⟨Nat.le_refl _⟩, ⟨by (with_reducible repeat (first | apply R_alloc | apply R_drewN | apply R_drew)); exact HO131.out⟩, ⟨by (with_reducible repeat (first | refine blk_drewN ?_ _ | refine blk_drew ?_ | refine blk_alloc ?_ _)); exact BK128.out⟩, ⟨by repeat (first | (with_reducible first | exact HB.out | apply bwA | apply bwN | apply bw1 | refine below_set ?_ GE128.out) | exact HB.out)⟩⟩
 case round =>
  clear H'
  try clear c1
  try clear c2
  try clear p2
  obtain ⟨x5_1, x129000_1, x129001_1, x129002_1, rfl, HA, HK1, HO_4, BK128, HB⟩ := hrel
  cases gk with
  | zero => exact absurd HA.out (by simp [spec_l9Read.l0])
  | succ k1 =>
   have H := HA.out
   clear HA
   simp only [spec_l9Read.l0] at H
   by_cases c5 : x5_1 ≤ 10
   ·rw [if_pos c5] at H
    have c5b0 : decide (x5_1 ≤ 10) = true := decide_eq_true c5
    clear c5
    have HC6 := Aside0.mk H
    clear H
    go_upto_region 5 with (fail)
    go_cut [38] (fun v38 wc => ∃ (kq : Nat) (x38_5 : Bool), v38 = .bool x38_5 ∧ Aside0 (spec_l9Read.j1 kq t129 x5_1 x38_5 = some (r1, r2, r3, r4)) ∧ Aside0 (kq ≤ k1) ∧ Aside0 (Kd.R Kd.string 9 wc w.heap.size (fun _ => True) v130 t129) ∧ Aside0 (wc.heap[gb128]? = some (.cells #[.int .i64 x129000_1, .int .i64 x129001_1, .int .i64 x129002_1] 34 (0, 0))) ∧ Aside0 (Below w.heap.size w wc))
    case first =>
     have H := HC6.out
     clear HC6
     replace H := bind_eq_some_iff.mp H
     obtain ⟨t132, A70, H⟩ := H
     replace H : (if 0 < (t129.length : Int) then (if t132.toList = (rdOf ByteArray.empty t129 0).toList then (if (t129.length : Int) = 2 then (if (t129.length : Int) = 3 then (spec_l9Read.j1 k1 t129 x5_1 false) else ((spec_l9Two.f x5_1).bind fun t134 => (spec_l9Read.j1 k1 t129 x5_1 t134))) else ((spec_l9Two.f x5_1).bind fun t135 => (if t135 = true then (if (t129.length : Int) = 3 then (spec_l9Read.j1 k1 t129 x5_1 false) else ((spec_l9Two.f x5_1).bind fun t136 => (spec_l9Read.j1 k1 t129 x5_1 t136))) else (spec_l9Read.j1 k1 t129 x5_1 true)))) else (spec_l9Read.j1 k1 t129 x5_1 true)) else (none)) = some (r1, r2, r3, r4) := H
     have A7 := Aside0.mk A70
     clear A70
     by_cases c8 : 0 < (t129.length : Int)
     ·rw [if_pos c8] at H
      have c8b0 : decide (0 < (t129.length : Int)) = true := decide_eq_true c8
      have c8b1 : decide (0 < t129.length) = true := decide_eq_true (by omega)
      clear c8
      (first | rw [c8b0] | (simp only [i64_w, i32_w]; rw [c8b0]) | skip)
      by_cases c9 : t132.toList = (rdOf ByteArray.empty t129 0).toList
      ·rw [if_pos c9] at H
       have c9b0 : (t132.toList == (rdOf ByteArray.empty t129 0).toList) = true := beq_iff_eq.mpr c9
       have c9b1 : (t132.toList != (rdOf ByteArray.empty t129 0).toList) = false := bne_eq_false_iff_eq.mpr c9
       clear c9
       by_cases c10 : (t129.length : Int) = 2
       ·rw [if_pos c10] at H
        have c10b0 : ((t129.length : Int) == 2) = true := beq_iff_eq.mpr c10
        have c10b1 : ((t129.length : Int) != 2) = false := bne_eq_false_iff_eq.mpr c10
        clear c10
        by_cases c11 : (t129.length : Int) = 3
        ·rw [if_pos c11] at H
         have c11b0 : ((t129.length : Int) == 3) = true := beq_iff_eq.mpr c11
         have c11b1 : ((t129.length : Int) != 3) = false := bne_eq_false_iff_eq.mpr c11
         clear c11
         have H' := Aside0.mk H
         clear H
         try go_wp2
         have n0_ := Aside0.mk (R_drew HO_4.out)
         have n1_ := Aside0.mk (blk_drew BK128.out)
         have n2_ := Aside0.mk (bw1 HB.out)
         clear HO_4
         clear BK128
         clear HB
         have HO_4 := n0_
         have BK128 := n1_
         have HB := n2_
         clear n0_ n1_ n2_
         obtain ⟨Ao13, co13, eo13⟩ := Kd.R_slice HO_4.out
         (first | subst eo13 | (injection eo13 with f1_ f2_ f3_; have f4_ := f1_.symm; have f5_ := f3_.symm; clear f1_ f2_ f3_; subst f4_; subst f5_))
         have p133 : 0 ≤ (0 : Int) := (by omega)
         have q133 : 0 < (t129.length : Int) := of_decide_eq_true (by first | (with_reducible assumption) | assumption)
         obtain ⟨ad133, e133, hx133_0⟩ := Kd.at_string (R_reads' HO_4.out).2.2 0 p133 q133
         cases e133
         have qi133 : (0 < t129.length) = True := eq_true (by omega)
         (try rw [show ((0 : Int)).toNat = 0 from rfl] at hx133_0)
         (try rw [Addr.add_zero'] at hx133_0)
         replace p133 := eq_true p133
         replace q133 := eq_true q133
         refine start_ (n := 25) (S := fun w' => w'.cell? ad133 = some (.string (rdOf ByteArray.empty t129 0))) (ds := []) #[false, false, false, false, false, false, false, false, false, false, false, false, false, false, false, false, false, false, false, false, false, false, false, false, false] (by kernel_rfl) rfl rfl (hx133_0) (fun hHeld => ?_); refine with_tabW spec_l9Read.tab5 spec_l9Read.bits5 (fun HT_ HW_ => ?_)
         generalize wr.drew = w12 at HO_4 BK128 HB hx133_0 hHeld ⊢
         refine puY (i := 0) 14 (bq 1 25) HT_ ?_
         refine puY (i := 2) 16 #[true, false, true, false, false, false, false, false, false, false, false, false, false, false, false, false, false, false, false, false, false, false, false, false, false] HT_ ?_
         refine puY (i := 3) 17 #[true, false, true, true, false, false, false, false, false, false, false, false, false, false, false, false, false, false, false, false, false, false, false, false, false] HT_ ?_
         refine take_ (i := 4) (N := some 18) (v := ?_) (a' := ?_) #[true, false, true, true, true, false, false, false, false, false, false, false, false, false, false, false, false, false, false, false, false, false, false, false, false] rfl rfl (take_ofW HT_.out HW_.out (by kernel_rfl)) (fun _ _ _ h => h) (Or.inl ⟨by rfl, ?_⟩) hHeld ?_ ?_
         rotate_left
         ·intro w' s0
          go_simp
          with_reducible rfl
         rotate_left
         ·simp only [Act.put, stA, stZ, stS, i64_w, i32_w]
          rfl
         refine onY (i := 1) 15 (bq 5 25) HT_ (fun K hK => ?_)
         refine goes_ Tryd.func25 (by kernel_rfl) rfl #[.int .i64 x5_1] (by rfl) rfl rfl (by (try simp only [map_toArray, map_cons, map_nil]); first | done | rfl | (simp only [length_drop, length_take]; rfl)) ?_
         with_reducible refine (spec_l9Name.calls x5_1 t132 _ A7.out).mono ?_
         rintro e w14 ⟨rfl, hb⟩
         have HS0_ := (hb.cell (block_lt_of_cell? _ _ (hHeld))).trans (hHeld)
         refine ⟨_, rfl, ?_⟩
         have n0_ := Aside0.mk (R_below (by (with_reducible repeat (first | apply R_alloc | apply R_drewN | apply R_drew)); exact HO_4.out) hb)
         have n1_ := Aside0.mk (blk_below (g := gb128) (o := .cells #[.int .i64 x129000_1, .int .i64 x129001_1, .int .i64 x129002_1] 34 (0, 0)) (by (with_reducible repeat (first | refine blk_drewN ?_ _ | refine blk_drew ?_ | refine blk_alloc ?_ _)); exact BK128.out) hb)
         have n2_ := Aside0.mk (below_step (by repeat (first | (with_reducible first | exact HB.out | apply bwA | apply bwN | apply bw1 | refine below_set ?_ GE128.out) | exact HB.out)) hb)
         clear HO_4
         clear BK128
         clear HB
         have HO_4 := n0_
         have BK128 := n1_
         have HB := n2_
         clear n0_ n1_ n2_
         (try clear hb)
         (try clear hb2)
         (try clear hk)
         (try clear hi)
         refine hK.out _ _ (HS0_) (fun hHeld => ?_)
         clear hK K
         refine norm_ (a' := ?_) ?_ ?_
         rotate_left
         ·show Act.put _ (some 15) _ = _
          simp only [Act.put, stA, stZ, stS, i64_w, i32_w]
          rfl
         refine puY (i := 5) 19 (bq 6 25) HT_ ?_
         refine puY (i := 6) 20 (bq 7 25) HT_ ?_
         refine puY (i := 7) 21 (bq 8 25) HT_ ?_
         refine puY (i := 8) 22 (bq 9 25) HT_ ?_
         refine puY (i := 9) 23 (bq 10 25) HT_ ?_
         refine puY (i := 10) 24 (bq 11 25) HT_ ?_
         refine puN (i := 11) 25 (bq 12 25) HT_ ?_
         refine puN (i := 12) 26 (bq 13 25) HT_ ?_
         refine puN (i := 13) 27 (bq 14 25) HT_ ?_
         refine puY (i := 14) 28 (bq 15 25) HT_ ?_
         refine puY (i := 15) 29 (bq 16 25) HT_ ?_
         refine puY (i := 16) 30 (bq 17 25) HT_ ?_
         refine puY (i := 17) 31 (bq 18 25) HT_ ?_
         refine puY (i := 18) 32 (bq 19 25) HT_ ?_
         refine puY (i := 19) 33 (bq 20 25) HT_ ?_
         refine puY (i := 20) 34 (bq 21 25) HT_ ?_
         refine puN (i := 21) 35 (bq 22 25) HT_ ?_
         refine puN (i := 22) 36 (bq 23 25) HT_ ?_
         refine puY (i := 23) 37 (bq 24 25) HT_ ?_
         refine puY (i := 24) 38 (bq 25 25) HT_ ?_
         refine done_ (done_of HT_.out (by kernel_rfl)) ?_
         try go_wp2
         go_meet
         case rel => exact ⟨_, (false), (by first | rfl | (simp; done) | (simp [*]; done)), H', ⟨by have := HK1.out; first | omega | exact Nat.le_refl _⟩, ⟨by (with_reducible repeat (first | apply R_alloc | apply R_drewN | apply R_drew)); exact HO_4.out⟩, ⟨by (with_reducible repeat (first | refine blk_drewN ?_ _ | refine blk_drew ?_ | refine blk_alloc ?_ _)); exact BK128.out⟩, ⟨by repeat (first | (with_reducible first | exact HB.out | apply bwA | apply bwN | apply bw1 | refine below_set ?_ GE128.out) | exact HB.out)⟩⟩
        ·rw [if_neg c11] at H
         have c11b0 : ((t129.length : Int) == 3) = false := beq_eq_false_iff_ne.mpr c11
         have c11b1 : ((t129.length : Int) != 3) = true := bne_iff_ne.mpr c11
         replace H := bind_eq_some_iff.mp H
         obtain ⟨t134, A150, H⟩ := H
         replace H : (spec_l9Read.j1 k1 t129 x5_1 t134) = some (r1, r2, r3, r4) := H
         have A15 := Aside0.mk A150
         clear A150
         have H' := Aside0.mk H
         clear H
         try go_wp2
         have n0_ := Aside0.mk (R_drew HO_4.out)
         have n1_ := Aside0.mk (blk_drew BK128.out)
         have n2_ := Aside0.mk (bw1 HB.out)
         clear HO_4
         clear BK128
         clear HB
         have HO_4 := n0_
         have BK128 := n1_
         have HB := n2_
         clear n0_ n1_ n2_
         obtain ⟨Ao17, co17, eo17⟩ := Kd.R_slice HO_4.out
         (first | subst eo17 | (injection eo17 with f1_ f2_ f3_; have f4_ := f1_.symm; have f5_ := f3_.symm; clear f1_ f2_ f3_; subst f4_; subst f5_))
         have p133 : 0 ≤ (0 : Int) := (by omega)
         have q133 : 0 < (t129.length : Int) := of_decide_eq_true (by first | (with_reducible assumption) | assumption)
         obtain ⟨ad133, e133, hx133_0⟩ := Kd.at_string (R_reads' HO_4.out).2.2 0 p133 q133
         cases e133
         have qi133 : (0 < t129.length) = True := eq_true (by omega)
         (try rw [show ((0 : Int)).toNat = 0 from rfl] at hx133_0)
         (try rw [Addr.add_zero'] at hx133_0)
         replace p133 := eq_true p133
         replace q133 := eq_true q133
         refine start_ (n := 25) (S := fun w' => w'.cell? ad133 = some (.string (rdOf ByteArray.empty t129 0))) (ds := []) #[false, false, false, false, false, false, false, false, false, false, false, false, false, false, false, false, false, false, false, false, false, false, false, false, false] (by kernel_rfl) rfl rfl (hx133_0) (fun hHeld => ?_); refine with_tabW spec_l9Read.tab5 spec_l9Read.bits5 (fun HT_ HW_ => ?_)
         generalize wr.drew = w16 at HO_4 BK128 HB hx133_0 hHeld ⊢
         refine puY (i := 0) 14 (bq 1 25) HT_ ?_
         refine puY (i := 2) 16 #[true, false, true, false, false, false, false, false, false, false, false, false, false, false, false, false, false, false, false, false, false, false, false, false, false] HT_ ?_
         refine puY (i := 3) 17 #[true, false, true, true, false, false, false, false, false, false, false, false, false, false, false, false, false, false, false, false, false, false, false, false, false] HT_ ?_
         refine take_ (i := 4) (N := some 18) (v := ?_) (a' := ?_) #[true, false, true, true, true, false, false, false, false, false, false, false, false, false, false, false, false, false, false, false, false, false, false, false, false] rfl rfl (take_ofW HT_.out HW_.out (by kernel_rfl)) (fun _ _ _ h => h) (Or.inl ⟨by rfl, ?_⟩) hHeld ?_ ?_
         rotate_left
         ·intro w' s0
          go_simp
          with_reducible rfl
         rotate_left
         ·simp only [Act.put, stA, stZ, stS, i64_w, i32_w]
          rfl
         refine onY (i := 1) 15 (bq 5 25) HT_ (fun K hK => ?_)
         refine goes_ Tryd.func25 (by kernel_rfl) rfl #[.int .i64 x5_1] (by rfl) rfl rfl (by (try simp only [map_toArray, map_cons, map_nil]); first | done | rfl | (simp only [length_drop, length_take]; rfl)) ?_
         with_reducible refine (spec_l9Name.calls x5_1 t132 _ A7.out).mono ?_
         rintro e w18 ⟨rfl, hb⟩
         have HS0_ := (hb.cell (block_lt_of_cell? _ _ (hHeld))).trans (hHeld)
         refine ⟨_, rfl, ?_⟩
         have n0_ := Aside0.mk (R_below (by (with_reducible repeat (first | apply R_alloc | apply R_drewN | apply R_drew)); exact HO_4.out) hb)
         have n1_ := Aside0.mk (blk_below (g := gb128) (o := .cells #[.int .i64 x129000_1, .int .i64 x129001_1, .int .i64 x129002_1] 34 (0, 0)) (by (with_reducible repeat (first | refine blk_drewN ?_ _ | refine blk_drew ?_ | refine blk_alloc ?_ _)); exact BK128.out) hb)
         have n2_ := Aside0.mk (below_step (by repeat (first | (with_reducible first | exact HB.out | apply bwA | apply bwN | apply bw1 | refine below_set ?_ GE128.out) | exact HB.out)) hb)
         clear HO_4
         clear BK128
         clear HB
         have HO_4 := n0_
         have BK128 := n1_
         have HB := n2_
         clear n0_ n1_ n2_
         (try clear hb)
         (try clear hb2)
         (try clear hk)
         (try clear hi)
         refine hK.out _ _ (HS0_) (fun hHeld => ?_)
         clear hK K
         refine norm_ (a' := ?_) ?_ ?_
         rotate_left
         ·show Act.put _ (some 15) _ = _
          simp only [Act.put, stA, stZ, stS, i64_w, i32_w]
          rfl
         refine puY (i := 5) 19 (bq 6 25) HT_ ?_
         refine puY (i := 6) 20 (bq 7 25) HT_ ?_
         refine puY (i := 7) 21 (bq 8 25) HT_ ?_
         refine puY (i := 8) 22 (bq 9 25) HT_ ?_
         refine puY (i := 9) 23 (bq 10 25) HT_ ?_
         refine puY (i := 10) 24 (bq 11 25) HT_ ?_
         refine puN (i := 11) 25 (bq 12 25) HT_ ?_
         refine puN (i := 12) 26 (bq 13 25) HT_ ?_
         refine puN (i := 13) 27 (bq 14 25) HT_ ?_
         refine puY (i := 14) 28 (bq 15 25) HT_ ?_
         refine puY (i := 15) 29 (bq 16 25) HT_ ?_
         refine puY (i := 16) 30 (bq 17 25) HT_ ?_
         refine puY (i := 17) 31 (bq 18 25) HT_ ?_
         refine puY (i := 18) 32 (bq 19 25) HT_ ?_
         refine puY (i := 19) 33 (bq 20 25) HT_ ?_
         refine puY (i := 20) 34 (bq 21 25) HT_ ?_
         refine puY (i := 21) 35 (bq 22 25) HT_ ?_
         refine onY (i := 22) 36 (bq 23 25) HT_ (fun K hK => ?_)
         refine goes_ Tryd.func26 (by kernel_rfl) rfl #[.int .i64 x5_1] (by rfl) rfl rfl (by (try simp only [map_toArray, map_cons, map_nil]); first | done | rfl | (simp only [length_drop, length_take]; rfl)) ?_
         with_reducible refine (spec_l9Two.calls x5_1 t134 _ A15.out).mono ?_
         rintro e w' ⟨rfl, ⟨nd, rfl⟩⟩
         refine ⟨_, rfl, ?_⟩
         refine hK.out _ _ (hHeld) (fun hHeld => ?_)
         clear hK K
         refine norm_ (a' := ?_) ?_ ?_
         rotate_left
         ·show Act.put _ (some 36) _ = _
          simp only [Act.put, stA, stZ, stS, i64_w, i32_w]
          rfl
         refine puY (i := 23) 37 (bq 24 25) HT_ ?_
         refine puY (i := 24) 38 (bq 25 25) HT_ ?_
         refine done_ (done_of HT_.out (by kernel_rfl)) ?_
         try go_wp2
         go_meet
         case rel => exact ⟨_, (t134), (by first | rfl | (simp; done) | (simp [*]; done)), H', ⟨by have := HK1.out; first | omega | exact Nat.le_refl _⟩, ⟨by (with_reducible repeat (first | apply R_alloc | apply R_drewN | apply R_drew)); exact HO_4.out⟩, ⟨by (with_reducible repeat (first | refine blk_drewN ?_ _ | refine blk_drew ?_ | refine blk_alloc ?_ _)); exact BK128.out⟩, ⟨by repeat (first | (with_reducible first | exact HB.out | apply bwA | apply bwN | apply bw1 | refine below_set ?_ GE128.out) | exact HB.out)⟩⟩
       ·rw [if_neg c10] at H
        have c10b0 : ((t129.length : Int) == 2) = false := beq_eq_false_iff_ne.mpr c10
        have c10b1 : ((t129.length : Int) != 2) = true := bne_iff_ne.mpr c10
        replace H := bind_eq_some_iff.mp H
        obtain ⟨t135, A190, H⟩ := H
        replace H : (if t135 = true then (if (t129.length : Int) = 3 then (spec_l9Read.j1 k1 t129 x5_1 false) else ((spec_l9Two.f x5_1).bind fun t136 => (spec_l9Read.j1 k1 t129 x5_1 t136))) else (spec_l9Read.j1 k1 t129 x5_1 true)) = some (r1, r2, r3, r4) := H
        have A19 := Aside0.mk A190
        clear A190
        by_cases c20 : t135 = true
        ·subst c20
         have H1 : (if (t129.length : Int) = 3 then (spec_l9Read.j1 k1 t129 x5_1 false) else ((spec_l9Two.f x5_1).bind fun t136 => (spec_l9Read.j1 k1 t129 x5_1 t136))) = some (r1, r2, r3, r4) := by rw [if_pos rfl] at H; exact H
         clear H
         have H := H1
         clear H1
         by_cases c21 : (t129.length : Int) = 3
         ·rw [if_pos c21] at H
          have c21b0 : ((t129.length : Int) == 3) = true := beq_iff_eq.mpr c21
          have c21b1 : ((t129.length : Int) != 3) = false := bne_eq_false_iff_eq.mpr c21
          clear c21
          have H' := Aside0.mk H
          clear H
          try go_wp2
          have n0_ := Aside0.mk (R_drew HO_4.out)
          have n1_ := Aside0.mk (blk_drew BK128.out)
          have n2_ := Aside0.mk (bw1 HB.out)
          clear HO_4
          clear BK128
          clear HB
          have HO_4 := n0_
          have BK128 := n1_
          have HB := n2_
          clear n0_ n1_ n2_
          obtain ⟨Ao23, co23, eo23⟩ := Kd.R_slice HO_4.out
          (first | subst eo23 | (injection eo23 with f1_ f2_ f3_; have f4_ := f1_.symm; have f5_ := f3_.symm; clear f1_ f2_ f3_; subst f4_; subst f5_))
          have p133 : 0 ≤ (0 : Int) := (by omega)
          have q133 : 0 < (t129.length : Int) := of_decide_eq_true (by first | (with_reducible assumption) | assumption)
          obtain ⟨ad133, e133, hx133_0⟩ := Kd.at_string (R_reads' HO_4.out).2.2 0 p133 q133
          cases e133
          have qi133 : (0 < t129.length) = True := eq_true (by omega)
          (try rw [show ((0 : Int)).toNat = 0 from rfl] at hx133_0)
          (try rw [Addr.add_zero'] at hx133_0)
          replace p133 := eq_true p133
          replace q133 := eq_true q133
          refine start_ (n := 25) (S := fun w' => w'.cell? ad133 = some (.string (rdOf ByteArray.empty t129 0))) (ds := []) #[false, false, false, false, false, false, false, false, false, false, false, false, false, false, false, false, false, false, false, false, false, false, false, false, false] (by kernel_rfl) rfl rfl (hx133_0) (fun hHeld => ?_); refine with_tabW spec_l9Read.tab5 spec_l9Read.bits5 (fun HT_ HW_ => ?_)
          generalize wr.drew = w22 at HO_4 BK128 HB hx133_0 hHeld ⊢
          refine puY (i := 0) 14 (bq 1 25) HT_ ?_
          refine puY (i := 2) 16 #[true, false, true, false, false, false, false, false, false, false, false, false, false, false, false, false, false, false, false, false, false, false, false, false, false] HT_ ?_
          refine puY (i := 3) 17 #[true, false, true, true, false, false, false, false, false, false, false, false, false, false, false, false, false, false, false, false, false, false, false, false, false] HT_ ?_
          refine take_ (i := 4) (N := some 18) (v := ?_) (a' := ?_) #[true, false, true, true, true, false, false, false, false, false, false, false, false, false, false, false, false, false, false, false, false, false, false, false, false] rfl rfl (take_ofW HT_.out HW_.out (by kernel_rfl)) (fun _ _ _ h => h) (Or.inl ⟨by rfl, ?_⟩) hHeld ?_ ?_
          rotate_left
          ·intro w' s0
           go_simp
           with_reducible rfl
          rotate_left
          ·simp only [Act.put, stA, stZ, stS, i64_w, i32_w]
           rfl
          refine onY (i := 1) 15 (bq 5 25) HT_ (fun K hK => ?_)
          refine goes_ Tryd.func25 (by kernel_rfl) rfl #[.int .i64 x5_1] (by rfl) rfl rfl (by (try simp only [map_toArray, map_cons, map_nil]); first | done | rfl | (simp only [length_drop, length_take]; rfl)) ?_
          with_reducible refine (spec_l9Name.calls x5_1 t132 _ A7.out).mono ?_
          rintro e w24 ⟨rfl, hb⟩
          have HS0_ := (hb.cell (block_lt_of_cell? _ _ (hHeld))).trans (hHeld)
          refine ⟨_, rfl, ?_⟩
          have n0_ := Aside0.mk (R_below (by (with_reducible repeat (first | apply R_alloc | apply R_drewN | apply R_drew)); exact HO_4.out) hb)
          have n1_ := Aside0.mk (blk_below (g := gb128) (o := .cells #[.int .i64 x129000_1, .int .i64 x129001_1, .int .i64 x129002_1] 34 (0, 0)) (by (with_reducible repeat (first | refine blk_drewN ?_ _ | refine blk_drew ?_ | refine blk_alloc ?_ _)); exact BK128.out) hb)
          have n2_ := Aside0.mk (below_step (by repeat (first | (with_reducible first | exact HB.out | apply bwA | apply bwN | apply bw1 | refine below_set ?_ GE128.out) | exact HB.out)) hb)
          clear HO_4
          clear BK128
          clear HB
          have HO_4 := n0_
          have BK128 := n1_
          have HB := n2_
          clear n0_ n1_ n2_
          (try clear hb)
          (try clear hb2)
          (try clear hk)
          (try clear hi)
          refine hK.out _ _ (HS0_) (fun hHeld => ?_)
          clear hK K
          refine norm_ (a' := ?_) ?_ ?_
          rotate_left
          ·show Act.put _ (some 15) _ = _
           simp only [Act.put, stA, stZ, stS, i64_w, i32_w]
           rfl
          refine puY (i := 5) 19 (bq 6 25) HT_ ?_
          refine puY (i := 6) 20 (bq 7 25) HT_ ?_
          refine puY (i := 7) 21 (bq 8 25) HT_ ?_
          refine puY (i := 8) 22 (bq 9 25) HT_ ?_
          refine puY (i := 9) 23 (bq 10 25) HT_ ?_
          refine puY (i := 10) 24 (bq 11 25) HT_ ?_
          refine puY (i := 11) 25 (bq 12 25) HT_ ?_
          refine onY (i := 12) 26 (bq 13 25) HT_ (fun K hK => ?_)
          refine goes_ Tryd.func26 (by kernel_rfl) rfl #[.int .i64 x5_1] (by rfl) rfl rfl (by (try simp only [map_toArray, map_cons, map_nil]); first | done | rfl | (simp only [length_drop, length_take]; rfl)) ?_
          with_reducible refine (spec_l9Two.calls x5_1 true _ A19.out).mono ?_
          rintro e w' ⟨rfl, ⟨nd, rfl⟩⟩
          refine ⟨_, rfl, ?_⟩
          refine hK.out _ _ (hHeld) (fun hHeld => ?_)
          clear hK K
          refine norm_ (a' := ?_) ?_ ?_
          rotate_left
          ·show Act.put _ (some 26) _ = _
           simp only [Act.put, stA, stZ, stS, i64_w, i32_w]
           rfl
          refine puY (i := 13) 27 (bq 14 25) HT_ ?_
          refine puY (i := 14) 28 (bq 15 25) HT_ ?_
          refine puY (i := 15) 29 (bq 16 25) HT_ ?_
          refine puY (i := 16) 30 (bq 17 25) HT_ ?_
          refine puY (i := 17) 31 (bq 18 25) HT_ ?_
          refine puY (i := 18) 32 (bq 19 25) HT_ ?_
          refine puY (i := 19) 33 (bq 20 25) HT_ ?_
          refine puY (i := 20) 34 (bq 21 25) HT_ ?_
          refine puN (i := 21) 35 (bq 22 25) HT_ ?_
          refine puN (i := 22) 36 (bq 23 25) HT_ ?_
          refine puY (i := 23) 37 (bq 24 25) HT_ ?_
          refine puY (i := 24) 38 (bq 25 25) HT_ ?_
          refine done_ (done_of HT_.out (by kernel_rfl)) ?_
          try go_wp2
          go_meet
          case rel => exact ⟨_, (false), (by first | rfl | (simp; done) | (simp [*]; done)), H', ⟨by have := HK1.out; first | omega | exact Nat.le_refl _⟩, ⟨by (with_reducible repeat (first | apply R_alloc | apply R_drewN | apply R_drew)); exact HO_4.out⟩, ⟨by (with_reducible repeat (first | refine blk_drewN ?_ _ | refine blk_drew ?_ | refine blk_alloc ?_ _)); exact BK128.out⟩, ⟨by repeat (first | (with_reducible first | exact HB.out | apply bwA | apply bwN | apply bw1 | refine below_set ?_ GE128.out) | exact HB.out)⟩⟩
         ·rw [if_neg c21] at H
          have c21b0 : ((t129.length : Int) == 3) = false := beq_eq_false_iff_ne.mpr c21
          have c21b1 : ((t129.length : Int) != 3) = true := bne_iff_ne.mpr c21
          replace H := bind_eq_some_iff.mp H
          obtain ⟨t136, A250, H⟩ := H
          replace H : (spec_l9Read.j1 k1 t129 x5_1 t136) = some (r1, r2, r3, r4) := H
          have A25 := Aside0.mk A250
          clear A250
          have H' := Aside0.mk H
          clear H
          try go_wp2
          have n0_ := Aside0.mk (R_drew HO_4.out)
          have n1_ := Aside0.mk (blk_drew BK128.out)
          have n2_ := Aside0.mk (bw1 HB.out)
          clear HO_4
          clear BK128
          clear HB
          have HO_4 := n0_
          have BK128 := n1_
          have HB := n2_
          clear n0_ n1_ n2_
          obtain ⟨Ao27, co27, eo27⟩ := Kd.R_slice HO_4.out
          (first | subst eo27 | (injection eo27 with f1_ f2_ f3_; have f4_ := f1_.symm; have f5_ := f3_.symm; clear f1_ f2_ f3_; subst f4_; subst f5_))
          have p133 : 0 ≤ (0 : Int) := (by omega)
          have q133 : 0 < (t129.length : Int) := of_decide_eq_true (by first | (with_reducible assumption) | assumption)
          obtain ⟨ad133, e133, hx133_0⟩ := Kd.at_string (R_reads' HO_4.out).2.2 0 p133 q133
          cases e133
          have qi133 : (0 < t129.length) = True := eq_true (by omega)
          (try rw [show ((0 : Int)).toNat = 0 from rfl] at hx133_0)
          (try rw [Addr.add_zero'] at hx133_0)
          replace p133 := eq_true p133
          replace q133 := eq_true q133
          refine start_ (n := 25) (S := fun w' => w'.cell? ad133 = some (.string (rdOf ByteArray.empty t129 0))) (ds := []) #[false, false, false, false, false, false, false, false, false, false, false, false, false, false, false, false, false, false, false, false, false, false, false, false, false] (by kernel_rfl) rfl rfl (hx133_0) (fun hHeld => ?_); refine with_tabW spec_l9Read.tab5 spec_l9Read.bits5 (fun HT_ HW_ => ?_)
          generalize wr.drew = w26 at HO_4 BK128 HB hx133_0 hHeld ⊢
          refine puY (i := 0) 14 (bq 1 25) HT_ ?_
          refine puY (i := 2) 16 #[true, false, true, false, false, false, false, false, false, false, false, false, false, false, false, false, false, false, false, false, false, false, false, false, false] HT_ ?_
          refine puY (i := 3) 17 #[true, false, true, true, false, false, false, false, false, false, false, false, false, false, false, false, false, false, false, false, false, false, false, false, false] HT_ ?_
          refine take_ (i := 4) (N := some 18) (v := ?_) (a' := ?_) #[true, false, true, true, true, false, false, false, false, false, false, false, false, false, false, false, false, false, false, false, false, false, false, false, false] rfl rfl (take_ofW HT_.out HW_.out (by kernel_rfl)) (fun _ _ _ h => h) (Or.inl ⟨by rfl, ?_⟩) hHeld ?_ ?_
          rotate_left
          ·intro w' s0
           go_simp
           with_reducible rfl
          rotate_left
          ·simp only [Act.put, stA, stZ, stS, i64_w, i32_w]
           rfl
          refine onY (i := 1) 15 (bq 5 25) HT_ (fun K hK => ?_)
          refine goes_ Tryd.func25 (by kernel_rfl) rfl #[.int .i64 x5_1] (by rfl) rfl rfl (by (try simp only [map_toArray, map_cons, map_nil]); first | done | rfl | (simp only [length_drop, length_take]; rfl)) ?_
          with_reducible refine (spec_l9Name.calls x5_1 t132 _ A7.out).mono ?_
          rintro e w28 ⟨rfl, hb⟩
          have HS0_ := (hb.cell (block_lt_of_cell? _ _ (hHeld))).trans (hHeld)
          refine ⟨_, rfl, ?_⟩
          have n0_ := Aside0.mk (R_below (by (with_reducible repeat (first | apply R_alloc | apply R_drewN | apply R_drew)); exact HO_4.out) hb)
          have n1_ := Aside0.mk (blk_below (g := gb128) (o := .cells #[.int .i64 x129000_1, .int .i64 x129001_1, .int .i64 x129002_1] 34 (0, 0)) (by (with_reducible repeat (first | refine blk_drewN ?_ _ | refine blk_drew ?_ | refine blk_alloc ?_ _)); exact BK128.out) hb)
          have n2_ := Aside0.mk (below_step (by repeat (first | (with_reducible first | exact HB.out | apply bwA | apply bwN | apply bw1 | refine below_set ?_ GE128.out) | exact HB.out)) hb)
          clear HO_4
          clear BK128
          clear HB
          have HO_4 := n0_
          have BK128 := n1_
          have HB := n2_
          clear n0_ n1_ n2_
          (try clear hb)
          (try clear hb2)
          (try clear hk)
          (try clear hi)
          refine hK.out _ _ (HS0_) (fun hHeld => ?_)
          clear hK K
          refine norm_ (a' := ?_) ?_ ?_
          rotate_left
          ·show Act.put _ (some 15) _ = _
           simp only [Act.put, stA, stZ, stS, i64_w, i32_w]
           rfl
          refine puY (i := 5) 19 (bq 6 25) HT_ ?_
          refine puY (i := 6) 20 (bq 7 25) HT_ ?_
          refine puY (i := 7) 21 (bq 8 25) HT_ ?_
          refine puY (i := 8) 22 (bq 9 25) HT_ ?_
          refine puY (i := 9) 23 (bq 10 25) HT_ ?_
          refine puY (i := 10) 24 (bq 11 25) HT_ ?_
          refine puY (i := 11) 25 (bq 12 25) HT_ ?_
          refine onY (i := 12) 26 (bq 13 25) HT_ (fun K hK => ?_)
          refine goes_ Tryd.func26 (by kernel_rfl) rfl #[.int .i64 x5_1] (by rfl) rfl rfl (by (try simp only [map_toArray, map_cons, map_nil]); first | done | rfl | (simp only [length_drop, length_take]; rfl)) ?_
          with_reducible refine (spec_l9Two.calls x5_1 true _ A19.out).mono ?_
          rintro e w' ⟨rfl, ⟨nd, rfl⟩⟩
          refine ⟨_, rfl, ?_⟩
          refine hK.out _ _ (hHeld) (fun hHeld => ?_)
          clear hK K
          refine norm_ (a' := ?_) ?_ ?_
          rotate_left
          ·show Act.put _ (some 26) _ = _
           simp only [Act.put, stA, stZ, stS, i64_w, i32_w]
           rfl
          refine puY (i := 13) 27 (bq 14 25) HT_ ?_
          refine puY (i := 14) 28 (bq 15 25) HT_ ?_
          refine puY (i := 15) 29 (bq 16 25) HT_ ?_
          refine puY (i := 16) 30 (bq 17 25) HT_ ?_
          refine puY (i := 17) 31 (bq 18 25) HT_ ?_
          refine puY (i := 18) 32 (bq 19 25) HT_ ?_
          refine puY (i := 19) 33 (bq 20 25) HT_ ?_
          refine puY (i := 20) 34 (bq 21 25) HT_ ?_
          refine puY (i := 21) 35 (bq 22 25) HT_ ?_
          refine onY (i := 22) 36 (bq 23 25) HT_ (fun K hK => ?_)
          refine goes_ Tryd.func26 (by kernel_rfl) rfl #[.int .i64 x5_1] (by rfl) rfl rfl (by (try simp only [map_toArray, map_cons, map_nil]); first | done | rfl | (simp only [length_drop, length_take]; rfl)) ?_
          with_reducible refine (spec_l9Two.calls x5_1 t136 _ A25.out).mono ?_
          rintro e w' ⟨rfl, ⟨nd, rfl⟩⟩
          refine ⟨_, rfl, ?_⟩
          refine hK.out _ _ (hHeld) (fun hHeld => ?_)
          clear hK K
          refine norm_ (a' := ?_) ?_ ?_
          rotate_left
          ·show Act.put _ (some 36) _ = _
           simp only [Act.put, stA, stZ, stS, i64_w, i32_w]
           rfl
          refine puY (i := 23) 37 (bq 24 25) HT_ ?_
          refine puY (i := 24) 38 (bq 25 25) HT_ ?_
          refine done_ (done_of HT_.out (by kernel_rfl)) ?_
          try go_wp2
          go_meet
          case rel => exact ⟨_, (t136), (by first | rfl | (simp; done) | (simp [*]; done)), H', ⟨by have := HK1.out; first | omega | exact Nat.le_refl _⟩, ⟨by (with_reducible repeat (first | apply R_alloc | apply R_drewN | apply R_drew)); exact HO_4.out⟩, ⟨by (with_reducible repeat (first | refine blk_drewN ?_ _ | refine blk_drew ?_ | refine blk_alloc ?_ _)); exact BK128.out⟩, ⟨by repeat (first | (with_reducible first | exact HB.out | apply bwA | apply bwN | apply bw1 | refine below_set ?_ GE128.out) | exact HB.out)⟩⟩
        ·replace c20 := Bool.eq_false_iff.mpr c20
         subst c20
         have H1 : (spec_l9Read.j1 k1 t129 x5_1 true) = some (r1, r2, r3, r4) := by rw [if_neg (show ¬ (false = true) by decide)] at H; exact H
         clear H
         have H := H1
         clear H1
         have H' := Aside0.mk H
         clear H
         try go_wp2
         have n0_ := Aside0.mk (R_drew HO_4.out)
         have n1_ := Aside0.mk (blk_drew BK128.out)
         have n2_ := Aside0.mk (bw1 HB.out)
         clear HO_4
         clear BK128
         clear HB
         have HO_4 := n0_
         have BK128 := n1_
         have HB := n2_
         clear n0_ n1_ n2_
         obtain ⟨Ao30, co30, eo30⟩ := Kd.R_slice HO_4.out
         (first | subst eo30 | (injection eo30 with f1_ f2_ f3_; have f4_ := f1_.symm; have f5_ := f3_.symm; clear f1_ f2_ f3_; subst f4_; subst f5_))
         have p133 : 0 ≤ (0 : Int) := (by omega)
         have q133 : 0 < (t129.length : Int) := of_decide_eq_true (by first | (with_reducible assumption) | assumption)
         obtain ⟨ad133, e133, hx133_0⟩ := Kd.at_string (R_reads' HO_4.out).2.2 0 p133 q133
         cases e133
         have qi133 : (0 < t129.length) = True := eq_true (by omega)
         (try rw [show ((0 : Int)).toNat = 0 from rfl] at hx133_0)
         (try rw [Addr.add_zero'] at hx133_0)
         replace p133 := eq_true p133
         replace q133 := eq_true q133
         refine start_ (n := 25) (S := fun w' => w'.cell? ad133 = some (.string (rdOf ByteArray.empty t129 0))) (ds := []) #[false, false, false, false, false, false, false, false, false, false, false, false, false, false, false, false, false, false, false, false, false, false, false, false, false] (by kernel_rfl) rfl rfl (hx133_0) (fun hHeld => ?_); refine with_tabW spec_l9Read.tab5 spec_l9Read.bits5 (fun HT_ HW_ => ?_)
         generalize wr.drew = w29 at HO_4 BK128 HB hx133_0 hHeld ⊢
         refine puY (i := 0) 14 (bq 1 25) HT_ ?_
         refine puY (i := 2) 16 #[true, false, true, false, false, false, false, false, false, false, false, false, false, false, false, false, false, false, false, false, false, false, false, false, false] HT_ ?_
         refine puY (i := 3) 17 #[true, false, true, true, false, false, false, false, false, false, false, false, false, false, false, false, false, false, false, false, false, false, false, false, false] HT_ ?_
         refine take_ (i := 4) (N := some 18) (v := ?_) (a' := ?_) #[true, false, true, true, true, false, false, false, false, false, false, false, false, false, false, false, false, false, false, false, false, false, false, false, false] rfl rfl (take_ofW HT_.out HW_.out (by kernel_rfl)) (fun _ _ _ h => h) (Or.inl ⟨by rfl, ?_⟩) hHeld ?_ ?_
         rotate_left
         ·intro w' s0
          go_simp
          with_reducible rfl
         rotate_left
         ·simp only [Act.put, stA, stZ, stS, i64_w, i32_w]
          rfl
         refine onY (i := 1) 15 (bq 5 25) HT_ (fun K hK => ?_)
         refine goes_ Tryd.func25 (by kernel_rfl) rfl #[.int .i64 x5_1] (by rfl) rfl rfl (by (try simp only [map_toArray, map_cons, map_nil]); first | done | rfl | (simp only [length_drop, length_take]; rfl)) ?_
         with_reducible refine (spec_l9Name.calls x5_1 t132 _ A7.out).mono ?_
         rintro e w31 ⟨rfl, hb⟩
         have HS0_ := (hb.cell (block_lt_of_cell? _ _ (hHeld))).trans (hHeld)
         refine ⟨_, rfl, ?_⟩
         have n0_ := Aside0.mk (R_below (by (with_reducible repeat (first | apply R_alloc | apply R_drewN | apply R_drew)); exact HO_4.out) hb)
         have n1_ := Aside0.mk (blk_below (g := gb128) (o := .cells #[.int .i64 x129000_1, .int .i64 x129001_1, .int .i64 x129002_1] 34 (0, 0)) (by (with_reducible repeat (first | refine blk_drewN ?_ _ | refine blk_drew ?_ | refine blk_alloc ?_ _)); exact BK128.out) hb)
         have n2_ := Aside0.mk (below_step (by repeat (first | (with_reducible first | exact HB.out | apply bwA | apply bwN | apply bw1 | refine below_set ?_ GE128.out) | exact HB.out)) hb)
         clear HO_4
         clear BK128
         clear HB
         have HO_4 := n0_
         have BK128 := n1_
         have HB := n2_
         clear n0_ n1_ n2_
         (try clear hb)
         (try clear hb2)
         (try clear hk)
         (try clear hi)
         refine hK.out _ _ (HS0_) (fun hHeld => ?_)
         clear hK K
         refine norm_ (a' := ?_) ?_ ?_
         rotate_left
         ·show Act.put _ (some 15) _ = _
          simp only [Act.put, stA, stZ, stS, i64_w, i32_w]
          rfl
         refine puY (i := 5) 19 (bq 6 25) HT_ ?_
         refine puY (i := 6) 20 (bq 7 25) HT_ ?_
         refine puY (i := 7) 21 (bq 8 25) HT_ ?_
         refine puY (i := 8) 22 (bq 9 25) HT_ ?_
         refine puY (i := 9) 23 (bq 10 25) HT_ ?_
         refine puY (i := 10) 24 (bq 11 25) HT_ ?_
         refine puY (i := 11) 25 (bq 12 25) HT_ ?_
         refine onY (i := 12) 26 (bq 13 25) HT_ (fun K hK => ?_)
         refine goes_ Tryd.func26 (by kernel_rfl) rfl #[.int .i64 x5_1] (by rfl) rfl rfl (by (try simp only [map_toArray, map_cons, map_nil]); first | done | rfl | (simp only [length_drop, length_take]; rfl)) ?_
         with_reducible refine (spec_l9Two.calls x5_1 false _ A19.out).mono ?_
         rintro e w' ⟨rfl, ⟨nd, rfl⟩⟩
         refine ⟨_, rfl, ?_⟩
         refine hK.out _ _ (hHeld) (fun hHeld => ?_)
         clear hK K
         refine norm_ (a' := ?_) ?_ ?_
         rotate_left
         ·show Act.put _ (some 26) _ = _
          simp only [Act.put, stA, stZ, stS, i64_w, i32_w]
          rfl
         refine puY (i := 13) 27 (bq 14 25) HT_ ?_
         refine puY (i := 14) 28 (bq 15 25) HT_ ?_
         refine puY (i := 15) 29 (bq 16 25) HT_ ?_
         refine puY (i := 16) 30 (bq 17 25) HT_ ?_
         refine puN (i := 17) 31 (bq 18 25) HT_ ?_
         refine puN (i := 18) 32 (bq 19 25) HT_ ?_
         refine puN (i := 19) 33 (bq 20 25) HT_ ?_
         refine puN (i := 20) 34 (bq 21 25) HT_ ?_
         refine puN (i := 21) 35 (bq 22 25) HT_ ?_
         refine puN (i := 22) 36 (bq 23 25) HT_ ?_
         refine puN (i := 23) 37 (bq 24 25) HT_ ?_
         refine puY (i := 24) 38 (bq 25 25) HT_ ?_
         refine done_ (done_of HT_.out (by kernel_rfl)) ?_
         try go_wp2
         go_meet
         case rel => exact ⟨_, (true), (by first | rfl | (simp; done) | (simp [*]; done)), H', ⟨by have := HK1.out; first | omega | exact Nat.le_refl _⟩, ⟨by (with_reducible repeat (first | apply R_alloc | apply R_drewN | apply R_drew)); exact HO_4.out⟩, ⟨by (with_reducible repeat (first | refine blk_drewN ?_ _ | refine blk_drew ?_ | refine blk_alloc ?_ _)); exact BK128.out⟩, ⟨by repeat (first | (with_reducible first | exact HB.out | apply bwA | apply bwN | apply bw1 | refine below_set ?_ GE128.out) | exact HB.out)⟩⟩
      ·rw [if_neg c9] at H
       have c9b0 : (t132.toList == (rdOf ByteArray.empty t129 0).toList) = false := beq_eq_false_iff_ne.mpr c9
       have c9b1 : (t132.toList != (rdOf ByteArray.empty t129 0).toList) = true := bne_iff_ne.mpr c9
       have H' := Aside0.mk H
       clear H
       try go_wp2
       have n0_ := Aside0.mk (R_drew HO_4.out)
       have n1_ := Aside0.mk (blk_drew BK128.out)
       have n2_ := Aside0.mk (bw1 HB.out)
       clear HO_4
       clear BK128
       clear HB
       have HO_4 := n0_
       have BK128 := n1_
       have HB := n2_
       clear n0_ n1_ n2_
       obtain ⟨Ao33, co33, eo33⟩ := Kd.R_slice HO_4.out
       (first | subst eo33 | (injection eo33 with f1_ f2_ f3_; have f4_ := f1_.symm; have f5_ := f3_.symm; clear f1_ f2_ f3_; subst f4_; subst f5_))
       have p133 : 0 ≤ (0 : Int) := (by omega)
       have q133 : 0 < (t129.length : Int) := of_decide_eq_true (by first | (with_reducible assumption) | assumption)
       obtain ⟨ad133, e133, hx133_0⟩ := Kd.at_string (R_reads' HO_4.out).2.2 0 p133 q133
       cases e133
       have qi133 : (0 < t129.length) = True := eq_true (by omega)
       (try rw [show ((0 : Int)).toNat = 0 from rfl] at hx133_0)
       (try rw [Addr.add_zero'] at hx133_0)
       replace p133 := eq_true p133
       replace q133 := eq_true q133
       refine start_ (n := 25) (S := fun w' => w'.cell? ad133 = some (.string (rdOf ByteArray.empty t129 0))) (ds := []) #[false, false, false, false, false, false, false, false, false, false, false, false, false, false, false, false, false, false, false, false, false, false, false, false, false] (by kernel_rfl) rfl rfl (hx133_0) (fun hHeld => ?_); refine with_tabW spec_l9Read.tab5 spec_l9Read.bits5 (fun HT_ HW_ => ?_)
       generalize wr.drew = w32 at HO_4 BK128 HB hx133_0 hHeld ⊢
       refine puY (i := 0) 14 (bq 1 25) HT_ ?_
       refine puY (i := 2) 16 #[true, false, true, false, false, false, false, false, false, false, false, false, false, false, false, false, false, false, false, false, false, false, false, false, false] HT_ ?_
       refine puY (i := 3) 17 #[true, false, true, true, false, false, false, false, false, false, false, false, false, false, false, false, false, false, false, false, false, false, false, false, false] HT_ ?_
       refine take_ (i := 4) (N := some 18) (v := ?_) (a' := ?_) #[true, false, true, true, true, false, false, false, false, false, false, false, false, false, false, false, false, false, false, false, false, false, false, false, false] rfl rfl (take_ofW HT_.out HW_.out (by kernel_rfl)) (fun _ _ _ h => h) (Or.inl ⟨by rfl, ?_⟩) hHeld ?_ ?_
       rotate_left
       ·intro w' s0
        go_simp
        with_reducible rfl
       rotate_left
       ·simp only [Act.put, stA, stZ, stS, i64_w, i32_w]
        rfl
       refine onY (i := 1) 15 (bq 5 25) HT_ (fun K hK => ?_)
       refine goes_ Tryd.func25 (by kernel_rfl) rfl #[.int .i64 x5_1] (by rfl) rfl rfl (by (try simp only [map_toArray, map_cons, map_nil]); first | done | rfl | (simp only [length_drop, length_take]; rfl)) ?_
       with_reducible refine (spec_l9Name.calls x5_1 t132 _ A7.out).mono ?_
       rintro e w34 ⟨rfl, hb⟩
       have HS0_ := (hb.cell (block_lt_of_cell? _ _ (hHeld))).trans (hHeld)
       refine ⟨_, rfl, ?_⟩
       have n0_ := Aside0.mk (R_below (by (with_reducible repeat (first | apply R_alloc | apply R_drewN | apply R_drew)); exact HO_4.out) hb)
       have n1_ := Aside0.mk (blk_below (g := gb128) (o := .cells #[.int .i64 x129000_1, .int .i64 x129001_1, .int .i64 x129002_1] 34 (0, 0)) (by (with_reducible repeat (first | refine blk_drewN ?_ _ | refine blk_drew ?_ | refine blk_alloc ?_ _)); exact BK128.out) hb)
       have n2_ := Aside0.mk (below_step (by repeat (first | (with_reducible first | exact HB.out | apply bwA | apply bwN | apply bw1 | refine below_set ?_ GE128.out) | exact HB.out)) hb)
       clear HO_4
       clear BK128
       clear HB
       have HO_4 := n0_
       have BK128 := n1_
       have HB := n2_
       clear n0_ n1_ n2_
       (try clear hb)
       (try clear hb2)
       (try clear hk)
       (try clear hi)
       refine hK.out _ _ (HS0_) (fun hHeld => ?_)
       clear hK K
       refine norm_ (a' := ?_) ?_ ?_
       rotate_left
       ·show Act.put _ (some 15) _ = _
        simp only [Act.put, stA, stZ, stS, i64_w, i32_w]
        rfl
       refine puY (i := 5) 19 (bq 6 25) HT_ ?_
       refine puY (i := 6) 20 (bq 7 25) HT_ ?_
       refine puN (i := 7) 21 (bq 8 25) HT_ ?_
       refine puN (i := 8) 22 (bq 9 25) HT_ ?_
       refine puN (i := 9) 23 (bq 10 25) HT_ ?_
       refine puN (i := 10) 24 (bq 11 25) HT_ ?_
       refine puN (i := 11) 25 (bq 12 25) HT_ ?_
       refine puN (i := 12) 26 (bq 13 25) HT_ ?_
       refine puN (i := 13) 27 (bq 14 25) HT_ ?_
       refine puN (i := 14) 28 (bq 15 25) HT_ ?_
       refine puY (i := 15) 29 (bq 16 25) HT_ ?_
       refine puY (i := 16) 30 (bq 17 25) HT_ ?_
       refine puN (i := 17) 31 (bq 18 25) HT_ ?_
       refine puN (i := 18) 32 (bq 19 25) HT_ ?_
       refine puN (i := 19) 33 (bq 20 25) HT_ ?_
       refine puN (i := 20) 34 (bq 21 25) HT_ ?_
       refine puN (i := 21) 35 (bq 22 25) HT_ ?_
       refine puN (i := 22) 36 (bq 23 25) HT_ ?_
       refine puN (i := 23) 37 (bq 24 25) HT_ ?_
       refine puY (i := 24) 38 (bq 25 25) HT_ ?_
       refine done_ (done_of HT_.out (by kernel_rfl)) ?_
       try go_wp2
       go_meet
       case rel => exact ⟨_, (true), (by first | rfl | (simp; done) | (simp [*]; done)), H', ⟨by have := HK1.out; first | omega | exact Nat.le_refl _⟩, ⟨by (with_reducible repeat (first | apply R_alloc | apply R_drewN | apply R_drew)); exact HO_4.out⟩, ⟨by (with_reducible repeat (first | refine blk_drewN ?_ _ | refine blk_drew ?_ | refine blk_alloc ?_ _)); exact BK128.out⟩, ⟨by repeat (first | (with_reducible first | exact HB.out | apply bwA | apply bwN | apply bw1 | refine below_set ?_ GE128.out) | exact HB.out)⟩⟩
     ·rw [if_neg c8] at H
      exact absurd H (by simp)
    case rest =>
     clear HC6
     try clear p1
     try clear q1
     try clear hx1
     try clear qi1
     try clear c2
     try clear p2
     try clear c8
     try clear c9
     try clear c9b0
     try clear c9b1
     try clear p13
     try clear q13
     try clear hx13
     try clear qi13
     try clear c20
     try clear c25
     try clear c26
     try clear hx133_0
     try clear p133
     try clear q133
     obtain ⟨kq, x38_5, rfl, HA, HJ5, HO_4, BK128, HB⟩ := hcut
     cases kq with
     | zero => exact absurd HA.out (by simp [spec_l9Read.j1])
     | succ kj5 =>
      have H := HA.out
      clear HA
      simp only [spec_l9Read.j1] at H
      by_cases c35 : x38_5 = true
      ·subst c35
       have H1 : (spec_l9Read.l0 kj5 t129 (wrap64 (x5_1 + 1))) = some (r1, r2, r3, r4) := by rw [if_pos rfl] at H; exact H
       clear H
       have H := H1
       clear H1
       have H' := Aside0.mk H
       clear H
       go_wp2
       go_roundg kj5
       case measure => have := HK1.out; have := HJ5.out; omega
       case rel => exact ⟨(wrap64 (x5_1 + 1)), (x129000_1), (x129001_1), (x129002_1), (by first | rfl | (simp; done) | (simp [*]; done)), H', ⟨by have := HK1.out; have := HJ5.out; omega⟩, ⟨by (with_reducible repeat (first | apply R_alloc | apply R_drewN | apply R_drew)); exact HO_4.out⟩, ⟨by (with_reducible repeat (first | refine blk_drewN ?_ _ | refine blk_drew ?_ | refine blk_alloc ?_ _)); exact BK128.out⟩, ⟨by repeat (first | (with_reducible first | exact HB.out | apply bwA | apply bwN | apply bw1 | refine below_set ?_ GE128.out) | exact HB.out)⟩⟩
      ·replace c35 := Bool.eq_false_iff.mpr c35
       subst c35
       have H1 : (if 1 < (t129.length : Int) then (if (rdOf ByteArray.empty t129 1).toList = ([105, 116] : List UInt8) then (spec_l9Read.j2 kj5 t129 x5_1 true x5_1 (-1) 0) else ((spec_l1Read.f kj5 (rdOf ByteArray.empty t129 1)).bind fun bt140 => (if bt140.2 = true then (spec_l9Read.j2 kj5 t129 x5_1 (decide (bt140.1 ≥ 0)) x5_1 bt140.1 0) else (spec_l9Read.j2 kj5 t129 x5_1 false x5_1 bt140.1 0)))) else (none)) = some (r1, r2, r3, r4) := by rw [if_neg (show ¬ (false = true) by decide)] at H; exact H
       clear H
       have H := H1
       clear H1
       by_cases c36 : 1 < (t129.length : Int)
       ·rw [if_pos c36] at H
        have c36b0 : decide (1 < (t129.length : Int)) = true := decide_eq_true c36
        have c36b1 : decide (1 < t129.length) = true := decide_eq_true (by omega)
        clear c36
        have HC37 := Aside0.mk H
        clear H
        go_upto_if 44 with (first | ((with_reducible refine gate_dst (N := 6) rfl ?_); (try (refine gate_guard (by rfl) ?_; dsimp only)); refine box_event ?hg (N := 6) ?hd (cs := #[.int .i64 0, .int .i64 0, .int .i64 0]) (t := 34) ?hr ?_; (case hd => rfl); (case hg => rfl); (case hr => first | (go_simp; done) | (go_simp; rfl)); intro gb137 hg w38 hbox hb; have n0_ := Aside0.mk (R_below (by (with_reducible repeat (first | apply R_alloc | apply R_drewN | apply R_drew)); exact HO_4.out) hb); have n1_ := Aside0.mk (blk_below (g := gb128) (o := .cells #[.int .i64 x129000_1, .int .i64 x129001_1, .int .i64 x129002_1] 34 (0, 0)) (by (with_reducible repeat (first | refine blk_drewN ?_ _ | refine blk_drew ?_ | refine blk_alloc ?_ _)); exact BK128.out) hb); have n2_ := Aside0.mk (below_step (by repeat (first | (with_reducible first | exact HB.out | apply bwA | apply bwN | apply bw1 | refine below_set ?_ GE128.out) | exact HB.out)) hb); have n3_ := Aside0.mk (hbox); have n4_ := Aside0.mk ((by rw [hg]; exact (below_size (by repeat (first | (with_reducible first | exact HB.out | apply bwA | apply bwN | apply bw1 | refine below_set ?_ GE128.out) | exact HB.out))) : w.heap.size ≤ gb137)); have n5_ := Aside0.mk ((by rw [hg]; exact (below_size (by repeat (first | (with_reducible first | exact HB.out | apply bwA | apply bwN | apply bw1 | refine below_set ?_ GE128.out) | exact HB.out))) : w.heap.size ≤ gb137)); have n6_ := Aside0.mk ((by rw [hg]; exact Nat.ne_of_lt (blk_lt (g := gb128) (o := .cells #[.int .i64 x129000_1, .int .i64 x129001_1, .int .i64 x129002_1] 34 (0, 0)) (by (with_reducible repeat (first | refine blk_drewN ?_ _ | refine blk_drew ?_ | refine blk_alloc ?_ _)); exact BK128.out)) : gb128 ≠ gb137)); have n7_ := Aside0.mk ((by rw [hg]; exact Nat.ne_of_gt (blk_lt (g := gb128) (o := .cells #[.int .i64 x129000_1, .int .i64 x129001_1, .int .i64 x129002_1] 34 (0, 0)) (by (with_reducible repeat (first | refine blk_drewN ?_ _ | refine blk_drew ?_ | refine blk_alloc ?_ _)); exact BK128.out)) : gb137 ≠ gb128)); clear HO_4; clear BK128; clear HB; have HO_4 := n0_; have BK128 := n1_; have HB := n2_; have BK137 := n3_; have GW137 := n4_; have GE137 := n5_; have NB128_137 := n6_; have NB137_128 := n7_; clear n0_ n1_ n2_ n3_ n4_ n5_ n6_ n7_; clear hb hbox hg; have hnb39 := NB137_128.out; have hnc39 := NB128_137.out; have hcz40_0 : w38.cell? ⟨gb137, 0, none⟩ = some (.int .i64 0) := (blk_cell BK137.out 0).trans rfl; have hcz40_1 : w38.cell? ⟨gb137, 1, none⟩ = some (.int .i64 0) := (blk_cell BK137.out 1).trans rfl; have hcz40_2 : w38.cell? ⟨gb137, 2, none⟩ = some (.int .i64 0) := (blk_cell BK137.out 2).trans rfl; have hfz40_0 := blk_frozen BK137.out 0; have hfz40_1 := blk_frozen BK137.out 1; have hfz40_2 := blk_frozen BK137.out 2; obtain ⟨Ao41, co41, eo41⟩ := Kd.R_slice HO_4.out; subst eo41; have p138 : 0 ≤ (1 : Int) := (by omega); have q138 : 1 < (t129.length : Int) := of_decide_eq_true (by first | (with_reducible assumption) | assumption); obtain ⟨ad138, e138, hx138_0⟩ := Kd.at_string (R_reads' HO_4.out).2.2 1 p138 q138; cases e138; (try simp only [show (1 : Int).toNat = 1 from rfl, Nat.reduceMul, Nat.reduceEqDiff, Go.Addr.add, ↓reduceIte] at hx138_0); have qi138 : (1 < t129.length) = True := eq_true (by omega); (try rw [show ((1 : Int)).toNat = 1 from rfl] at hx138_0); have hn138_0 : ad138.block ≠ gb137 := Kd.own_blk (Kd.R_ne HO_4.out BK137.out (by decide)); have hn138_1 : ad138.block ≠ gb137 := Kd.own_blk (Kd.R_ne HO_4.out BK137.out (by decide)); have hn138_2 : ad138.block ≠ gb137 := Kd.own_blk (Kd.R_ne HO_4.out BK137.out (by decide)); replace hx138_0 := (cell_far (p := ⟨gb137, 0, none⟩) (by first | (rw [add_block]; exact hn138_0) | (show (Addr.add _ _).block ≠ _; rw [add_block]; exact hn138_0) | exact hn138_0) (.int .i64 x5_1)).trans hx138_0; replace hx138_0 := (cell_far (p := ⟨gb137, 1, none⟩) (by first | (rw [add_block]; exact hn138_1) | (show (Addr.add _ _).block ≠ _; rw [add_block]; exact hn138_1) | exact hn138_1) (.int .i64 0)).trans hx138_0; replace hx138_0 := (cell_far (p := ⟨gb137, 2, none⟩) (by first | (rw [add_block]; exact hn138_2) | (show (Addr.add _ _).block ≠ _; rw [add_block]; exact hn138_2) | exact hn138_2) (.int .i64 0)).trans hx138_0; clear hn138_0; clear hn138_1; clear hn138_2; replace p138 := eq_true p138; replace q138 := eq_true q138))
        (try simp only [Act.put, stA, stZ, stS])
        go_cut [7] (fun v7 wc => ∃ (kq : Nat) (x7_36 : Bool) (x138001_36 : Int), v7 = .bool x7_36 ∧ Aside0 (spec_l9Read.j2 kq t129 x5_1 x7_36 x5_1 x138001_36 0 = some (r1, r2, r3, r4)) ∧ Aside0 (kq ≤ kj5) ∧ Aside0 (Kd.R Kd.string 9 wc w.heap.size (fun _ => True) (.slice (some ad138) t129.length co41) t129) ∧ Aside0 (wc.heap[gb128]? = some (.cells #[.int .i64 x129000_1, .int .i64 x129001_1, .int .i64 x129002_1] 34 (0, 0))) ∧ Aside0 (wc.heap[gb137]? = some (.cells #[.int .i64 x5_1, .int .i64 x138001_36, .int .i64 0] 34 (0, 0))) ∧ Aside0 (Below w.heap.size w wc))
        case first =>
         have H := HC37.out
         clear HC37
         by_cases c42 : (rdOf ByteArray.empty t129 1).toList = ([105, 116] : List UInt8)
         ·rw [if_pos c42] at H
          have c42b0 : ((rdOf ByteArray.empty t129 1).toList == ([105, 116] : List UInt8)) = true := beq_iff_eq.mpr c42
          have c42b1 : ((rdOf ByteArray.empty t129 1).toList != ([105, 116] : List UInt8)) = false := bne_eq_false_iff_eq.mpr c42
          clear c42
          (first | rw [c42b0] | (simp only [i64_w, i32_w]; rw [c42b0]) | skip)
          have H' := Aside0.mk H
          clear H
          have hnb43 := NB137_128.out
          have hnc43 := NB128_137.out
          have hcz44_0 : w38.cell? ⟨gb137, 0, none⟩ = some (.int .i64 0) := (blk_cell BK137.out 0).trans rfl
          have hcz44_1 : w38.cell? ⟨gb137, 1, none⟩ = some (.int .i64 0) := (blk_cell BK137.out 1).trans rfl
          have hcz44_2 : w38.cell? ⟨gb137, 2, none⟩ = some (.int .i64 0) := (blk_cell BK137.out 2).trans rfl
          have hfz44_0 := blk_frozen BK137.out 0
          have hfz44_1 := blk_frozen BK137.out 1
          have hfz44_2 := blk_frozen BK137.out 2
          go_wp2
          go_meet
          case rel => exact ⟨_, (true), ((-1)), (by first | rfl | (simp; done) | (simp [*]; done)), H', ⟨by have := HK1.out; have := HJ5.out; first | omega | exact Nat.le_refl _⟩, ⟨by (with_reducible repeat (first | apply R_alloc | apply R_drewN | apply R_drew)); exact Kd.R_mono (Kd.R_far (p := ⟨gb137, 1, none⟩) (Kd.R_far (p := ⟨gb137, 2, none⟩) (Kd.R_far (p := ⟨gb137, 1, none⟩) (Kd.R_far (p := ⟨gb137, 0, none⟩) (Kd.R_types HO_4.out BK137.out (by decide)) (fun _ hk => hk.2) (.int .i64 x5_1)) (fun _ hk => hk.2) (.int .i64 0)) (fun _ hk => hk.2) (.int .i64 0)) (fun _ hk => hk.2) (.int .i64 (-1))) (fun _ hk => trivial)⟩, ⟨by (with_reducible repeat (first | refine blk_drewN ?_ _ | refine blk_drew ?_ | refine blk_alloc ?_ _)); refine blk_far ?_ NB128_137.out _; (with_reducible repeat (first | refine blk_drewN ?_ _ | refine blk_drew ?_ | refine blk_alloc ?_ _)); refine blk_far ?_ NB128_137.out _; (with_reducible repeat (first | refine blk_drewN ?_ _ | refine blk_drew ?_ | refine blk_alloc ?_ _)); refine blk_far ?_ NB128_137.out _; (with_reducible repeat (first | refine blk_drewN ?_ _ | refine blk_drew ?_ | refine blk_alloc ?_ _)); refine blk_far ?_ NB128_137.out _; (with_reducible repeat (first | refine blk_drewN ?_ _ | refine blk_drew ?_ | refine blk_alloc ?_ _)); exact BK128.out⟩, ⟨by (with_reducible repeat (first | refine blk_drewN ?_ _ | refine blk_drew ?_ | refine blk_alloc ?_ _)); refine blk_put (cs := #[.int .i64 x5_1, .int .i64 0, .int .i64 0]) ?_ 1 _ rfl; (with_reducible repeat (first | refine blk_drewN ?_ _ | refine blk_drew ?_ | refine blk_alloc ?_ _)); refine blk_put (cs := #[.int .i64 x5_1, .int .i64 0, .int .i64 0]) ?_ 2 _ rfl; (with_reducible repeat (first | refine blk_drewN ?_ _ | refine blk_drew ?_ | refine blk_alloc ?_ _)); refine blk_put (cs := #[.int .i64 x5_1, .int .i64 0, .int .i64 0]) ?_ 1 _ rfl; (with_reducible repeat (first | refine blk_drewN ?_ _ | refine blk_drew ?_ | refine blk_alloc ?_ _)); refine blk_put (cs := #[.int .i64 0, .int .i64 0, .int .i64 0]) ?_ 0 _ rfl; (with_reducible repeat (first | refine blk_drewN ?_ _ | refine blk_drew ?_ | refine blk_alloc ?_ _)); exact BK137.out⟩, ⟨by repeat (first | (with_reducible first | exact HB.out | apply bwA | apply bwN | apply bw1 | refine below_set ?_ GE128.out | refine below_set ?_ GE137.out) | exact HB.out)⟩⟩
         ·rw [if_neg c42] at H
          have c42b0 : ((rdOf ByteArray.empty t129 1).toList == ([105, 116] : List UInt8)) = false := beq_eq_false_iff_ne.mpr c42
          have c42b1 : ((rdOf ByteArray.empty t129 1).toList != ([105, 116] : List UInt8)) = true := bne_iff_ne.mpr c42
          (first | rw [c42b0] | (simp only [i64_w, i32_w]; rw [c42b0]) | skip)
          replace H := bind_eq_some_iff.mp H
          obtain ⟨⟨t140, t141⟩, A450, H⟩ := H
          replace H : (if t141 = true then (spec_l9Read.j2 kj5 t129 x5_1 (decide (t140 ≥ 0)) x5_1 t140 0) else (spec_l9Read.j2 kj5 t129 x5_1 false x5_1 t140 0)) = some (r1, r2, r3, r4) := H
          have A45 := Aside0.mk A450
          clear A450
          by_cases c46 : t141 = true
          ·subst c46
           have H1 : (spec_l9Read.j2 kj5 t129 x5_1 (decide (t140 ≥ 0)) x5_1 t140 0) = some (r1, r2, r3, r4) := by rw [if_pos rfl] at H; exact H
           clear H
           have H := H1
           clear H1
           have H' := Aside0.mk H
           clear H
           have p139 : 0 ≤ (1 : Int) := (by omega)
           have q139 : 1 < (t129.length : Int) := of_decide_eq_true (by first | (with_reducible assumption) | assumption)
           obtain ⟨ad139, e139, hx139_0⟩ := Kd.at_string (R_reads' HO_4.out).2.2 1 p139 q139
           obtain rfl : ad138 = ad139 := (by injection e139)
           (try simp only [show (1 : Int).toNat = 1 from rfl, Nat.reduceMul, Nat.reduceEqDiff, Go.Addr.add, ↓reduceIte] at hx139_0)
           have qi139 : (1 < t129.length) = True := eq_true (by omega)
           (try rw [show ((1 : Int)).toNat = 1 from rfl] at hx139_0)
           have hn139_0 : ad138.block ≠ gb137 := Kd.own_blk (Kd.R_ne HO_4.out BK137.out (by decide))
           have hn139_1 : ad138.block ≠ gb137 := Kd.own_blk (Kd.R_ne HO_4.out BK137.out (by decide))
           have hn139_2 : ad138.block ≠ gb137 := Kd.own_blk (Kd.R_ne HO_4.out BK137.out (by decide))
           replace hx139_0 := (cell_far (p := ⟨gb137, 0, none⟩) (by first | (rw [add_block]; exact hn139_0) | (show (Addr.add _ _).block ≠ _; rw [add_block]; exact hn139_0) | exact hn139_0) (.int .i64 x5_1)).trans hx139_0
           replace hx139_0 := (cell_far (p := ⟨gb137, 1, none⟩) (by first | (rw [add_block]; exact hn139_1) | (show (Addr.add _ _).block ≠ _; rw [add_block]; exact hn139_1) | exact hn139_1) (.int .i64 0)).trans hx139_0
           replace hx139_0 := (cell_far (p := ⟨gb137, 2, none⟩) (by first | (rw [add_block]; exact hn139_2) | (show (Addr.add _ _).block ≠ _; rw [add_block]; exact hn139_2) | exact hn139_2) (.int .i64 0)).trans hx139_0
           clear hn139_0
           clear hn139_1
           clear hn139_2
           replace p139 := eq_true p139
           replace q139 := eq_true q139
           go_wp2_with (first | ((with_reducible refine gate_callee (f := 27) rfl ?_); refine goesL_ (some 50) rfl rfl Tryd.func27 (by kernel_rfl) rfl #[.string (rdOf ByteArray.empty t129 1)] rfl (by (try simp only [map_toArray, map_cons, map_nil]); first | done | rfl | (simp only [length_drop, length_take]; rfl)) ?_; (with_reducible refine (spec_l1Read.calls kj5 (rdOf ByteArray.empty t129 1) t140 true _ A45.out).mono ?_); rintro e w' ⟨rfl, ⟨nd, rfl⟩⟩; refine ⟨_, rfl, ?_⟩; have hnb47 := NB137_128.out; have hnc47 := NB128_137.out; have hcz48_0 : w38.cell? ⟨gb137, 0, none⟩ = some (.int .i64 0) := (blk_cell BK137.out 0).trans rfl; have hcz48_1 : w38.cell? ⟨gb137, 1, none⟩ = some (.int .i64 0) := (blk_cell BK137.out 1).trans rfl; have hcz48_2 : w38.cell? ⟨gb137, 2, none⟩ = some (.int .i64 0) := (blk_cell BK137.out 2).trans rfl; have hfz48_0 := blk_frozen BK137.out 0; have hfz48_1 := blk_frozen BK137.out 1; have hfz48_2 := blk_frozen BK137.out 2; have hq_ : ((((w38.setCell ⟨gb137, 0, none⟩ (.int .i64 x5_1)).setCell ⟨gb137, 1, none⟩ (.int .i64 0)).setCell ⟨gb137, 2, none⟩ (.int .i64 0)).setCell ⟨gb137, 1, none⟩ (.int .i64 t140)).cell? ⟨gb137, 1, none⟩ = some (.int .i64 t140) := (blk_cell (blk_put (blk_put (blk_put (blk_put BK137.out 0 (.int .i64 x5_1) rfl) 1 (.int .i64 0) rfl) 2 (.int .i64 0) rfl) 1 (.int .i64 t140) rfl) 1).trans rfl))
           rotate_left
           ·exact absurd (hq_.symm.trans (by assumption : _ = (none : Option Value))) (by simp)
           ·exact absurd (hq_.symm.trans (by assumption : _ = (none : Option Value))) (by simp)
           rename_i v_ heq_
           obtain rfl := Option.some.inj (hq_.symm.trans heq_)
           go_wp2
           simp only [Result.andThen_ok]
           go_wp2
           go_meet
           case rel => exact ⟨_, (decide (t140 ≥ 0)), (t140), (by first | rfl | (simp; done) | (simp [*]; done)), H', ⟨by have := HK1.out; have := HJ5.out; first | omega | exact Nat.le_refl _⟩, ⟨by (with_reducible repeat (first | apply R_alloc | apply R_drewN | apply R_drew)); exact Kd.R_mono (Kd.R_far (p := ⟨gb137, 1, none⟩) (Kd.R_far (p := ⟨gb137, 2, none⟩) (Kd.R_far (p := ⟨gb137, 1, none⟩) (Kd.R_far (p := ⟨gb137, 0, none⟩) (Kd.R_types HO_4.out BK137.out (by decide)) (fun _ hk => hk.2) (.int .i64 x5_1)) (fun _ hk => hk.2) (.int .i64 0)) (fun _ hk => hk.2) (.int .i64 0)) (fun _ hk => hk.2) (.int .i64 t140)) (fun _ hk => trivial)⟩, ⟨by (with_reducible repeat (first | refine blk_drewN ?_ _ | refine blk_drew ?_ | refine blk_alloc ?_ _)); refine blk_far ?_ NB128_137.out _; (with_reducible repeat (first | refine blk_drewN ?_ _ | refine blk_drew ?_ | refine blk_alloc ?_ _)); refine blk_far ?_ NB128_137.out _; (with_reducible repeat (first | refine blk_drewN ?_ _ | refine blk_drew ?_ | refine blk_alloc ?_ _)); refine blk_far ?_ NB128_137.out _; (with_reducible repeat (first | refine blk_drewN ?_ _ | refine blk_drew ?_ | refine blk_alloc ?_ _)); refine blk_far ?_ NB128_137.out _; (with_reducible repeat (first | refine blk_drewN ?_ _ | refine blk_drew ?_ | refine blk_alloc ?_ _)); exact BK128.out⟩, ⟨by (with_reducible repeat (first | refine blk_drewN ?_ _ | refine blk_drew ?_ | refine blk_alloc ?_ _)); refine blk_put (cs := #[.int .i64 x5_1, .int .i64 0, .int .i64 0]) ?_ 1 _ rfl; (with_reducible repeat (first | refine blk_drewN ?_ _ | refine blk_drew ?_ | refine blk_alloc ?_ _)); refine blk_put (cs := #[.int .i64 x5_1, .int .i64 0, .int .i64 0]) ?_ 2 _ rfl; (with_reducible repeat (first | refine blk_drewN ?_ _ | refine blk_drew ?_ | refine blk_alloc ?_ _)); refine blk_put (cs := #[.int .i64 x5_1, .int .i64 0, .int .i64 0]) ?_ 1 _ rfl; (with_reducible repeat (first | refine blk_drewN ?_ _ | refine blk_drew ?_ | refine blk_alloc ?_ _)); refine blk_put (cs := #[.int .i64 0, .int .i64 0, .int .i64 0]) ?_ 0 _ rfl; (with_reducible repeat (first | refine blk_drewN ?_ _ | refine blk_drew ?_ | refine blk_alloc ?_ _)); exact BK137.out⟩, ⟨by repeat (first | (with_reducible first | exact HB.out | apply bwA | apply bwN | apply bw1 | refine below_set ?_ GE128.out | refine below_set ?_ GE137.out) | exact HB.out)⟩⟩
          ·replace c46 := Bool.eq_false_iff.mpr c46
           subst c46
           have H1 : (spec_l9Read.j2 kj5 t129 x5_1 false x5_1 t140 0) = some (r1, r2, r3, r4) := by rw [if_neg (show ¬ (false = true) by decide)] at H; exact H
           clear H
           have H := H1
           clear H1
           have H' := Aside0.mk H
           clear H
           have p139 : 0 ≤ (1 : Int) := (by omega)
           have q139 : 1 < (t129.length : Int) := of_decide_eq_true (by first | (with_reducible assumption) | assumption)
           obtain ⟨ad139, e139, hx139_0⟩ := Kd.at_string (R_reads' HO_4.out).2.2 1 p139 q139
           obtain rfl : ad138 = ad139 := (by injection e139)
           (try simp only [show (1 : Int).toNat = 1 from rfl, Nat.reduceMul, Nat.reduceEqDiff, Go.Addr.add, ↓reduceIte] at hx139_0)
           have qi139 : (1 < t129.length) = True := eq_true (by omega)
           (try rw [show ((1 : Int)).toNat = 1 from rfl] at hx139_0)
           have hn139_0 : ad138.block ≠ gb137 := Kd.own_blk (Kd.R_ne HO_4.out BK137.out (by decide))
           have hn139_1 : ad138.block ≠ gb137 := Kd.own_blk (Kd.R_ne HO_4.out BK137.out (by decide))
           have hn139_2 : ad138.block ≠ gb137 := Kd.own_blk (Kd.R_ne HO_4.out BK137.out (by decide))
           replace hx139_0 := (cell_far (p := ⟨gb137, 0, none⟩) (by first | (rw [add_block]; exact hn139_0) | (show (Addr.add _ _).block ≠ _; rw [add_block]; exact hn139_0) | exact hn139_0) (.int .i64 x5_1)).trans hx139_0
           replace hx139_0 := (cell_far (p := ⟨gb137, 1, none⟩) (by first | (rw [add_block]; exact hn139_1) | (show (Addr.add _ _).block ≠ _; rw [add_block]; exact hn139_1) | exact hn139_1) (.int .i64 0)).trans hx139_0
           replace hx139_0 := (cell_far (p := ⟨gb137, 2, none⟩) (by first | (rw [add_block]; exact hn139_2) | (show (Addr.add _ _).block ≠ _; rw [add_block]; exact hn139_2) | exact hn139_2) (.int .i64 0)).trans hx139_0
           clear hn139_0
           clear hn139_1
           clear hn139_2
           replace p139 := eq_true p139
           replace q139 := eq_true q139
           go_wp2_with (first | ((with_reducible refine gate_callee (f := 27) rfl ?_); refine goesL_ (some 50) rfl rfl Tryd.func27 (by kernel_rfl) rfl #[.string (rdOf ByteArray.empty t129 1)] rfl (by (try simp only [map_toArray, map_cons, map_nil]); first | done | rfl | (simp only [length_drop, length_take]; rfl)) ?_; (with_reducible refine (spec_l1Read.calls kj5 (rdOf ByteArray.empty t129 1) t140 false _ A45.out).mono ?_); rintro e w' ⟨rfl, ⟨nd, rfl⟩⟩; refine ⟨_, rfl, ?_⟩; have hnb49 := NB137_128.out; have hnc49 := NB128_137.out; have hcz50_0 : w38.cell? ⟨gb137, 0, none⟩ = some (.int .i64 0) := (blk_cell BK137.out 0).trans rfl; have hcz50_1 : w38.cell? ⟨gb137, 1, none⟩ = some (.int .i64 0) := (blk_cell BK137.out 1).trans rfl; have hcz50_2 : w38.cell? ⟨gb137, 2, none⟩ = some (.int .i64 0) := (blk_cell BK137.out 2).trans rfl; have hfz50_0 := blk_frozen BK137.out 0; have hfz50_1 := blk_frozen BK137.out 1; have hfz50_2 := blk_frozen BK137.out 2))
           go_meet
           case rel => exact ⟨_, (false), (t140), (by first | rfl | (simp; done) | (simp [*]; done)), H', ⟨by have := HK1.out; have := HJ5.out; first | omega | exact Nat.le_refl _⟩, ⟨by (with_reducible repeat (first | apply R_alloc | apply R_drewN | apply R_drew)); exact Kd.R_mono (Kd.R_far (p := ⟨gb137, 1, none⟩) (Kd.R_far (p := ⟨gb137, 2, none⟩) (Kd.R_far (p := ⟨gb137, 1, none⟩) (Kd.R_far (p := ⟨gb137, 0, none⟩) (Kd.R_types HO_4.out BK137.out (by decide)) (fun _ hk => hk.2) (.int .i64 x5_1)) (fun _ hk => hk.2) (.int .i64 0)) (fun _ hk => hk.2) (.int .i64 0)) (fun _ hk => hk.2) (.int .i64 t140)) (fun _ hk => trivial)⟩, ⟨by (with_reducible repeat (first | refine blk_drewN ?_ _ | refine blk_drew ?_ | refine blk_alloc ?_ _)); refine blk_far ?_ NB128_137.out _; (with_reducible repeat (first | refine blk_drewN ?_ _ | refine blk_drew ?_ | refine blk_alloc ?_ _)); refine blk_far ?_ NB128_137.out _; (with_reducible repeat (first | refine blk_drewN ?_ _ | refine blk_drew ?_ | refine blk_alloc ?_ _)); refine blk_far ?_ NB128_137.out _; (with_reducible repeat (first | refine blk_drewN ?_ _ | refine blk_drew ?_ | refine blk_alloc ?_ _)); refine blk_far ?_ NB128_137.out _; (with_reducible repeat (first | refine blk_drewN ?_ _ | refine blk_drew ?_ | refine blk_alloc ?_ _)); exact BK128.out⟩, ⟨by (with_reducible repeat (first | refine blk_drewN ?_ _ | refine blk_drew ?_ | refine blk_alloc ?_ _)); refine blk_put (cs := #[.int .i64 x5_1, .int .i64 0, .int .i64 0]) ?_ 1 _ rfl; (with_reducible repeat (first | refine blk_drewN ?_ _ | refine blk_drew ?_ | refine blk_alloc ?_ _)); refine blk_put (cs := #[.int .i64 x5_1, .int .i64 0, .int .i64 0]) ?_ 2 _ rfl; (with_reducible repeat (first | refine blk_drewN ?_ _ | refine blk_drew ?_ | refine blk_alloc ?_ _)); refine blk_put (cs := #[.int .i64 x5_1, .int .i64 0, .int .i64 0]) ?_ 1 _ rfl; (with_reducible repeat (first | refine blk_drewN ?_ _ | refine blk_drew ?_ | refine blk_alloc ?_ _)); refine blk_put (cs := #[.int .i64 0, .int .i64 0, .int .i64 0]) ?_ 0 _ rfl; (with_reducible repeat (first | refine blk_drewN ?_ _ | refine blk_drew ?_ | refine blk_alloc ?_ _)); exact BK137.out⟩, ⟨by repeat (first | (with_reducible first | exact HB.out | apply bwA | apply bwN | apply bw1 | refine below_set ?_ GE128.out | refine below_set ?_ GE137.out) | exact HB.out)⟩⟩
        case rest =>
         clear HC37
         try clear p1
         try clear q1
         try clear hx1
         try clear qi1
         try clear c2
         try clear p2
         try clear c3
         try clear c4
         try clear p6
         try clear c8
         try clear c9
         try clear c9b0
         try clear c9b1
         try clear p13
         try clear q13
         try clear hx13
         try clear qi13
         try clear c20
         try clear c25
         try clear c26
         try clear c27
         try clear c35
         try clear c36
         try clear c36b0
         try clear c36b1
         try clear c39
         try clear c42
         try clear c42b0
         try clear c42b1
         try clear c43
         try clear c46
         try clear c47
         try clear c49
         try clear hcz40_0
         try clear hcz40_1
         try clear hcz40_2
         try clear hcz44_0
         try clear hcz44_1
         try clear hcz44_2
         try clear hcz48_0
         try clear hcz48_1
         try clear hcz48_2
         try clear hcz50_0
         try clear hcz50_1
         try clear hcz50_2
         try clear hfz40_0
         try clear hfz40_1
         try clear hfz40_2
         try clear hfz44_0
         try clear hfz44_1
         try clear hfz44_2
         try clear hfz48_0
         try clear hfz48_1
         try clear hfz48_2
         try clear hfz50_0
         try clear hfz50_1
         try clear hfz50_2
         try clear hx133_0
         try clear hx138_0
         try clear hx139_0
         try clear p1
         try clear p13
         try clear p133
         try clear p138
         try clear p139
         try clear p2
         try clear q1
         try clear q13
         try clear q133
         try clear q138
         try clear q139
         obtain ⟨kq, x7_36, x138001_36, rfl, HA, HJ36, HO_4, BK128, BK137, HB⟩ := hcut
         cases kq with
         | zero => exact absurd HA.out (by simp [spec_l9Read.j2])
         | succ kj36 =>
          have H := HA.out
          clear HA
          simp only [spec_l9Read.j2] at H
          have HC51 := Aside0.mk H
          clear H
          go_upto_region 12 with (fail)
          go_cut [64] (fun v64 wc => ∃ (kq : Nat) (x64_50 : Bool), v64 = .bool x64_50 ∧ Aside0 (spec_l9Read.j3 kq t129 x7_36 x64_50 x5_1 x138001_36 0 = some (r1, r2, r3, r4)) ∧ Aside0 (kq ≤ kj36) ∧ Aside0 (Kd.R Kd.string 9 wc w.heap.size (fun _ => True) (.slice (some ad138) t129.length co41) t129) ∧ Aside0 (wc.heap[gb128]? = some (.cells #[.int .i64 x129000_1, .int .i64 x129001_1, .int .i64 x129002_1] 34 (0, 0))) ∧ Aside0 (wc.heap[gb137]? = some (.cells #[.int .i64 x5_1, .int .i64 x138001_36, .int .i64 0] 34 (0, 0))) ∧ Aside0 (Below w.heap.size w wc))
          case first =>
           have H := HC51.out
           clear HC51
           by_cases c52 : x7_36 = true
           ·subst c52
            have H1 : ((spec_l9Two.f x5_1).bind fun t142 => (spec_l9Read.j3 kj36 t129 true t142 x5_1 x138001_36 0)) = some (r1, r2, r3, r4) := by rw [if_pos rfl] at H; exact H
            clear H
            have H := H1
            clear H1
            replace H := bind_eq_some_iff.mp H
            obtain ⟨t142, A530, H⟩ := H
            replace H : (spec_l9Read.j3 kj36 t129 true t142 x5_1 x138001_36 0) = some (r1, r2, r3, r4) := H
            have A53 := Aside0.mk A530
            clear A530
            have H' := Aside0.mk H
            clear H
            go_wp2_with (first | (go_at_call 26; (with_reducible refine (spec_l9Two.calls x5_1 t142 _ A53.out).mono ?_); rintro e w' ⟨rfl, ⟨nd, rfl⟩⟩))
            go_meet
            case rel => exact ⟨_, (t142), (by first | rfl | (simp; done) | (simp [*]; done)), H', ⟨by have := HK1.out; have := HJ5.out; have := HJ36.out; first | omega | exact Nat.le_refl _⟩, ⟨by (with_reducible repeat (first | apply R_alloc | apply R_drewN | apply R_drew)); exact HO_4.out⟩, ⟨by (with_reducible repeat (first | refine blk_drewN ?_ _ | refine blk_drew ?_ | refine blk_alloc ?_ _)); exact BK128.out⟩, ⟨by (with_reducible repeat (first | refine blk_drewN ?_ _ | refine blk_drew ?_ | refine blk_alloc ?_ _)); exact BK137.out⟩, ⟨by repeat (first | (with_reducible first | exact HB.out | apply bwA | apply bwN | apply bw1 | refine below_set ?_ GE128.out | refine below_set ?_ GE137.out) | exact HB.out)⟩⟩
           ·replace c52 := Bool.eq_false_iff.mpr c52
            subst c52
            have H1 : (spec_l9Read.j3 kj36 t129 false false x5_1 x138001_36 0) = some (r1, r2, r3, r4) := by rw [if_neg (show ¬ (false = true) by decide)] at H; exact H
            clear H
            have H := H1
            clear H1
            have H' := Aside0.mk H
            clear H
            go_wp2
            go_meet
            case rel => exact ⟨_, (false), (by first | rfl | (simp; done) | (simp [*]; done)), H', ⟨by have := HK1.out; have := HJ5.out; have := HJ36.out; first | omega | exact Nat.le_refl _⟩, ⟨by (with_reducible repeat (first | apply R_alloc | apply R_drewN | apply R_drew)); exact HO_4.out⟩, ⟨by (with_reducible repeat (first | refine blk_drewN ?_ _ | refine blk_drew ?_ | refine blk_alloc ?_ _)); exact BK128.out⟩, ⟨by (with_reducible repeat (first | refine blk_drewN ?_ _ | refine blk_drew ?_ | refine blk_alloc ?_ _)); exact BK137.out⟩, ⟨by repeat (first | (with_reducible first | exact HB.out | apply bwA | apply bwN | apply bw1 | refine below_set ?_ GE128.out | refine below_set ?_ GE137.out) | exact HB.out)⟩⟩
          case rest =>
           clear HC51
           try clear p1
           try clear q1
           try clear hx1
           try clear qi1
           try clear c2
           try clear p2
           try clear c3
           try clear c4
           try clear c5
           try clear p6
           try clear c8
           try clear c9
           try clear c9b0
           try clear c9b1
           try clear p13
           try clear q13
           try clear hx13
           try clear qi13
           try clear c20
           try clear c25
           try clear c26
           try clear c27
           try clear c35
           try clear c36
           try clear c36b0
           try clear c36b1
           try clear c39
           try clear c42
           try clear c42b0
           try clear c42b1
           try clear c43
           try clear c46
           try clear c47
           try clear c49
           try clear c52
           try clear hcz40_0
           try clear hcz40_1
           try clear hcz40_2
           try clear hcz44_0
           try clear hcz44_1
           try clear hcz44_2
           try clear hcz48_0
           try clear hcz48_1
           try clear hcz48_2
           try clear hcz50_0
           try clear hcz50_1
           try clear hcz50_2
           try clear hfz40_0
           try clear hfz40_1
           try clear hfz40_2
           try clear hfz44_0
           try clear hfz44_1
           try clear hfz44_2
           try clear hfz48_0
           try clear hfz48_1
           try clear hfz48_2
           try clear hfz50_0
           try clear hfz50_1
           try clear hfz50_2
           try clear hx133_0
           try clear hx138_0
           try clear hx139_0
           try clear p1
           try clear p13
           try clear p133
           try clear p138
           try clear p139
           try clear p2
           try clear p6
           try clear q1
           try clear q13
           try clear q133
           try clear q138
           try clear q139
           obtain ⟨kq, x64_50, rfl, HA, HJ50, HO_4, BK128, BK137, HB⟩ := hcut
           cases kq with
           | zero => exact absurd HA.out (by simp [spec_l9Read.j3])
           | succ kj50 =>
            have H := HA.out
            clear HA
            simp only [spec_l9Read.j3] at H
            by_cases c54 : x64_50 = true
            ·subst c54
             have H1 : (if 2 < (t129.length : Int) then ((spec_l1Read.f kj50 (rdOf ByteArray.empty t129 2)).bind fun bt144 => (if bt144.2 = true then ((spec_InsOk.f kj50 x5_1 x138001_36 bt144.1).bind fun t146 => (some (x5_1, x138001_36, bt144.1, t146))) else (some (x5_1, x138001_36, bt144.1, false)))) else (none)) = some (r1, r2, r3, r4) := by rw [if_pos rfl] at H; exact H
             clear H
             have H := H1
             clear H1
             by_cases c55 : 2 < (t129.length : Int)
             ·rw [if_pos c55] at H
              have c55b0 : decide (2 < (t129.length : Int)) = true := decide_eq_true c55
              have c55b1 : decide (2 < t129.length) = true := decide_eq_true (by omega)
              clear c55
              replace H := bind_eq_some_iff.mp H
              obtain ⟨⟨t144, t145⟩, A560, H⟩ := H
              replace H : (if t145 = true then ((spec_InsOk.f kj50 x5_1 x138001_36 t144).bind fun t146 => (some (x5_1, x138001_36, t144, t146))) else (some (x5_1, x138001_36, t144, false))) = some (r1, r2, r3, r4) := H
              have A56 := Aside0.mk A560
              clear A560
              by_cases c57 : t145 = true
              ·subst c57
               have H1 : ((spec_InsOk.f kj50 x5_1 x138001_36 t144).bind fun t146 => (some (x5_1, x138001_36, t144, t146))) = some (r1, r2, r3, r4) := by rw [if_pos rfl] at H; exact H
               clear H
               have H := H1
               clear H1
               replace H := bind_eq_some_iff.mp H
               obtain ⟨t146, A580, H⟩ := H
               replace H : (some (x5_1, x138001_36, t144, t146)) = some (r1, r2, r3, r4) := H
               have A58 := Aside0.mk A580
               clear A580
               simp only [Option.some.injEq, Prod.mk.injEq] at H
               obtain ⟨rfl, rfl, rfl, rfl⟩ := H
               have p143 : 0 ≤ (2 : Int) := (by omega)
               have q143 : 2 < (t129.length : Int) := of_decide_eq_true (by first | (with_reducible assumption) | assumption)
               obtain ⟨ad143, e143, hx143_0⟩ := Kd.at_string (R_reads' HO_4.out).2.2 2 p143 q143
               obtain rfl : ad138 = ad143 := (by injection e143)
               (try simp only [show (2 : Int).toNat = 2 from rfl, Nat.reduceMul, Nat.reduceEqDiff, Go.Addr.add, ↓reduceIte] at hx143_0)
               have qi143 : (2 < t129.length) = True := eq_true (by omega)
               (try rw [show ((2 : Int)).toNat = 2 from rfl] at hx143_0)
               replace p143 := eq_true p143
               replace q143 := eq_true q143
               try go_wp2_with (first | ((with_reducible refine gate_callee (f := 27) rfl ?_); refine goesL_ (some 69) rfl rfl Tryd.func27 (by kernel_rfl) rfl #[.string (rdOf ByteArray.empty t129 2)] rfl (by (try simp only [map_toArray, map_cons, map_nil]); first | done | rfl | (simp only [length_drop, length_take]; rfl)) ?_; (with_reducible refine (spec_l1Read.calls kj50 (rdOf ByteArray.empty t129 2) t144 true _ A56.out).mono ?_); rintro e w' ⟨rfl, ⟨nd, rfl⟩⟩; refine ⟨_, rfl, ?_⟩; (try (rw [drewN_self wc]; generalize hq_ : World.drewN wc _ = wc; have n0_ : Aside0 (Kd.R Kd.string 9 wc w.heap.size (fun _ => True) (.slice (some ad138) t129.length co41) t129) := ⟨by rw [← hq_]; exact (by (with_reducible repeat (first | apply R_alloc | apply R_drewN | apply R_drew)); exact HO_4.out)⟩; have n1_ : Aside0 (wc.heap[gb128]? = some (.cells #[.int .i64 x129000_1, .int .i64 x129001_1, .int .i64 x129002_1] 34 (0, 0))) := ⟨by rw [← hq_]; exact (by (with_reducible repeat (first | refine blk_drewN ?_ _ | refine blk_drew ?_ | refine blk_alloc ?_ _)); exact BK128.out)⟩; have n2_ : Aside0 (wc.heap[gb137]? = some (.cells #[.int .i64 x5_1, .int .i64 x138001_36, .int .i64 0] 34 (0, 0))) := ⟨by rw [← hq_]; exact (by (with_reducible repeat (first | refine blk_drewN ?_ _ | refine blk_drew ?_ | refine blk_alloc ?_ _)); exact BK137.out)⟩; have n3_ : Aside0 (Below w.heap.size w wc) := ⟨by rw [← hq_]; exact (by repeat (first | (with_reducible first | exact HB.out | apply bwA | apply bwN | apply bw1 | refine below_set ?_ GE128.out | refine below_set ?_ GE137.out) | exact HB.out))⟩; clear HO_4 BK128 BK137 HB hq_; have HO_4 := n0_; have BK128 := n1_; have BK137 := n2_; have HB := n3_; clear n0_ n1_ n2_ n3_; have hcr128_0 : wc.cell? ⟨gb128, 0, none⟩ = some (.int .i64 x129000_1) := (blk_cell BK128.out 0).trans rfl; have hfr128_0 := blk_frozen BK128.out 0; have hcr128_1 : wc.cell? ⟨gb128, 1, none⟩ = some (.int .i64 x129001_1) := (blk_cell BK128.out 1).trans rfl; have hfr128_1 := blk_frozen BK128.out 1; have hcr128_2 : wc.cell? ⟨gb128, 2, none⟩ = some (.int .i64 x129002_1) := (blk_cell BK128.out 2).trans rfl; have hfr128_2 := blk_frozen BK128.out 2; have hcr137_0 : wc.cell? ⟨gb137, 0, none⟩ = some (.int .i64 x5_1) := (blk_cell BK137.out 0).trans rfl; have hfr137_0 := blk_frozen BK137.out 0; have hcr137_1 : wc.cell? ⟨gb137, 1, none⟩ = some (.int .i64 x138001_36) := (blk_cell BK137.out 1).trans rfl; have hfr137_1 := blk_frozen BK137.out 1; have hcr137_2 : wc.cell? ⟨gb137, 2, none⟩ = some (.int .i64 0) := (blk_cell BK137.out 2).trans rfl; have hfr137_2 := blk_frozen BK137.out 2)); have hnb59 := NB137_128.out; have hnc59 := NB128_137.out; have hcz60_0 : wc.cell? ⟨gb137, 0, none⟩ = some (.int .i64 x5_1) := (blk_cell BK137.out 0).trans rfl; have hcz60_1 : wc.cell? ⟨gb137, 1, none⟩ = some (.int .i64 x138001_36) := (blk_cell BK137.out 1).trans rfl; have hcz60_2 : wc.cell? ⟨gb137, 2, none⟩ = some (.int .i64 0) := (blk_cell BK137.out 2).trans rfl; have hfz60_0 := blk_frozen BK137.out 0; have hfz60_1 := blk_frozen BK137.out 1; have hfz60_2 := blk_frozen BK137.out 2))
               have n0_ : Aside0 (Kd.R Kd.string 9 (wc.setCell ⟨gb137, 2, none⟩ (.int .i64 t144)) w.heap.size (fun _ => True) (.slice (some ad138) t129.length co41) t129) := ⟨by (with_reducible repeat (first | apply R_alloc | apply R_drewN | apply R_drew)); exact Kd.R_mono (Kd.R_far (p := ⟨gb137, 2, none⟩) (Kd.R_types HO_4.out BK137.out (by decide)) (fun _ hk => hk.2) (.int .i64 t144)) (fun _ hk => trivial)⟩
               have n1_ : Aside0 ((wc.setCell ⟨gb137, 2, none⟩ (.int .i64 t144)).heap[gb128]? = some (.cells #[.int .i64 x129000_1, .int .i64 x129001_1, .int .i64 x129002_1] 34 (0, 0))) := ⟨by (with_reducible repeat (first | refine blk_drewN ?_ _ | refine blk_drew ?_ | refine blk_alloc ?_ _)); refine blk_far ?_ NB128_137.out _; (with_reducible repeat (first | refine blk_drewN ?_ _ | refine blk_drew ?_ | refine blk_alloc ?_ _)); exact BK128.out⟩
               have n2_ : Aside0 ((wc.setCell ⟨gb137, 2, none⟩ (.int .i64 t144)).heap[gb137]? = some (.cells #[.int .i64 x5_1, .int .i64 x138001_36, .int .i64 t144] 34 (0, 0))) := ⟨by (with_reducible repeat (first | refine blk_drewN ?_ _ | refine blk_drew ?_ | refine blk_alloc ?_ _)); refine blk_put (cs := #[.int .i64 x5_1, .int .i64 x138001_36, .int .i64 0]) ?_ 2 _ rfl; (with_reducible repeat (first | refine blk_drewN ?_ _ | refine blk_drew ?_ | refine blk_alloc ?_ _)); exact BK137.out⟩
               have n3_ : Aside0 (Below w.heap.size w (wc.setCell ⟨gb137, 2, none⟩ (.int .i64 t144))) := ⟨by repeat (first | (with_reducible first | exact HB.out | apply bwA | apply bwN | apply bw1 | refine below_set ?_ GE128.out | refine below_set ?_ GE137.out) | exact HB.out)⟩
               (try clear HO_4)
               (try clear BK128)
               (try clear BK137)
               (try clear HB)
               generalize (wc.setCell ⟨gb137, 2, none⟩ (.int .i64 t144)) = w61 at n0_ n1_ n2_ n3_ ⊢
               have HO_4 := n0_
               have BK128 := n1_
               have BK137 := n2_
               have HB := n3_
               clear n0_ n1_ n2_ n3_
               have n0_ := Aside0.mk (R_drew HO_4.out)
               have n1_ := Aside0.mk (blk_drew BK128.out)
               have n2_ := Aside0.mk (blk_drew BK137.out)
               have n3_ := Aside0.mk (bw1 HB.out)
               clear HO_4
               clear BK128
               clear BK137
               clear HB
               have HO_4 := n0_
               have BK128 := n1_
               have BK137 := n2_
               have HB := n3_
               clear n0_ n1_ n2_ n3_
               refine start_ (n := 8) (S := fun w' => w'.cell? ⟨gb137, 0, none⟩ = some (.int .i64 x5_1) ∧ w'.cell? ⟨gb137, 1, none⟩ = some (.int .i64 x138001_36) ∧ w'.cell? ⟨gb137, 2, none⟩ = some (.int .i64 t144)) (ds := []) #[false, false, false, false, false, false, false, false] (by kernel_rfl) rfl rfl ⟨(blk_cell BK137.out 0).trans rfl, (blk_cell BK137.out 1).trans rfl, (blk_cell BK137.out 2).trans rfl⟩ (fun hHeld => ?_); refine with_tabW spec_l9Read.tab14 spec_l9Read.bits14 (fun HT_ HW_ => ?_)
               generalize w61.drew = w62 at HO_4 BK128 BK137 HB hHeld ⊢
               refine puY (i := 1) 74 #[false, true, false, false, false, false, false, false] HT_ ?_
               refine puY (i := 2) 75 #[false, true, true, false, false, false, false, false] HT_ ?_
               refine take_ (i := 0) (N := some 73) (v := ?_) (a' := ?_) (bq 3 8) rfl rfl (take_ofW HT_.out HW_.out (by kernel_rfl)) (fun _ _ _ h => h) (Or.inl ⟨by rfl, ?_⟩) hHeld ?_ ?_
               rotate_left
               ·rintro w' ⟨s0, s1, s2⟩
                go_simp
                with_reducible rfl
               rotate_left
               ·simp only [Act.put, stA, stZ, stS, i64_w, i32_w]
                rfl
               refine take_ (i := 3) (N := some 76) (v := ?_) (a' := ?_) (bq 4 8) rfl rfl (take_ofW HT_.out HW_.out (by kernel_rfl)) (fun _ _ _ h => h) (Or.inl ⟨by rfl, ?_⟩) hHeld ?_ ?_
               rotate_left
               ·rintro w' ⟨s0, s1, s2⟩
                go_simp
                with_reducible rfl
               rotate_left
               ·simp only [Act.put, stA, stZ, stS, i64_w, i32_w]
                rfl
               refine onY (i := 4) 77 (bq 5 8) HT_ (fun K hK => ?_)
               refine goes_ Tryd.func28 (by kernel_rfl) rfl #[.agg #[.int .i64 x5_1, .int .i64 x138001_36, .int .i64 t144]] (by rfl) rfl rfl (by (try simp only [map_toArray, map_cons, map_nil]); first | done | rfl | (simp only [length_drop, length_take]; rfl)) ?_
               with_reducible refine (spec_InsOk.calls kj50 x5_1 x138001_36 t144 t146 _ A58.out).mono ?_
               rintro e w63 ⟨rfl, hb⟩
               refine ⟨_, rfl, ?_⟩
               have n0_ := Aside0.mk (R_below (by (with_reducible repeat (first | apply R_alloc | apply R_drewN | apply R_drew)); exact HO_4.out) hb)
               have n1_ := Aside0.mk (blk_below (g := gb128) (o := .cells #[.int .i64 x129000_1, .int .i64 x129001_1, .int .i64 x129002_1] 34 (0, 0)) (by (with_reducible repeat (first | refine blk_drewN ?_ _ | refine blk_drew ?_ | refine blk_alloc ?_ _)); exact BK128.out) hb)
               have n2_ := Aside0.mk (blk_below (g := gb137) (o := .cells #[.int .i64 x5_1, .int .i64 x138001_36, .int .i64 t144] 34 (0, 0)) (by (with_reducible repeat (first | refine blk_drewN ?_ _ | refine blk_drew ?_ | refine blk_alloc ?_ _)); exact BK137.out) hb)
               have n3_ := Aside0.mk (below_step (by repeat (first | (with_reducible first | exact HB.out | apply bwA | apply bwN | apply bw1 | refine below_set ?_ GE128.out | refine below_set ?_ GE137.out) | exact HB.out)) hb)
               clear HO_4
               clear BK128
               clear BK137
               clear HB
               have HO_4 := n0_
               have BK128 := n1_
               have BK137 := n2_
               have HB := n3_
               clear n0_ n1_ n2_ n3_
               (try clear hb)
               (try clear hb2)
               (try clear hk)
               (try clear hi)
               refine hK.out _ _ ⟨(blk_cell BK137.out 0).trans rfl, (blk_cell BK137.out 1).trans rfl, (blk_cell BK137.out 2).trans rfl⟩ (fun hHeld => ?_)
               clear hK K
               refine norm_ (a' := ?_) ?_ ?_
               rotate_left
               ·show Act.put _ (some 77) _ = _
                simp only [Act.put, stA, stZ, stS, i64_w, i32_w]
                rfl
               refine puY (i := 5) 78 (bq 6 8) HT_ ?_
               refine one_ (i := 6) (N := none) #[true, true, true, true, true, true, true, false] rfl rfl (one_of HT_.out (by kernel_rfl)) (by decide) (fun K hK => ?_)
               have hs64 : w63.cell? ⟨gb128, 0, none⟩ = some (.int .i64 x129000_1) := (blk_cell BK128.out 0).trans rfl
               have hfs64 := blk_frozen BK128.out 0
               have hns64_1 := NB137_128.out
               have hms64_1 := NB128_137.out
               have hs65 : w63.cell? ⟨gb128, 1, none⟩ = some (.int .i64 x129001_1) := (blk_cell BK128.out 1).trans rfl
               have hfs65 := blk_frozen BK128.out 1
               have hns65_1 := NB137_128.out
               have hms65_1 := NB128_137.out
               have hs66 : w63.cell? ⟨gb128, 2, none⟩ = some (.int .i64 x129002_1) := (blk_cell BK128.out 2).trans rfl
               have hfs66 := blk_frozen BK128.out 2
               have hns66_1 := NB137_128.out
               have hms66_1 := NB128_137.out
               refine skip_ (w1 := ?_) (by rfl) rfl ?_ ?_
               rotate_left
               ·go_simp
                rfl
               refine hK.out _ _ ⟨((cell_far (p := ⟨gb128, _, none⟩) NB137_128.out _).trans (((cell_far (p := ⟨gb128, _, none⟩) NB137_128.out _).trans (((cell_far (p := ⟨gb128, _, none⟩) NB137_128.out _).trans (hHeld.1)))))), ((cell_far (p := ⟨gb128, _, none⟩) NB137_128.out _).trans (((cell_far (p := ⟨gb128, _, none⟩) NB137_128.out _).trans (((cell_far (p := ⟨gb128, _, none⟩) NB137_128.out _).trans (hHeld.2.1)))))), ((cell_far (p := ⟨gb128, _, none⟩) NB137_128.out _).trans (((cell_far (p := ⟨gb128, _, none⟩) NB137_128.out _).trans (((cell_far (p := ⟨gb128, _, none⟩) NB137_128.out _).trans (hHeld.2.2))))))⟩ (fun hHeld => ?_)
               clear hK K
               refine puY (i := 7) 3 (bq 8 8) HT_ ?_
               refine done_ (done_of HT_.out (by kernel_rfl)) ?_
               try go_wp2
               refine bodyPost_ret (results_ct rfl _ _ gb128 34 #[.int .i64 x5_1, .int .i64 x138001_36, .int .i64 t144] (0, 0) _ rfl (by (with_reducible repeat (first | refine blk_drewN ?_ _ | refine blk_drew ?_ | refine blk_alloc ?_ _)); refine blk_put (cs := #[.int .i64 x5_1, .int .i64 x138001_36, .int .i64 x129002_1]) ?_ 2 _ rfl; (with_reducible repeat (first | refine blk_drewN ?_ _ | refine blk_drew ?_ | refine blk_alloc ?_ _)); refine blk_put (cs := #[.int .i64 x5_1, .int .i64 x129001_1, .int .i64 x129002_1]) ?_ 1 _ rfl; (with_reducible repeat (first | refine blk_drewN ?_ _ | refine blk_drew ?_ | refine blk_alloc ?_ _)); refine blk_put (cs := #[.int .i64 x129000_1, .int .i64 x129001_1, .int .i64 x129002_1]) ?_ 0 _ rfl; (with_reducible repeat (first | refine blk_drewN ?_ _ | refine blk_drew ?_ | refine blk_alloc ?_ _)); exact BK128.out) Tryd.underlying34 rfl (by kernel_rfl)) rfl ?_
               exact ⟨by first | rfl | (simp [errW_none, errW_some] <;> rfl) | (simp [*, errW_none, errW_some] <;> rfl), by repeat (first | (with_reducible first | exact HB.out | apply bwA | apply bwN | apply bw1 | refine below_set ?_ GE128.out | refine below_set ?_ GE137.out) | exact HB.out)⟩
              ·replace c57 := Bool.eq_false_iff.mpr c57
               subst c57
               have H1 : (some (x5_1, x138001_36, t144, false)) = some (r1, r2, r3, r4) := by rw [if_neg (show ¬ (false = true) by decide)] at H; exact H
               clear H
               have H := H1
               clear H1
               simp only [Option.some.injEq, Prod.mk.injEq] at H
               obtain ⟨rfl, rfl, rfl, rfl⟩ := H
               have p143 : 0 ≤ (2 : Int) := (by omega)
               have q143 : 2 < (t129.length : Int) := of_decide_eq_true (by first | (with_reducible assumption) | assumption)
               obtain ⟨ad143, e143, hx143_0⟩ := Kd.at_string (R_reads' HO_4.out).2.2 2 p143 q143
               obtain rfl : ad138 = ad143 := (by injection e143)
               (try simp only [show (2 : Int).toNat = 2 from rfl, Nat.reduceMul, Nat.reduceEqDiff, Go.Addr.add, ↓reduceIte] at hx143_0)
               have qi143 : (2 < t129.length) = True := eq_true (by omega)
               (try rw [show ((2 : Int)).toNat = 2 from rfl] at hx143_0)
               replace p143 := eq_true p143
               replace q143 := eq_true q143
               try go_wp2_with (first | ((with_reducible refine gate_callee (f := 27) rfl ?_); refine goesL_ (some 69) rfl rfl Tryd.func27 (by kernel_rfl) rfl #[.string (rdOf ByteArray.empty t129 2)] rfl (by (try simp only [map_toArray, map_cons, map_nil]); first | done | rfl | (simp only [length_drop, length_take]; rfl)) ?_; (with_reducible refine (spec_l1Read.calls kj50 (rdOf ByteArray.empty t129 2) t144 false _ A56.out).mono ?_); rintro e w' ⟨rfl, ⟨nd, rfl⟩⟩; refine ⟨_, rfl, ?_⟩; (try (rw [drewN_self wc]; generalize hq_ : World.drewN wc _ = wc; have n0_ : Aside0 (Kd.R Kd.string 9 wc w.heap.size (fun _ => True) (.slice (some ad138) t129.length co41) t129) := ⟨by rw [← hq_]; exact (by (with_reducible repeat (first | apply R_alloc | apply R_drewN | apply R_drew)); exact HO_4.out)⟩; have n1_ : Aside0 (wc.heap[gb128]? = some (.cells #[.int .i64 x129000_1, .int .i64 x129001_1, .int .i64 x129002_1] 34 (0, 0))) := ⟨by rw [← hq_]; exact (by (with_reducible repeat (first | refine blk_drewN ?_ _ | refine blk_drew ?_ | refine blk_alloc ?_ _)); exact BK128.out)⟩; have n2_ : Aside0 (wc.heap[gb137]? = some (.cells #[.int .i64 x5_1, .int .i64 x138001_36, .int .i64 0] 34 (0, 0))) := ⟨by rw [← hq_]; exact (by (with_reducible repeat (first | refine blk_drewN ?_ _ | refine blk_drew ?_ | refine blk_alloc ?_ _)); exact BK137.out)⟩; have n3_ : Aside0 (Below w.heap.size w wc) := ⟨by rw [← hq_]; exact (by repeat (first | (with_reducible first | exact HB.out | apply bwA | apply bwN | apply bw1 | refine below_set ?_ GE128.out | refine below_set ?_ GE137.out) | exact HB.out))⟩; clear HO_4 BK128 BK137 HB hq_; have HO_4 := n0_; have BK128 := n1_; have BK137 := n2_; have HB := n3_; clear n0_ n1_ n2_ n3_; have hcr128_0 : wc.cell? ⟨gb128, 0, none⟩ = some (.int .i64 x129000_1) := (blk_cell BK128.out 0).trans rfl; have hfr128_0 := blk_frozen BK128.out 0; have hcr128_1 : wc.cell? ⟨gb128, 1, none⟩ = some (.int .i64 x129001_1) := (blk_cell BK128.out 1).trans rfl; have hfr128_1 := blk_frozen BK128.out 1; have hcr128_2 : wc.cell? ⟨gb128, 2, none⟩ = some (.int .i64 x129002_1) := (blk_cell BK128.out 2).trans rfl; have hfr128_2 := blk_frozen BK128.out 2; have hcr137_0 : wc.cell? ⟨gb137, 0, none⟩ = some (.int .i64 x5_1) := (blk_cell BK137.out 0).trans rfl; have hfr137_0 := blk_frozen BK137.out 0; have hcr137_1 : wc.cell? ⟨gb137, 1, none⟩ = some (.int .i64 x138001_36) := (blk_cell BK137.out 1).trans rfl; have hfr137_1 := blk_frozen BK137.out 1; have hcr137_2 : wc.cell? ⟨gb137, 2, none⟩ = some (.int .i64 0) := (blk_cell BK137.out 2).trans rfl; have hfr137_2 := blk_frozen BK137.out 2)); have hnb67 := NB137_128.out; have hnc67 := NB128_137.out; have hcz68_0 : wc.cell? ⟨gb137, 0, none⟩ = some (.int .i64 x5_1) := (blk_cell BK137.out 0).trans rfl; have hcz68_1 : wc.cell? ⟨gb137, 1, none⟩ = some (.int .i64 x138001_36) := (blk_cell BK137.out 1).trans rfl; have hcz68_2 : wc.cell? ⟨gb137, 2, none⟩ = some (.int .i64 0) := (blk_cell BK137.out 2).trans rfl; have hfz68_0 := blk_frozen BK137.out 0; have hfz68_1 := blk_frozen BK137.out 1; have hfz68_2 := blk_frozen BK137.out 2))
               have n0_ : Aside0 (Kd.R Kd.string 9 (wc.setCell ⟨gb137, 2, none⟩ (.int .i64 t144)) w.heap.size (fun _ => True) (.slice (some ad138) t129.length co41) t129) := ⟨by (with_reducible repeat (first | apply R_alloc | apply R_drewN | apply R_drew)); exact Kd.R_mono (Kd.R_far (p := ⟨gb137, 2, none⟩) (Kd.R_types HO_4.out BK137.out (by decide)) (fun _ hk => hk.2) (.int .i64 t144)) (fun _ hk => trivial)⟩
               have n1_ : Aside0 ((wc.setCell ⟨gb137, 2, none⟩ (.int .i64 t144)).heap[gb128]? = some (.cells #[.int .i64 x129000_1, .int .i64 x129001_1, .int .i64 x129002_1] 34 (0, 0))) := ⟨by (with_reducible repeat (first | refine blk_drewN ?_ _ | refine blk_drew ?_ | refine blk_alloc ?_ _)); refine blk_far ?_ NB128_137.out _; (with_reducible repeat (first | refine blk_drewN ?_ _ | refine blk_drew ?_ | refine blk_alloc ?_ _)); exact BK128.out⟩
               have n2_ : Aside0 ((wc.setCell ⟨gb137, 2, none⟩ (.int .i64 t144)).heap[gb137]? = some (.cells #[.int .i64 x5_1, .int .i64 x138001_36, .int .i64 t144] 34 (0, 0))) := ⟨by (with_reducible repeat (first | refine blk_drewN ?_ _ | refine blk_drew ?_ | refine blk_alloc ?_ _)); refine blk_put (cs := #[.int .i64 x5_1, .int .i64 x138001_36, .int .i64 0]) ?_ 2 _ rfl; (with_reducible repeat (first | refine blk_drewN ?_ _ | refine blk_drew ?_ | refine blk_alloc ?_ _)); exact BK137.out⟩
               have n3_ : Aside0 (Below w.heap.size w (wc.setCell ⟨gb137, 2, none⟩ (.int .i64 t144))) := ⟨by repeat (first | (with_reducible first | exact HB.out | apply bwA | apply bwN | apply bw1 | refine below_set ?_ GE128.out | refine below_set ?_ GE137.out) | exact HB.out)⟩
               (try clear HO_4)
               (try clear BK128)
               (try clear BK137)
               (try clear HB)
               generalize (wc.setCell ⟨gb137, 2, none⟩ (.int .i64 t144)) = w69 at n0_ n1_ n2_ n3_ ⊢
               have HO_4 := n0_
               have BK128 := n1_
               have BK137 := n2_
               have HB := n3_
               clear n0_ n1_ n2_ n3_
               have n0_ := Aside0.mk (R_drew HO_4.out)
               have n1_ := Aside0.mk (blk_drew BK128.out)
               have n2_ := Aside0.mk (blk_drew BK137.out)
               have n3_ := Aside0.mk (bw1 HB.out)
               clear HO_4
               clear BK128
               clear BK137
               clear HB
               have HO_4 := n0_
               have BK128 := n1_
               have BK137 := n2_
               have HB := n3_
               clear n0_ n1_ n2_ n3_
               refine start_ (n := 8) (S := fun w' => w'.cell? ⟨gb137, 0, none⟩ = some (.int .i64 x5_1) ∧ w'.cell? ⟨gb137, 1, none⟩ = some (.int .i64 x138001_36) ∧ w'.cell? ⟨gb137, 2, none⟩ = some (.int .i64 t144)) (ds := []) #[false, false, false, false, false, false, false, false] (by kernel_rfl) rfl rfl ⟨(blk_cell BK137.out 0).trans rfl, (blk_cell BK137.out 1).trans rfl, (blk_cell BK137.out 2).trans rfl⟩ (fun hHeld => ?_); refine with_tabW spec_l9Read.tab14 spec_l9Read.bits14 (fun HT_ HW_ => ?_)
               generalize w69.drew = w70 at HO_4 BK128 BK137 HB hHeld ⊢
               refine puY (i := 1) 74 #[false, true, false, false, false, false, false, false] HT_ ?_
               refine puY (i := 2) 75 #[false, true, true, false, false, false, false, false] HT_ ?_
               refine puN (i := 3) 76 #[false, true, true, true, false, false, false, false] HT_ ?_
               refine puN (i := 4) 77 #[false, true, true, true, true, false, false, false] HT_ ?_
               refine puY (i := 5) 78 #[false, true, true, true, true, true, false, false] HT_ ?_
               refine take_ (i := 0) (N := some 73) (v := ?_) (a' := ?_) (bq 6 8) rfl rfl (take_ofW HT_.out HW_.out (by kernel_rfl)) (fun _ _ _ h => h) (Or.inl ⟨by rfl, ?_⟩) hHeld ?_ ?_
               rotate_left
               ·rintro w' ⟨s0, s1, s2⟩
                go_simp
                with_reducible rfl
               rotate_left
               ·simp only [Act.put, stA, stZ, stS, i64_w, i32_w]
                rfl
               refine one_ (i := 6) (N := none) #[true, true, true, true, true, true, true, false] rfl rfl (one_of HT_.out (by kernel_rfl)) (by decide) (fun K hK => ?_)
               have hs71 : w70.cell? ⟨gb128, 0, none⟩ = some (.int .i64 x129000_1) := (blk_cell BK128.out 0).trans rfl
               have hfs71 := blk_frozen BK128.out 0
               have hns71_1 := NB137_128.out
               have hms71_1 := NB128_137.out
               have hs72 : w70.cell? ⟨gb128, 1, none⟩ = some (.int .i64 x129001_1) := (blk_cell BK128.out 1).trans rfl
               have hfs72 := blk_frozen BK128.out 1
               have hns72_1 := NB137_128.out
               have hms72_1 := NB128_137.out
               have hs73 : w70.cell? ⟨gb128, 2, none⟩ = some (.int .i64 x129002_1) := (blk_cell BK128.out 2).trans rfl
               have hfs73 := blk_frozen BK128.out 2
               have hns73_1 := NB137_128.out
               have hms73_1 := NB128_137.out
               refine skip_ (w1 := ?_) (by rfl) rfl ?_ ?_
               rotate_left
               ·go_simp
                rfl
               refine hK.out _ _ ⟨((cell_far (p := ⟨gb128, _, none⟩) NB137_128.out _).trans (((cell_far (p := ⟨gb128, _, none⟩) NB137_128.out _).trans (((cell_far (p := ⟨gb128, _, none⟩) NB137_128.out _).trans (hHeld.1)))))), ((cell_far (p := ⟨gb128, _, none⟩) NB137_128.out _).trans (((cell_far (p := ⟨gb128, _, none⟩) NB137_128.out _).trans (((cell_far (p := ⟨gb128, _, none⟩) NB137_128.out _).trans (hHeld.2.1)))))), ((cell_far (p := ⟨gb128, _, none⟩) NB137_128.out _).trans (((cell_far (p := ⟨gb128, _, none⟩) NB137_128.out _).trans (((cell_far (p := ⟨gb128, _, none⟩) NB137_128.out _).trans (hHeld.2.2))))))⟩ (fun hHeld => ?_)
               clear hK K
               refine puY (i := 7) 3 (bq 8 8) HT_ ?_
               refine done_ (done_of HT_.out (by kernel_rfl)) ?_
               try go_wp2
               refine bodyPost_ret (results_ct rfl _ _ gb128 34 #[.int .i64 x5_1, .int .i64 x138001_36, .int .i64 t144] (0, 0) _ rfl (by (with_reducible repeat (first | refine blk_drewN ?_ _ | refine blk_drew ?_ | refine blk_alloc ?_ _)); refine blk_put (cs := #[.int .i64 x5_1, .int .i64 x138001_36, .int .i64 x129002_1]) ?_ 2 _ rfl; (with_reducible repeat (first | refine blk_drewN ?_ _ | refine blk_drew ?_ | refine blk_alloc ?_ _)); refine blk_put (cs := #[.int .i64 x5_1, .int .i64 x129001_1, .int .i64 x129002_1]) ?_ 1 _ rfl; (with_reducible repeat (first | refine blk_drewN ?_ _ | refine blk_drew ?_ | refine blk_alloc ?_ _)); refine blk_put (cs := #[.int .i64 x129000_1, .int .i64 x129001_1, .int .i64 x129002_1]) ?_ 0 _ rfl; (with_reducible repeat (first | refine blk_drewN ?_ _ | refine blk_drew ?_ | refine blk_alloc ?_ _)); exact BK128.out) Tryd.underlying34 rfl (by kernel_rfl)) rfl ?_
               exact ⟨by first | rfl | (simp [errW_none, errW_some] <;> rfl) | (simp [*, errW_none, errW_some] <;> rfl), by repeat (first | (with_reducible first | exact HB.out | apply bwA | apply bwN | apply bw1 | refine below_set ?_ GE128.out | refine below_set ?_ GE137.out) | exact HB.out)⟩
             ·rw [if_neg c55] at H
              exact absurd H (by simp)
            ·replace c54 := Bool.eq_false_iff.mpr c54
             subst c54
             have H1 : (if x7_36 = true then ((spec_InsOk.f kj50 x5_1 x138001_36 0).bind fun t147 => (some (x5_1, x138001_36, 0, t147))) else (some (x5_1, x138001_36, 0, false))) = some (r1, r2, r3, r4) := by rw [if_neg (show ¬ (false = true) by decide)] at H; exact H
             clear H
             have H := H1
             clear H1
             by_cases c74 : x7_36 = true
             ·subst c74
              have H1 : ((spec_InsOk.f kj50 x5_1 x138001_36 0).bind fun t147 => (some (x5_1, x138001_36, 0, t147))) = some (r1, r2, r3, r4) := by rw [if_pos rfl] at H; exact H
              clear H
              have H := H1
              clear H1
              replace H := bind_eq_some_iff.mp H
              obtain ⟨t147, A750, H⟩ := H
              replace H : (some (x5_1, x138001_36, 0, t147)) = some (r1, r2, r3, r4) := H
              have A75 := Aside0.mk A750
              clear A750
              simp only [Option.some.injEq, Prod.mk.injEq] at H
              obtain ⟨rfl, rfl, rfl, rfl⟩ := H
              try go_wp2
              have n0_ := Aside0.mk (R_drew HO_4.out)
              have n1_ := Aside0.mk (blk_drew BK128.out)
              have n2_ := Aside0.mk (blk_drew BK137.out)
              have n3_ := Aside0.mk (bw1 HB.out)
              clear HO_4
              clear BK128
              clear BK137
              clear HB
              have HO_4 := n0_
              have BK128 := n1_
              have BK137 := n2_
              have HB := n3_
              clear n0_ n1_ n2_ n3_
              refine start_ (n := 8) (S := fun w' => w'.cell? ⟨gb137, 0, none⟩ = some (.int .i64 x5_1) ∧ w'.cell? ⟨gb137, 1, none⟩ = some (.int .i64 x138001_36) ∧ w'.cell? ⟨gb137, 2, none⟩ = some (.int .i64 0)) (ds := []) #[false, false, false, false, false, false, false, false] (by kernel_rfl) rfl rfl ⟨(blk_cell BK137.out 0).trans rfl, (blk_cell BK137.out 1).trans rfl, (blk_cell BK137.out 2).trans rfl⟩ (fun hHeld => ?_); refine with_tabW spec_l9Read.tab14 spec_l9Read.bits14 (fun HT_ HW_ => ?_)
              generalize wc.drew = w76 at HO_4 BK128 BK137 HB hHeld ⊢
              refine puY (i := 1) 74 #[false, true, false, false, false, false, false, false] HT_ ?_
              refine puY (i := 2) 75 #[false, true, true, false, false, false, false, false] HT_ ?_
              refine take_ (i := 0) (N := some 73) (v := ?_) (a' := ?_) (bq 3 8) rfl rfl (take_ofW HT_.out HW_.out (by kernel_rfl)) (fun _ _ _ h => h) (Or.inl ⟨by rfl, ?_⟩) hHeld ?_ ?_
              rotate_left
              ·rintro w' ⟨s0, s1, s2⟩
               go_simp
               with_reducible rfl
              rotate_left
              ·simp only [Act.put, stA, stZ, stS, i64_w, i32_w]
               rfl
              refine take_ (i := 3) (N := some 76) (v := ?_) (a' := ?_) (bq 4 8) rfl rfl (take_ofW HT_.out HW_.out (by kernel_rfl)) (fun _ _ _ h => h) (Or.inl ⟨by rfl, ?_⟩) hHeld ?_ ?_
              rotate_left
              ·rintro w' ⟨s0, s1, s2⟩
               go_simp
               with_reducible rfl
              rotate_left
              ·simp only [Act.put, stA, stZ, stS, i64_w, i32_w]
               rfl
              refine onY (i := 4) 77 (bq 5 8) HT_ (fun K hK => ?_)
              refine goes_ Tryd.func28 (by kernel_rfl) rfl #[.agg #[.int .i64 x5_1, .int .i64 x138001_36, .int .i64 0]] (by rfl) rfl rfl (by (try simp only [map_toArray, map_cons, map_nil]); first | done | rfl | (simp only [length_drop, length_take]; rfl)) ?_
              with_reducible refine (spec_InsOk.calls kj50 x5_1 x138001_36 0 t147 _ A75.out).mono ?_
              rintro e w77 ⟨rfl, hb⟩
              refine ⟨_, rfl, ?_⟩
              have n0_ := Aside0.mk (R_below (by (with_reducible repeat (first | apply R_alloc | apply R_drewN | apply R_drew)); exact HO_4.out) hb)
              have n1_ := Aside0.mk (blk_below (g := gb128) (o := .cells #[.int .i64 x129000_1, .int .i64 x129001_1, .int .i64 x129002_1] 34 (0, 0)) (by (with_reducible repeat (first | refine blk_drewN ?_ _ | refine blk_drew ?_ | refine blk_alloc ?_ _)); exact BK128.out) hb)
              have n2_ := Aside0.mk (blk_below (g := gb137) (o := .cells #[.int .i64 x5_1, .int .i64 x138001_36, .int .i64 0] 34 (0, 0)) (by (with_reducible repeat (first | refine blk_drewN ?_ _ | refine blk_drew ?_ | refine blk_alloc ?_ _)); exact BK137.out) hb)
              have n3_ := Aside0.mk (below_step (by repeat (first | (with_reducible first | exact HB.out | apply bwA | apply bwN | apply bw1 | refine below_set ?_ GE128.out | refine below_set ?_ GE137.out) | exact HB.out)) hb)
              clear HO_4
              clear BK128
              clear BK137
              clear HB
              have HO_4 := n0_
              have BK128 := n1_
              have BK137 := n2_
              have HB := n3_
              clear n0_ n1_ n2_ n3_
              (try clear hb)
              (try clear hb2)
              (try clear hk)
              (try clear hi)
              refine hK.out _ _ ⟨(blk_cell BK137.out 0).trans rfl, (blk_cell BK137.out 1).trans rfl, (blk_cell BK137.out 2).trans rfl⟩ (fun hHeld => ?_)
              clear hK K
              refine norm_ (a' := ?_) ?_ ?_
              rotate_left
              ·show Act.put _ (some 77) _ = _
               simp only [Act.put, stA, stZ, stS, i64_w, i32_w]
               rfl
              refine puY (i := 5) 78 (bq 6 8) HT_ ?_
              refine one_ (i := 6) (N := none) #[true, true, true, true, true, true, true, false] rfl rfl (one_of HT_.out (by kernel_rfl)) (by decide) (fun K hK => ?_)
              have hs78 : w77.cell? ⟨gb128, 0, none⟩ = some (.int .i64 x129000_1) := (blk_cell BK128.out 0).trans rfl
              have hfs78 := blk_frozen BK128.out 0
              have hns78_1 := NB137_128.out
              have hms78_1 := NB128_137.out
              have hs79 : w77.cell? ⟨gb128, 1, none⟩ = some (.int .i64 x129001_1) := (blk_cell BK128.out 1).trans rfl
              have hfs79 := blk_frozen BK128.out 1
              have hns79_1 := NB137_128.out
              have hms79_1 := NB128_137.out
              have hs80 : w77.cell? ⟨gb128, 2, none⟩ = some (.int .i64 x129002_1) := (blk_cell BK128.out 2).trans rfl
              have hfs80 := blk_frozen BK128.out 2
              have hns80_1 := NB137_128.out
              have hms80_1 := NB128_137.out
              refine skip_ (w1 := ?_) (by rfl) rfl ?_ ?_
              rotate_left
              ·go_simp
               rfl
              refine hK.out _ _ ⟨((cell_far (p := ⟨gb128, _, none⟩) NB137_128.out _).trans (((cell_far (p := ⟨gb128, _, none⟩) NB137_128.out _).trans (((cell_far (p := ⟨gb128, _, none⟩) NB137_128.out _).trans (hHeld.1)))))), ((cell_far (p := ⟨gb128, _, none⟩) NB137_128.out _).trans (((cell_far (p := ⟨gb128, _, none⟩) NB137_128.out _).trans (((cell_far (p := ⟨gb128, _, none⟩) NB137_128.out _).trans (hHeld.2.1)))))), ((cell_far (p := ⟨gb128, _, none⟩) NB137_128.out _).trans (((cell_far (p := ⟨gb128, _, none⟩) NB137_128.out _).trans (((cell_far (p := ⟨gb128, _, none⟩) NB137_128.out _).trans (hHeld.2.2))))))⟩ (fun hHeld => ?_)
              clear hK K
              refine puY (i := 7) 3 (bq 8 8) HT_ ?_
              refine done_ (done_of HT_.out (by kernel_rfl)) ?_
              try go_wp2
              refine bodyPost_ret (results_ct rfl _ _ gb128 34 #[.int .i64 x5_1, .int .i64 x138001_36, .int .i64 0] (0, 0) _ rfl (by (with_reducible repeat (first | refine blk_drewN ?_ _ | refine blk_drew ?_ | refine blk_alloc ?_ _)); refine blk_put (cs := #[.int .i64 x5_1, .int .i64 x138001_36, .int .i64 x129002_1]) ?_ 2 _ rfl; (with_reducible repeat (first | refine blk_drewN ?_ _ | refine blk_drew ?_ | refine blk_alloc ?_ _)); refine blk_put (cs := #[.int .i64 x5_1, .int .i64 x129001_1, .int .i64 x129002_1]) ?_ 1 _ rfl; (with_reducible repeat (first | refine blk_drewN ?_ _ | refine blk_drew ?_ | refine blk_alloc ?_ _)); refine blk_put (cs := #[.int .i64 x129000_1, .int .i64 x129001_1, .int .i64 x129002_1]) ?_ 0 _ rfl; (with_reducible repeat (first | refine blk_drewN ?_ _ | refine blk_drew ?_ | refine blk_alloc ?_ _)); exact BK128.out) Tryd.underlying34 rfl (by kernel_rfl)) rfl ?_
              exact ⟨by first | rfl | (simp [errW_none, errW_some] <;> rfl) | (simp [*, errW_none, errW_some] <;> rfl), by repeat (first | (with_reducible first | exact HB.out | apply bwA | apply bwN | apply bw1 | refine below_set ?_ GE128.out | refine below_set ?_ GE137.out) | exact HB.out)⟩
             ·replace c74 := Bool.eq_false_iff.mpr c74
              subst c74
              have H1 : (some (x5_1, x138001_36, 0, false)) = some (r1, r2, r3, r4) := by rw [if_neg (show ¬ (false = true) by decide)] at H; exact H
              clear H
              have H := H1
              clear H1
              simp only [Option.some.injEq, Prod.mk.injEq] at H
              obtain ⟨rfl, rfl, rfl, rfl⟩ := H
              try go_wp2
              have n0_ := Aside0.mk (R_drew HO_4.out)
              have n1_ := Aside0.mk (blk_drew BK128.out)
              have n2_ := Aside0.mk (blk_drew BK137.out)
              have n3_ := Aside0.mk (bw1 HB.out)
              clear HO_4
              clear BK128
              clear BK137
              clear HB
              have HO_4 := n0_
              have BK128 := n1_
              have BK137 := n2_
              have HB := n3_
              clear n0_ n1_ n2_ n3_
              refine start_ (n := 8) (S := fun w' => w'.cell? ⟨gb137, 0, none⟩ = some (.int .i64 x5_1) ∧ w'.cell? ⟨gb137, 1, none⟩ = some (.int .i64 x138001_36) ∧ w'.cell? ⟨gb137, 2, none⟩ = some (.int .i64 0)) (ds := []) #[false, false, false, false, false, false, false, false] (by kernel_rfl) rfl rfl ⟨(blk_cell BK137.out 0).trans rfl, (blk_cell BK137.out 1).trans rfl, (blk_cell BK137.out 2).trans rfl⟩ (fun hHeld => ?_); refine with_tabW spec_l9Read.tab14 spec_l9Read.bits14 (fun HT_ HW_ => ?_)
              generalize wc.drew = w81 at HO_4 BK128 BK137 HB hHeld ⊢
              refine puY (i := 1) 74 #[false, true, false, false, false, false, false, false] HT_ ?_
              refine puY (i := 2) 75 #[false, true, true, false, false, false, false, false] HT_ ?_
              refine puN (i := 3) 76 #[false, true, true, true, false, false, false, false] HT_ ?_
              refine puN (i := 4) 77 #[false, true, true, true, true, false, false, false] HT_ ?_
              refine puY (i := 5) 78 #[false, true, true, true, true, true, false, false] HT_ ?_
              refine take_ (i := 0) (N := some 73) (v := ?_) (a' := ?_) (bq 6 8) rfl rfl (take_ofW HT_.out HW_.out (by kernel_rfl)) (fun _ _ _ h => h) (Or.inl ⟨by rfl, ?_⟩) hHeld ?_ ?_
              rotate_left
              ·rintro w' ⟨s0, s1, s2⟩
               go_simp
               with_reducible rfl
              rotate_left
              ·simp only [Act.put, stA, stZ, stS, i64_w, i32_w]
               rfl
              refine one_ (i := 6) (N := none) #[true, true, true, true, true, true, true, false] rfl rfl (one_of HT_.out (by kernel_rfl)) (by decide) (fun K hK => ?_)
              have hs82 : w81.cell? ⟨gb128, 0, none⟩ = some (.int .i64 x129000_1) := (blk_cell BK128.out 0).trans rfl
              have hfs82 := blk_frozen BK128.out 0
              have hns82_1 := NB137_128.out
              have hms82_1 := NB128_137.out
              have hs83 : w81.cell? ⟨gb128, 1, none⟩ = some (.int .i64 x129001_1) := (blk_cell BK128.out 1).trans rfl
              have hfs83 := blk_frozen BK128.out 1
              have hns83_1 := NB137_128.out
              have hms83_1 := NB128_137.out
              have hs84 : w81.cell? ⟨gb128, 2, none⟩ = some (.int .i64 x129002_1) := (blk_cell BK128.out 2).trans rfl
              have hfs84 := blk_frozen BK128.out 2
              have hns84_1 := NB137_128.out
              have hms84_1 := NB128_137.out
              refine skip_ (w1 := ?_) (by rfl) rfl ?_ ?_
              rotate_left
              ·go_simp
               rfl
              refine hK.out _ _ ⟨((cell_far (p := ⟨gb128, _, none⟩) NB137_128.out _).trans (((cell_far (p := ⟨gb128, _, none⟩) NB137_128.out _).trans (((cell_far (p := ⟨gb128, _, none⟩) NB137_128.out _).trans (hHeld.1)))))), ((cell_far (p := ⟨gb128, _, none⟩) NB137_128.out _).trans (((cell_far (p := ⟨gb128, _, none⟩) NB137_128.out _).trans (((cell_far (p := ⟨gb128, _, none⟩) NB137_128.out _).trans (hHeld.2.1)))))), ((cell_far (p := ⟨gb128, _, none⟩) NB137_128.out _).trans (((cell_far (p := ⟨gb128, _, none⟩) NB137_128.out _).trans (((cell_far (p := ⟨gb128, _, none⟩) NB137_128.out _).trans (hHeld.2.2))))))⟩ (fun hHeld => ?_)
              clear hK K
              refine puY (i := 7) 3 (bq 8 8) HT_ ?_
              refine done_ (done_of HT_.out (by kernel_rfl)) ?_
              try go_wp2
              refine bodyPost_ret (results_ct rfl _ _ gb128 34 #[.int .i64 x5_1, .int .i64 x138001_36, .int .i64 0] (0, 0) _ rfl (by (with_reducible repeat (first | refine blk_drewN ?_ _ | refine blk_drew ?_ | refine blk_alloc ?_ _)); refine blk_put (cs := #[.int .i64 x5_1, .int .i64 x138001_36, .int .i64 x129002_1]) ?_ 2 _ rfl; (with_reducible repeat (first | refine blk_drewN ?_ _ | refine blk_drew ?_ | refine blk_alloc ?_ _)); refine blk_put (cs := #[.int .i64 x5_1, .int .i64 x129001_1, .int .i64 x129002_1]) ?_ 1 _ rfl; (with_reducible repeat (first | refine blk_drewN ?_ _ | refine blk_drew ?_ | refine blk_alloc ?_ _)); refine blk_put (cs := #[.int .i64 x129000_1, .int .i64 x129001_1, .int .i64 x129002_1]) ?_ 0 _ rfl; (with_reducible repeat (first | refine blk_drewN ?_ _ | refine blk_drew ?_ | refine blk_alloc ?_ _)); exact BK128.out) Tryd.underlying34 rfl (by kernel_rfl)) rfl ?_
              exact ⟨by first | rfl | (simp [errW_none, errW_some] <;> rfl) | (simp [*, errW_none, errW_some] <;> rfl), by repeat (first | (with_reducible first | exact HB.out | apply bwA | apply bwN | apply bw1 | refine below_set ?_ GE128.out | refine below_set ?_ GE137.out) | exact HB.out)⟩
       ·rw [if_neg c36] at H
        exact absurd H (by simp)
   ·rw [if_neg c5] at H
    have c5b0 : decide (x5_1 ≤ 10) = false := decide_eq_false c5
    clear c5
    simp only [Option.some.injEq, Prod.mk.injEq] at H
    obtain ⟨rfl, rfl, rfl, rfl⟩ := H
    have hcz85_0 : wr.cell? ⟨gb128, 0, none⟩ = some (.int .i64 x129000_1) := (blk_cell BK128.out 0).trans rfl
    have hcz85_1 : wr.cell? ⟨gb128, 1, none⟩ = some (.int .i64 x129001_1) := (blk_cell BK128.out 1).trans rfl
    have hcz85_2 : wr.cell? ⟨gb128, 2, none⟩ = some (.int .i64 x129002_1) := (blk_cell BK128.out 2).trans rfl
    have hfz85_0 := blk_frozen BK128.out 0
    have hfz85_1 := blk_frozen BK128.out 1
    have hfz85_2 := blk_frozen BK128.out 2
    go_wp2
    refine bodyPost_ret (results_ct rfl _ _ gb128 34 #[.int .i64 0, .int .i64 0, .int .i64 0] (0, 0) _ rfl (by (with_reducible repeat (first | refine blk_drewN ?_ _ | refine blk_drew ?_ | refine blk_alloc ?_ _)); refine blk_put (cs := #[.int .i64 0, .int .i64 0, .int .i64 x129002_1]) ?_ 2 _ rfl; (with_reducible repeat (first | refine blk_drewN ?_ _ | refine blk_drew ?_ | refine blk_alloc ?_ _)); refine blk_put (cs := #[.int .i64 0, .int .i64 x129001_1, .int .i64 x129002_1]) ?_ 1 _ rfl; (with_reducible repeat (first | refine blk_drewN ?_ _ | refine blk_drew ?_ | refine blk_alloc ?_ _)); refine blk_put (cs := #[.int .i64 x129000_1, .int .i64 x129001_1, .int .i64 x129002_1]) ?_ 0 _ rfl; (with_reducible repeat (first | refine blk_drewN ?_ _ | refine blk_drew ?_ | refine blk_alloc ?_ _)); exact BK128.out) Tryd.underlying34 rfl (by kernel_rfl)) rfl ?_
    exact ⟨by first | rfl | (simp [errW_none, errW_some] <;> rfl) | (simp [*, errW_none, errW_some] <;> rfl), by repeat (first | (with_reducible first | exact HB.out | apply bwA | apply bwN | apply bw1 | refine below_set ?_ GE128.out) | exact HB.out)⟩
end Go.Proofs.YtggajlaifoddeaaDoor.PFnExactReadProg
