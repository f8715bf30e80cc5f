/- A later sum is at least as late and a sum never wraps, at all drawn times; no condition. -/
import Derived.Test.YtbkoifghabnmeaaOpen
import Derived.Test.YtbkoifghabnmeaaPLib
import Derived.Test.YtbkoifghabnmeaaPFnLaterx2
namespace Go.Proofs.Ytbkoifghabnmeaa.Pure
open Go.RowKit Go.Proofs.YtbkoifghabnmeaaOpen Go.Proofs.YtbkoifghabnmeaaPLib Go.Proofs.Ytbkoifghabnmeaa.PFnLater Go.Proofs.YtbkoifghabnmeaaW.PrintWords Go.Proofs.YtbkoifghabnmeaaW.PrintLast
set_option linter.unusedVariables false
set_option linter.unusedSimpArgs false

/-- The whole number of 64 bits that is nearest. -/
def sat64 (x : Int) : Int := if x > 9223372036854775807 then 9223372036854775807 else if x < -9223372036854775808 then -9223372036854775808 else x
theorem wf_span {x : Int} (h : (Lit.int .i64 x).wf = true) : -9223372036854775808 ≤ x ∧ x ≤ 9223372036854775807 := by
  have h2 : (decide (IntKind.i64.min ≤ x) && decide (x ≤ IntKind.i64.max)) = true := h
  rw [Bool.and_eq_true, decide_eq_true_eq, decide_eq_true_eq] at h2
  have e1 : IntKind.i64.min = -9223372036854775808 := by decide
  have e2 : IntKind.i64.max = 9223372036854775807 := by decide
  omega
theorem spec_later {a b : Int} (ha : -9223372036854775808 ≤ a ∧ a ≤ 9223372036854775807) (hb : -9223372036854775808 ≤ b ∧ b ≤ 9223372036854775807) : spec_Later.f a b = some (sat64 (a + b)) := by
  unfold spec_Later.f spec_l2Least.f
  simp only [Option.bind_some]
  unfold wrap64
  repeat' split
  all_goals
    rw [Option.some.injEq]
    unfold sat64
    repeat' split
    all_goals omega
theorem impl_later {a b : Int} (k : Nat) (ha : -9223372036854775808 ≤ a ∧ a ≤ 9223372036854775807) (hb : -9223372036854775808 ≤ b ∧ b ≤ 9223372036854775807) : impl_Later.f (k + 1) a b = some (sat64 (a + b)) := by
  unfold impl_Later.f
  simp only [impl_Later.j0, decide_eq_true_eq, Bool.false_eq_true, if_false]
  unfold wrap64
  repeat' split
  all_goals
    rw [Option.some.injEq]
    unfold sat64
    repeat' split
    all_goals omega
theorem and255 (n : Int) : Go.bits .and .i64 n 255 = n % 256 := by
  have h255 : (BitVec.ofInt 64 255).toNat = 2 ^ 8 - 1 := by decide
  have key : (BitVec.ofInt 64 n &&& BitVec.ofInt 64 255).toNat = (n % ((2 ^ 64 : Nat) : Int)).toNat % 2 ^ 8 := by
    rw [BitVec.toNat_and, BitVec.toNat_ofInt, h255, Nat.and_two_pow_sub_one_eq_mod]
  show IntKind.i64.wrap ((BitVec.ofInt 64 n &&& BitVec.ofInt 64 255).toNat : Nat) = n % 256
  rw [key, IntKind.wrap_i64]
  omega
theorem wrap_span (x : Int) : -9223372036854775808 ≤ wrap64 x ∧ wrap64 x ≤ 9223372036854775807 := by unfold wrap64; omega
/-- A place in the bytes of a draw. -/
def CurOk (b : List Int) (i : Int) : Prop := 0 ≤ i ∧ i ≤ (b.length : Int)
theorem byte_ok (b : List Int) (i h : Int) (hb : b.length ≤ 4096) (hc : CurOk b i) : ∃ x j g, spec_l1Byte.f b i h = some (x, j, g) ∧ 0 ≤ x ∧ x ≤ 255 ∧ CurOk b j := by
  obtain ⟨h0, h1⟩ := hc
  unfold spec_l1Byte.f
  by_cases hl : i < (b.length : Int)
  · rw [if_pos hl, if_pos h0, and255, and255]
    exact ⟨_, _, _, rfl, by omega, by omega, by unfold CurOk wrap64; omega⟩
  · rw [if_neg hl, and255]
    exact ⟨_, _, _, rfl, by omega, by omega, h0, h1⟩
theorem tmod_ok {x n : Int} (hx : 0 ≤ x) (hn : 0 < n) : 0 ≤ Int.tmod x n ∧ Int.tmod x n < n := by
  rw [Int.tmod_eq_emod_of_nonneg hx]
  exact ⟨Int.emod_nonneg x (by omega), Int.emod_lt_of_pos x hn⟩
theorem below_ok (b : List Int) (i h n : Int) (hb : b.length ≤ 4096) (hc : CurOk b i) : ∃ r j g, spec_l1Below.f b i h n = some (r, j, g) ∧ 0 ≤ r ∧ (0 < n → r < n) ∧ (n ≤ 0 → r = 0) ∧ CurOk b j := by
  unfold spec_l1Below.f
  by_cases h0 : n ≤ 0
  · rw [if_pos h0]
    exact ⟨_, _, _, rfl, by omega, by omega, fun _ => rfl, hc⟩
  · rw [if_neg h0]
    by_cases h1 : n ≤ 256
    · obtain ⟨x, j, g, e, hx0, hx1, hj⟩ := byte_ok b i h hb hc
      rw [if_pos h1, e]
      simp only [Option.bind_some]
      rw [if_neg (by omega)]
      have ht := tmod_ok hx0 (show 0 < n by omega)
      exact ⟨_, _, _, rfl, ht.1, fun _ => ht.2, by omega, hj⟩
    · obtain ⟨x, j, g, e, hx0, hx1, hj⟩ := byte_ok b i h hb hc
      obtain ⟨x2, j2, g2, e2, hy0, hy1, hj2⟩ := byte_ok b j g hb hj
      obtain ⟨x3, j3, g3, e3, hz0, hz1, hj3⟩ := byte_ok b j2 g2 hb hj2
      obtain ⟨x4, j4, g4, e4, hw0, hw1, hj4⟩ := byte_ok b j3 g3 hb hj3
      rw [if_neg h1, e]
      simp only [Option.bind_some]
      rw [e2]
      simp only [Option.bind_some]
      rw [e3]
      simp only [Option.bind_some]
      rw [e4]
      simp only [Option.bind_some]
      rw [if_neg (by omega)]
      have hs : 0 ≤ wrap64 (wrap64 (wrap64 (wrap64 (x * 16777216) + wrap64 (x2 * 65536)) + wrap64 (x3 * 256)) + x4) := by unfold wrap64; omega
      have ht := tmod_ok hs (show 0 < n by omega)
      exact ⟨_, _, _, rfl, ht.1, fun _ => ht.2, by omega, hj4⟩
theorem new_loop (b : List Int) (hb : b.length ≤ 4096) : ∀ (m j : Nat) (x : Int), j + m = b.length → ∃ g, ∀ k, m < k → spec_l1New.l0 k b x (j : Int) = some (b, 0, g) := by
  intro m
  induction m with
  | zero =>
    intro j x hj
    refine ⟨x, fun k hk => ?_⟩
    obtain ⟨k, rfl⟩ : ∃ q, k = q + 1 := ⟨k - 1, by omega⟩
    rw [spec_l1New.l0, if_neg (by omega)]
  | succ m ih =>
    intro j x hj
    obtain ⟨g, hg⟩ := ih (j + 1) (Go.bits .and .i64 (wrap64 ((wrap64 ((wrap64 (x * 173)) + (wrap64 (rd b (j : Int))))) + 11)) 1073741823) (by omega)
    refine ⟨g, fun k hk => ?_⟩
    obtain ⟨k, rfl⟩ : ∃ q, k = q + 1 := ⟨k - 1, by omega⟩
    rw [spec_l1New.l0, if_pos (by omega), if_pos (by omega)]
    have := hg k (by omega)
    rw [wrap_id (x := (j : Int) + 1) (by omega) (by omega)]
    rw [show ((j : Int) + 1) = ((j + 1 : Nat) : Int) by omega]
    exact this
theorem new_ok (b : List Int) (hb : b.length ≤ 4096) : ∃ g, ∀ k, 4097 ≤ k → spec_l1New.f k b = some (b, 0, g) := by
  obtain ⟨g, hg⟩ := new_loop b hb b.length 0 (wrap64 (314159 + (b.length : Int))) (by omega)
  refine ⟨g, fun k hk => ?_⟩
  unfold spec_l1New.f
  exact hg k (by omega)
theorem curOk0 (b : List Int) : CurOk b 0 := ⟨Int.le_refl _, by omega⟩
theorem odd_ok (b : List Int) (i h : Int) (hb : b.length ≤ 4096) (hc : CurOk b i) : ∃ r j g, spec_l1Odd.f b i h = some (r, j, g) ∧ -9223372036854775808 ≤ r ∧ r ≤ 9223372036854775807 ∧ CurOk b j := by
  obtain ⟨r, j, g, e, h0, h1, _, hj⟩ := below_ok b i h 10 hb hc
  have h2 := h1 (by omega)
  unfold spec_l1Odd.f
  simp only [Option.bind_some]
  rw [e]
  simp only [Option.bind_some]
  rw [if_pos h0, if_pos (by simp; omega)]
  refine ⟨_, _, _, rfl, ?_, ?_, hj⟩
  · have : r = 0 ∨ r = 1 ∨ r = 2 ∨ r = 3 ∨ r = 4 ∨ r = 5 ∨ r = 6 ∨ r = 7 ∨ r = 8 ∨ r = 9 := by omega
    rcases this with rfl | rfl | rfl | rfl | rfl | rfl | rfl | rfl | rfl | rfl <;> decide
  · have : r = 0 ∨ r = 1 ∨ r = 2 ∨ r = 3 ∨ r = 4 ∨ r = 5 ∨ r = 6 ∨ r = 7 ∨ r = 8 ∨ r = 9 := by omega
    rcases this with rfl | rfl | rfl | rfl | rfl | rfl | rfl | rfl | rfl | rfl <;> decide
theorem draw2_ok (b : List Int) (i h : Int) (hb : b.length ≤ 4096) (hc : CurOk b i) : ∃ r j g, spec_l2Draw.f b i h = some (r, j, g) ∧ -9223372036854775808 ≤ r ∧ r ≤ 9223372036854775807 ∧ CurOk b j := by
  obtain ⟨q, j, g, e, _, _, _, hj⟩ := below_ok b i h 4 hb hc
  unfold spec_l2Draw.f
  rw [e]
  simp only [Option.bind_some]
  by_cases q0 : q = 0
  · obtain ⟨r, j2, g2, e2, h0, h1, hj2⟩ := odd_ok b j g hb hj
    rw [if_pos q0, e2]
    exact ⟨r, j2, g2, rfl, h0, h1, hj2⟩
  · rw [if_neg q0]
    by_cases q1 : q = 1
    · obtain ⟨r, j2, g2, e2, h0, h1, _, hj2⟩ := below_ok b j g 5 hb hj
      rw [if_pos q1, e2]
      exact ⟨_, j2, g2, rfl, (wrap_span _).1, (wrap_span _).2, hj2⟩
    · rw [if_neg q1]
      by_cases q2 : q = 2
      · obtain ⟨r, j2, g2, e2, h0, h1, _, hj2⟩ := below_ok b j g 5 hb hj
        unfold spec_l2Least.f
        rw [if_pos q2]
        simp only [Option.bind_some]
        rw [e2]
        exact ⟨_, j2, g2, rfl, (wrap_span _).1, (wrap_span _).2, hj2⟩
      · unfold spec_l1From.f
        rw [if_neg q2]
        obtain ⟨r, j2, g2, e2, h0, h1, _, hj2⟩ := below_ok b j g (wrap64 ((wrap64 (30 - -9)) + 1)) hb hj
        rw [e2]
        exact ⟨_, j2, g2, rfl, (wrap_span _).1, (wrap_span _).2, hj2⟩
theorem drawLater_ok (b : List Int) (hb : b.length ≤ 4096) : ∃ t e, (-9223372036854775808 ≤ t ∧ t ≤ 9223372036854775807) ∧ (-9223372036854775808 ≤ e ∧ e ≤ 9223372036854775807) ∧ ∀ k, 4097 ≤ k → spec_DrawLater.f k b = some (t, e) := by
  obtain ⟨g, hg⟩ := new_ok b hb
  obtain ⟨t, j, g1, e1, t0, t1, hj⟩ := draw2_ok b 0 g hb (curOk0 b)
  obtain ⟨e, j2, g2, e2, s0, s1, hj2⟩ := draw2_ok b j g1 hb hj
  refine ⟨t, e, ⟨t0, t1⟩, ⟨s0, s1⟩, fun k hk => ?_⟩
  unfold spec_DrawLater.f
  rw [hg k hk]
  simp only [Option.bind_some]
  rw [e1]
  simp only [Option.bind_some]
  rw [e2]
  rfl
theorem drawBetween_ok (b : List Int) (hb : b.length ≤ 4096) : ∃ t e, (-9223372036854775808 ≤ t ∧ t ≤ 9223372036854775807) ∧ (-9223372036854775808 ≤ e ∧ e ≤ 9223372036854775807) ∧ ∀ k, 4097 ≤ k → spec_DrawBetween.f k b = some (t, e) := by
  obtain ⟨g, hg⟩ := new_ok b hb
  obtain ⟨t, j, g1, e1, t0, t1, hj⟩ := draw2_ok b 0 g hb (curOk0 b)
  obtain ⟨e, j2, g2, e2, s0, s1, hj2⟩ := draw2_ok b j g1 hb hj
  refine ⟨t, e, ⟨t0, t1⟩, ⟨s0, s1⟩, fun k hk => ?_⟩
  unfold spec_DrawBetween.f
  rw [hg k hk]
  simp only [Option.bind_some]
  rw [e1]
  simp only [Option.bind_some]
  rw [e2]
  rfl
theorem FnLater : ∀ (l0 : List Int), l0.length ≤ 9223372036854775807 → (∀ x_ ∈ l0, wfu8 x_) → ∃ k, laws_FnLater.f k l0 = some true := by
  intro b _ _
  by_cases hb : b.length ≤ 4096
  · obtain ⟨t, e, ht, he, h1⟩ := drawLater_ok b hb
    obtain ⟨u, v, hu, hv, h2⟩ := drawBetween_ok b hb
    refine ⟨4097 + 2, ?_⟩
    unfold laws_FnLater.f laws_big.f
    rw [h1 _ (by omega), h2 _ (by omega)]
    simp only [Option.bind_some]
    rw [if_neg (by simp; omega)]
    have m (x : Int) : -9223372036854775808 ≤ sat64 x ∧ sat64 x ≤ 9223372036854775807 := by unfold sat64; repeat' split; all_goals omega
    have L (k : Nat) {x y : Int} (hx : -9223372036854775808 ≤ x ∧ x ≤ 9223372036854775807) (hy : -9223372036854775808 ≤ y ∧ y ≤ 9223372036854775807) := impl_later k hx hy
    have j1 : laws_FnLater.j1 (4097 + 1) t e u false = some true := by
      rw [laws_FnLater.j1, L 4096 ht he, L 4096 hu he]
      simp only [Option.bind_some, Bool.false_eq_true, if_false]
      split
      · rfl
      · rw [decide_eq_true]
        unfold sat64
        repeat' split
        all_goals omega
    have j0 : laws_FnLater.j0 (4097 + 2) t e u false = some true := by
      rw [laws_FnLater.j0, L 4097 ht he]
      simp only [Option.bind_some, Bool.false_eq_true, if_false]
      rw [L 4097 (m (t + e)) hu, L 4097 he hu]
      simp only [Option.bind_some]
      rw [L 4097 ht (m (e + u))]
      simp only [Option.bind_some]
      split
      · split
        · split
          · exact j1
          · rename_i hu0 he0 hne
            rw [decide_eq_false (fun ht0 : t ≥ 0 => hne (by unfold sat64; repeat' split; all_goals omega))]
            exact j1
        · exact j1
      · exact j1
    rw [L 4098 ht he, spec_later ht he, L 4098 he ht]
    simp only [Option.bind_some]
    rw [if_pos trivial, Int.add_comm e t]
    simp only [bne_self_eq_false, j0]
    have n1 : e ≥ 0 → ¬ sat64 (t + e) < t := fun h => by unfold sat64; repeat' split; all_goals omega
    have n2 : e < 0 → ¬ sat64 (t + e) > t := fun h => by unfold sat64; repeat' split; all_goals omega
    split
    · rename_i h
      rw [if_neg (n1 h), if_neg (by omega)]
    · rename_i h
      rw [if_pos (by omega), if_neg (n2 (by omega))]
  · refine ⟨0, ?_⟩
    unfold laws_FnLater.f laws_big.f
    simp only [Option.bind_some]
    rw [if_pos (by simp; omega)]

end Go.Proofs.Ytbkoifghabnmeaa.Pure
