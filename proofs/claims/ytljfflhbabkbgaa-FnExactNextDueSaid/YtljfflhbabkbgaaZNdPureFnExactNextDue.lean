/- Texts of the claim of the law FnExactNextDue, made smaller by a program of this session: what the claim does not use is left out. No condition. -/
import Derived.Test.YtljfflhbabkbgaaZNdOpen
import Derived.Test.YtljfflhbabkbgaaZNdPLib
import Derived.Test.YtljfflhbabkbgaaZNdPFnExactNextDuex13
namespace Go.Proofs.Ytljfflhbabkbgaa.Pure
open Go.RowKit Go.Proofs.YtljfflhbabkbgaaOpen Go.Proofs.YtljfflhbabkbgaaPLib Go.Proofs.Ytljfflhbabkbgaa.PFnExactNextDue Go.Proofs.YtljfflhbabkbgaaW.PrintWords Go.Proofs.YtljfflhbabkbgaaW.PrintLast
open Option (bind_some)
open List (map_cons map_nil length_drop length_take)
set_option linter.unusedVariables false
set_option linter.unusedSimpArgs false
/-- Ahead of: by the time, then by the number. -/
def ah (a b : S31) : Bool := decide (a.f0 < b.f0) || (decide (a.f0 = b.f0) && decide (a.f1 < b.f1))
theorem ah_iff {a b : S31} : ah a b = true ↔ a.f0 < b.f0 ∨ (a.f0 = b.f0 ∧ a.f1 < b.f1) := by simp [ah]
/-- A root is ahead of the first of a list, where it has one. -/
def ahd (x : S31) (l : List S31) : Prop := ∀ y t, l = y :: t → ah x y = true
/-- A leftist heap and its rank. -/
inductive Hp : List S31 → Nat → Prop
 | nil : Hp [] 0
 | node {x : S31} {l r : List S31} {a b : Nat} : Hp l a → Hp r b → b ≤ a → x.f2 = (l.length : Int) → ahd x l → ahd x r → Hp (x :: (l ++ r)) (b + 1)
theorem Hp.cons {x : S31} {t : List S31} {n : Nat} (h : Hp (x :: t) n) : ∃ l r a b, t = l ++ r ∧ n = b + 1 ∧ Hp l a ∧ Hp r b ∧ b ≤ a ∧ x.f2 = (l.length : Int) ∧ ahd x l ∧ ahd x r := by
 generalize e : x :: t = h0 at h
 cases h with
 | nil => cases e
 | node h1 h2 h3 h4 h5 h6 =>
  injection e with e1 e2
  subst e1
  exact ⟨_, _, _, _, e2, rfl, h1, h2, h3, h4, h5, h6⟩
theorem Hp.one (x : S31) (h : x.f2 = 0) : Hp [x] 1 := Hp.node (l := []) (r := []) Hp.nil Hp.nil (Nat.le_refl 0) h (fun _ _ e => by cases e) (fun _ _ e => by cases e)
theorem Hp.rank_nil {n : Nat} (h : Hp [] n) : n = 0 := by cases h; rfl
/-- The left and the right heap. -/
theorem Hp.parts {x : S31} {t : List S31} {n : Nat} (h : Hp (x :: t) n) : 0 ≤ x.f2 ∧ x.f2 ≤ (t.length : Int) ∧ ∃ a b, n = b + 1 ∧ Hp (t.take x.f2.toNat) a ∧ Hp (t.drop x.f2.toNat) b ∧ b ≤ a ∧ ahd x (t.take x.f2.toNat) ∧ ahd x (t.drop x.f2.toNat) := by
 obtain ⟨l, r, a, b, rfl, rfl, h1, h2, h3, h4, h5, h6⟩ := h.cons
 have e : x.f2.toNat = l.length := by omega
 refine ⟨by omega, by rw [h4, List.length_append]; omega, a, b, rfl, ?_, ?_, h3, ?_, ?_⟩ <;> rw [e] <;> simp [h1, h2, h5, h6]
theorem Hp.uniq : ∀ {h : List S31} {n m : Nat}, Hp h n → Hp h m → n = m := by
 intro h
 generalize hN : h.length = N
 induction N using Nat.strongRecOn generalizing h with
 | _ N ih =>
  intro n m h1 h2
  cases h with
  | nil => rw [h1.rank_nil, h2.rank_nil]
  | cons x t =>
   obtain ⟨_, _, a, b, rfl, _, hb, _⟩ := h1.parts
   obtain ⟨_, _, a', b', rfl, _, hb', _⟩ := h2.parts
   have := ih (t.drop x.f2.toNat).length (by rw [length_drop]; simp at hN; omega) rfl hb hb'
   omega
theorem pow_step (b : Nat) : 2 ^ (b + 1) = 2 * 2 ^ b := by rw [Nat.pow_succ, Nat.mul_comm]
/-- A heap of rank n has at least 2^n - 1 elements. -/
theorem Hp.big : ∀ {h : List S31} {n : Nat}, Hp h n → 2 ^ n ≤ h.length + 1 := by
 intro h n hh
 induction hh with
 | nil => exact Nat.le_refl _
 | @node x l r a b h1 h2 h3 h4 h5 h6 i1 i2 =>
  have : 2 ^ b ≤ 2 ^ a := Nat.pow_le_pow_right (by omega) h3
  rw [pow_step, List.length_cons, List.length_append]
  omega
theorem Hp.rank_le {h : List S31} {n : Nat} (hh : Hp h n) : n ≤ h.length := by
 have h1 := hh.big
 have h2 : n < 2 ^ n := Nat.lt_two_pow_self
 omega
theorem rdT_cons (x : S31) (t : List S31) : rd_T31 (x :: t) 0 = x := rfl
theorem rdT_at {l : List S31} {j : Nat} (h : j < l.length) : rd_T31 l (j : Int) = l[j] := by
 unfold rd_T31
 rw [Int.toNat_natCast, getD_lt _ h]
theorem l1In_ok (a lo hi : Int) : spec_l1In.f a lo hi = some (decide (lo ≤ a) && decide (a ≤ hi)) := by
 unfold spec_l1In.f
 by_cases h : lo ≤ a <;> simp [h]
theorem within_ok (a lo hi : Int) : impl_within.f a lo hi = some (decide (lo ≤ a) && decide (a ≤ hi)) := by
 unfold impl_within.f
 by_cases h : lo ≤ a <;> simp [h]
theorem cut_head (x : S31) (t : List S31) (h0 : 0 ≤ x.f2) (h2 : x.f2 ≤ 4611686018427387904) : (wrap64 (1 + x.f2)).toNat = x.f2.toNat + 1 ∧ wrap64 (1 + x.f2) = 1 + x.f2 := by
 rw [wrap_id (by omega) (by omega)]
 omega
theorem parts_ok {x : S31} {t : List S31} (h0 : 0 ≤ x.f2) (h1 : x.f2 ≤ (t.length : Int)) (hn : t.length ≤ 4611686018427387904) : impl_parts.f (x :: t) = some (t.take x.f2.toNat, t.drop x.f2.toNat) := by
 obtain ⟨e1, e2⟩ := cut_head x t h0 (by omega)
 unfold impl_parts.f
 rw [rdT_cons, e1, e2, if_pos (by simp), if_pos (by omega), if_pos (by simp; omega), if_pos (by omega)]
 rfl
theorem sparts_ok {x : S31} {t : List S31} (h0 : 0 ≤ x.f2) (h1 : x.f2 ≤ (t.length : Int)) (hn : t.length ≤ 4611686018427387904) : spec_l3Parts.f (x :: t) = some (t.take x.f2.toNat, t.drop x.f2.toNat, true) := by
 obtain ⟨e1, e2⟩ := cut_head x t h0 (by omega)
 unfold spec_l3Parts.f
 rw [rdT_cons, e1, e2, if_pos (by simp), l1In_ok, bind_some, if_pos (by
  rw [List.length_cons, wrap_id (by omega) (by omega)]
  simp
  omega), if_pos (by omega), if_pos (by simp; omega), if_pos (by omega)]
 rfl
theorem sparts_no {x : S31} {t : List S31} (h : ¬ (0 ≤ x.f2 ∧ x.f2 ≤ (t.length : Int))) (hn : t.length ≤ 4611686018427387904) : spec_l3Parts.f (x :: t) = some ([], [], false) := by
 unfold spec_l3Parts.f
 rw [rdT_cons, if_pos (by simp), l1In_ok, bind_some, if_neg (by
  rw [List.length_cons, wrap_id (by omega) (by omega)]
  simp
  omega)]
theorem sahead_ok (a b : S31) : spec_l3Ahead.f a.f0 a.f1 a.f2 b.f0 b.f1 b.f2 = some (ah a b) := by
 unfold spec_l3Ahead.f ah
 by_cases h : a.f0 < b.f0
 ·simp [h]
 ·by_cases e : a.f0 = b.f0 <;> simp [h, e]
/-- What the comparison of two elements tells. -/
def cmpT (a b : S31) : Int := if a.f0 < b.f0 then -1 else if b.f0 < a.f0 then 1 else if a.f1 < b.f1 then -1 else if b.f1 < a.f1 then 1 else 0
theorem cmpT_neg (a b : S31) : decide (cmpT a b < 0) = ah a b := by
 rw [Bool.eq_iff_iff, ah_iff, decide_eq_true_iff]
 unfold cmpT
 split
 ·simp; omega
 ·split
  ·simp; omega
  ·split
   ·simp; omega
   ·split <;> simp <;> omega
theorem compare1_ok (a b : Int) : cmp_Compare_int64.f a b = some (if a < b then -1 else if b < a then 1 else 0) := by
 unfold cmp_Compare_int64.f cmp_isNaN_int64.f
 simp only [bne_self_eq_false, bind_some]
 rw [if_neg (by simp), if_neg (by simp)]
 by_cases h : a < b
 ·rw [if_pos h, if_pos h]
 ·rw [if_neg h, if_neg h]
  by_cases h2 : b < a
  ·rw [if_pos (by omega), if_pos h2]
  ·rw [if_neg (by omega), if_neg h2]
theorem or_ok (p q : Int) (k : Nat) : cmp_Or_int.f (k + 3) [p, q] = some (if p = 0 then q else p) := by
 unfold cmp_Or_int.f
 have w1 : wrap64 (0 + 1) = 1 := by unfold wrap64; omega
 have w2 : wrap64 (1 + 1) = 2 := by unfold wrap64; omega
 have r0 : rd [p, q] 0 = p := rfl
 have r1 : rd [p, q] 1 = q := rfl
 simp only [cmp_Or_int.l0]
 rw [r0, w1, w2, r1]
 by_cases hp : p = 0
 ·by_cases hq : q = 0
  ·simp [hp, hq]
  ·simp [hp, hq]
 ·simp [hp]
theorem compare_ok (a b : S31) (k : Nat) (hk : 3 ≤ k) : impl_Twig_compare.f k a.f0 a.f1 a.f2 b.f0 b.f1 b.f2 = some (cmpT a b) := by
 obtain ⟨k, rfl⟩ : ∃ m, k = m + 3 := ⟨k - 3, by omega⟩
 unfold impl_Twig_compare.f
 rw [compare1_ok, compare1_ok, bind_some, bind_some, or_ok, bind_some]
 unfold cmpT
 congr 1
 by_cases h : a.f0 < b.f0
 ·simp [h]
 ·by_cases h2 : b.f0 < a.f0 <;> simp [h, h2]
theorem size_ok (l : List S31) : impl_Twig_85.f l = some (l.length : Int) := rfl
/-- The head of a list, where there is one, is behind the root. -/
def okh (x : S31) : List S31 → Bool
 | [] => true
 | y :: _ => ah x y
theorem okh_iff {x : S31} {l : List S31} : okh x l = true ↔ ahd x l := by
 cases l with
 | nil => simp [okh, ahd]
 | cons y t =>
  unfold okh ahd
  constructor
  ·intro h z s e
   injection e with e1 _
   subst e1
   exact h
  ·intro h
   exact h y t rfl
theorem srank_cons (k : Nat) (x : S31) (t : List S31) (h0 : 0 ≤ x.f2) (h1 : x.f2 ≤ (t.length : Int)) (hn : t.length ≤ 4611686018427387904) :
  spec_l3Rank.f (k + 1) (x :: t) = spec_l3Rank.j0 k (t.take x.f2.toNat) (t.drop x.f2.toNat) (!(okh x (t.take x.f2.toNat) && okh x (t.drop x.f2.toNat))) := by
 simp only [spec_l3Rank.f]
 rw [sparts_ok h0 h1 hn, bind_some, if_neg (by simp; omega)]
 generalize t.take x.f2.toNat = l
 generalize t.drop x.f2.toNat = r
 rw [rdT_cons, if_pos rfl]
 cases l with
 | nil =>
  cases r with
  | nil => simp [okh]
  | cons z r =>
   simp [okh, rdT_cons, sahead_ok]
 | cons y l =>
  rw [rdT_cons, sahead_ok]
  cases r with
  | nil => cases e : ah x y <;> simp [okh, e]
  | cons z r =>
   rw [rdT_cons, sahead_ok]
   cases e : ah x y <;> simp [okh, e]
theorem srank_ok : ∀ (N : Nat) (h : List S31), h.length ≤ N → N ≤ 4611686018427387904 → ∃ r K, (∀ k, K ≤ k → spec_l3Rank.f k h = some r) ∧ ((r = -1 ∧ ∀ n, ¬ Hp h n) ∨ ∃ n : Nat, r = (n : Int) ∧ Hp h n) := by
 intro N
 induction N with
 | zero =>
  intro h hl hN
  obtain rfl : h = [] := List.length_eq_zero_iff.1 (by omega)
  refine ⟨0, 1, fun k hk => ?_, .inr ⟨0, rfl, Hp.nil⟩⟩
  obtain ⟨k, rfl⟩ : ∃ q, k = q + 1 := ⟨k - 1, by omega⟩
  simp [spec_l3Rank.f]
 | succ N ih =>
  intro h hl hN
  cases h with
  | nil =>
   refine ⟨0, 1, fun k hk => ?_, .inr ⟨0, rfl, Hp.nil⟩⟩
   obtain ⟨k, rfl⟩ : ∃ q, k = q + 1 := ⟨k - 1, by omega⟩
   simp [spec_l3Rank.f]
  | cons x t =>
   rw [List.length_cons] at hl
   by_cases hin : 0 ≤ x.f2 ∧ x.f2 ≤ (t.length : Int)
   ·have hs := fun k => srank_cons k x t hin.1 hin.2 (by omega)
    cases hb : (okh x (t.take x.f2.toNat) && okh x (t.drop x.f2.toNat)) with
    | false =>
     refine ⟨-1, 2, fun k hk => ?_, .inl ⟨rfl, fun n hn => ?_⟩⟩
     ·obtain ⟨k, rfl⟩ : ∃ q, k = q + 2 := ⟨k - 2, by omega⟩
      rw [hs, hb]
      simp [spec_l3Rank.j0]
     ·obtain ⟨_, _, _, _, _, _, _, _, h5, h6⟩ := hn.parts
      rw [okh_iff.2 h5, okh_iff.2 h6] at hb
      cases hb
    | true =>
     obtain ⟨a, K1, e1, c1⟩ := ih (t.take x.f2.toNat) (by rw [length_take]; omega) (by omega)
     obtain ⟨b, K2, e2, c2⟩ := ih (t.drop x.f2.toNat) (by rw [length_drop]; omega) (by omega)
     rw [Bool.and_eq_true] at hb
     have step : ∀ k, K1 + K2 + 2 ≤ k → spec_l3Rank.f k (x :: t) = if a < 0 then some (-1) else (if b < 0 then some (-1) else (if a < b then some (-1) else some (wrap64 (b + 1)))) := by
      intro k hk
      obtain ⟨k, rfl⟩ : ∃ q, k = q + 2 := ⟨k - 2, by omega⟩
      rw [hs, hb.1, hb.2]
      simp only [spec_l3Rank.j0]
      rw [if_neg (by simp), e1 k (by omega), e2 k (by omega), bind_some, bind_some]
     rcases c1 with ⟨rfl, c1⟩ | ⟨na, rfl, c1⟩
     ·refine ⟨-1, K1 + K2 + 2, fun k hk => by rw [step k hk, if_pos (by omega)], .inl ⟨rfl, fun n hn => ?_⟩⟩
      obtain ⟨_, _, p, q, _, hp, _⟩ := hn.parts
      exact c1 p hp
     ·rcases c2 with ⟨rfl, c2⟩ | ⟨nb, rfl, c2⟩
      ·refine ⟨-1, K1 + K2 + 2, fun k hk => by rw [step k hk, if_neg (by omega), if_pos (by omega)], .inl ⟨rfl, fun n hn => ?_⟩⟩
       obtain ⟨_, _, p, q, _, _, hq, _⟩ := hn.parts
       exact c2 q hq
      ·by_cases hab : na < nb
       ·refine ⟨-1, K1 + K2 + 2, fun k hk => by rw [step k hk, if_neg (by omega), if_neg (by omega), if_pos (by omega)], .inl ⟨rfl, fun n hn => ?_⟩⟩
        obtain ⟨_, _, p, q, _, hp, hq, hpq, _⟩ := hn.parts
        have := hp.uniq c1
        have := hq.uniq c2
        omega
       ·have hr := c2.rank_le
        rw [length_drop] at hr
        refine ⟨(nb : Int) + 1, K1 + K2 + 2, fun k hk => by rw [step k hk, if_neg (by omega), if_neg (by omega), if_neg (by omega), wrap_id (by omega) (by omega)], .inr ⟨nb + 1, by omega, ?_⟩⟩
        have := Hp.node (x := x) c1 c2 (by omega) (by rw [length_take]; omega) (okh_iff.1 hb.1) (okh_iff.1 hb.2)
        rwa [List.take_append_drop] at this
   ·refine ⟨-1, 2, fun k hk => ?_, .inl ⟨rfl, fun n hn => hin ⟨hn.parts.1, hn.parts.2.1⟩⟩⟩
    obtain ⟨k, rfl⟩ : ∃ q, k = q + 2 := ⟨k - 2, by omega⟩
    simp only [spec_l3Rank.f]
    rw [sparts_no hin (by omega), bind_some, if_neg (by simp; omega), if_neg (by simp)]
    simp [spec_l3Rank.j0]
theorem rank_loop : ∀ (n : Nat) (h : List S31) (c : Int), Hp h n → h.length ≤ 4611686018427387904 → 0 ≤ c → c + n ≤ 4611686018427387904 → ∀ k, n < k → impl_rank.l0 k h c = some (c + n) := by
 intro n
 induction n with
 | zero =>
  intro h c hh hl h0 h1 k hk
  obtain ⟨k, rfl⟩ : ∃ q, k = q + 1 := ⟨k - 1, by omega⟩
  have : h = [] := by
   cases h with
   | nil => rfl
   | cons x t =>
    obtain ⟨_, _, _, _, e, _⟩ := hh.parts
    omega
  subst this
  simp [impl_rank.l0]
 | succ n ih =>
  intro h c hh hl h0 h1 k hk
  obtain ⟨k, rfl⟩ : ∃ q, k = q + 1 := ⟨k - 1, by omega⟩
  cases h with
  | nil => have := hh.rank_nil; omega
  | cons x t =>
   obtain ⟨p0, p1, a, b, e, _, hb, _⟩ := hh.parts
   obtain rfl : n = b := by omega
   rw [List.length_cons] at hl
   simp only [impl_rank.l0]
   rw [if_pos (by simp), parts_ok p0 p1 (by omega), bind_some, wrap_id (by omega) (by omega), ih _ _ hb (by rw [length_drop]; omega) (by omega) (by omega) k (by omega)]
   congr 1
   omega
theorem rank_hp {h : List S31} {n : Nat} (hh : Hp h n) (hn : h.length ≤ 4611686018427387903) : ∀ k, n < k → impl_rank.f k h = some (n : Int) := by
 intro k hk
 unfold impl_rank.f
 have := hh.rank_le
 rw [rank_loop n h 0 hh (by omega) (by omega) (by omega) k hk]
 congr 1
 omega
theorem ne1 (l : List S31) : ¬ ((l.length : Int) + 1 = 0) := by omega
theorem isheap_j0 (k : Nat) (x : S31) (t l r : List S31) (hk : 3 ≤ k) : impl_isHeap.j0 (k + 1) (x :: t) l r false = some (okh x l && okh x r) := by
 simp only [impl_isHeap.j0]
 rw [if_neg (by simp), rdT_cons]
 cases l with
 | nil =>
  cases r with
  | nil => simp [ne1, okh]
  | cons z r =>
   rw [rdT_cons, compare_ok x z k hk]
   simp [ne1, okh, cmpT_neg]
 | cons y l =>
  rw [rdT_cons, compare_ok x y k hk]
  have e := cmpT_neg x y
  cases r with
  | nil =>
   by_cases c : cmpT x y < 0
   ·simp [c] at e
    simp [ne1, okh, ← e, c]
   ·simp [c] at e
    simp [ne1, okh, ← e, c]
  | cons z r =>
   rw [rdT_cons, compare_ok x z k hk]
   by_cases c : cmpT x y < 0
   ·simp [c] at e
    simp [ne1, okh, ← e, c, cmpT_neg]
   ·simp [c] at e
    simp [ne1, okh, e, c]
theorem isheap_j1 (k : Nat) (x l r : List S31) : impl_isHeap.j0 (k + 1) x l r true = some false := by
 simp [impl_isHeap.j0]
theorem isheap_ok : ∀ (N : Nat) (h : List S31), h.length ≤ N → N ≤ 4611686018427387900 → ∃ b K, (∀ k, K ≤ k → impl_isHeap.f k h = some b) ∧ (b = true ↔ ∃ n, Hp h n) := by
 intro N
 have nil : ∃ b K, (∀ k, K ≤ k → impl_isHeap.f k [] = some b) ∧ (b = true ↔ ∃ n, Hp [] n) := by
  refine ⟨true, 1, fun k hk => ?_, by simp; exact ⟨0, Hp.nil⟩⟩
  obtain ⟨k, rfl⟩ : ∃ q, k = q + 1 := ⟨k - 1, by omega⟩
  simp [impl_isHeap.f]
 induction N with
 | zero =>
  intro h hl hN
  obtain rfl : h = [] := List.length_eq_zero_iff.1 (by omega)
  exact nil
 | succ N ih =>
  intro h hl hN
  cases h with
  | nil => exact nil
  | cons x t =>
   rw [List.length_cons] at hl
   have hw : wrap64 (((x :: t).length : Int) - 1) = (t.length : Int) := by
    rw [List.length_cons, wrap_id (by omega) (by omega)]
    omega
   by_cases hin : 0 ≤ x.f2 ∧ x.f2 ≤ (t.length : Int)
   ·obtain ⟨a, K1, e1, c1⟩ := ih (t.take x.f2.toNat) (by rw [length_take]; omega) (by omega)
    obtain ⟨b, K2, e2, c2⟩ := ih (t.drop x.f2.toNat) (by rw [length_drop]; omega) (by omega)
    have step : ∀ k, K1 + K2 ≤ k → impl_isHeap.f (k + 1) (x :: t) = if a = true then (if b = true then ((impl_rank.f k (t.take x.f2.toNat)).bind fun p => ((impl_rank.f k (t.drop x.f2.toNat)).bind fun q => impl_isHeap.j0 k (x :: t) (t.take x.f2.toNat) (t.drop x.f2.toNat) (decide (p < q)))) else impl_isHeap.j0 k (x :: t) (t.take x.f2.toNat) (t.drop x.f2.toNat) true) else impl_isHeap.j0 k (x :: t) (t.take x.f2.toNat) (t.drop x.f2.toNat) true := by
     intro k hk
     simp only [impl_isHeap.f]
     rw [if_neg (by simp; omega), if_pos (by simp), size_ok, bind_some, hw, rdT_cons, within_ok, bind_some, if_pos (by simp; omega), parts_ok hin.1 hin.2 (by omega), bind_some]
     simp only
     rw [e1 k (by omega), bind_some]
     by_cases ha : a = true
     ·rw [if_pos ha, if_pos ha, e2 k (by omega), bind_some]
     ·rw [if_neg ha, if_neg ha]
    by_cases ha : a = true
    ·by_cases hb : b = true
     ·obtain ⟨na, h1⟩ := c1.1 ha
      obtain ⟨nb, h2⟩ := c2.1 hb
      have ha2 := h1.rank_le
      have hb2 := h2.rank_le
      rw [length_take] at ha2
      rw [length_drop] at hb2
      have step2 : ∀ k, K1 + K2 + na + nb + 5 ≤ k → impl_isHeap.f (k + 1) (x :: t) = impl_isHeap.j0 k (x :: t) (t.take x.f2.toNat) (t.drop x.f2.toNat) (decide ((na : Int) < nb)) := by
       intro k hk
       rw [step k (by omega), if_pos ha, if_pos hb, rank_hp h1 (by rw [length_take]; omega) k (by omega), rank_hp h2 (by rw [length_drop]; omega) k (by omega), bind_some, bind_some]
      by_cases hab : na < nb
      ·refine ⟨false, K1 + K2 + na + nb + 7, fun k hk => ?_, ?_⟩
       ·obtain ⟨k, rfl⟩ : ∃ q, k = q + 2 := ⟨k - 2, by omega⟩
        rw [step2 _ (by omega), decide_eq_true (by omega), isheap_j1]
       ·constructor
        ·intro h; cases h
        ·rintro ⟨n, hn⟩
         obtain ⟨_, _, p, q, _, hp, hq, hpq, _⟩ := hn.parts
         have := hp.uniq h1
         have := hq.uniq h2
         omega
      ·refine ⟨okh x (t.take x.f2.toNat) && okh x (t.drop x.f2.toNat), K1 + K2 + na + nb + 7, fun k hk => ?_, ?_⟩
       ·obtain ⟨k, rfl⟩ : ∃ q, k = q + 2 := ⟨k - 2, by omega⟩
        rw [step2 _ (by omega), decide_eq_false (by omega), isheap_j0 _ _ _ _ _ (by omega)]
       ·rw [Bool.and_eq_true, okh_iff, okh_iff]
        constructor
        ·rintro ⟨g1, g2⟩
         have := Hp.node (x := x) h1 h2 (by omega) (by rw [length_take]; omega) g1 g2
         rw [List.take_append_drop] at this
         exact ⟨_, this⟩
        ·rintro ⟨n, hn⟩
         obtain ⟨_, _, p, q, _, _, _, _, g1, g2⟩ := hn.parts
         exact ⟨g1, g2⟩
     ·refine ⟨false, K1 + K2 + 2, fun k hk => ?_, ?_⟩
      ·obtain ⟨k, rfl⟩ : ∃ q, k = q + 2 := ⟨k - 2, by omega⟩
       rw [step _ (by omega), if_pos ha, if_neg hb, isheap_j1]
      ·constructor
       ·intro h; cases h
       ·rintro ⟨n, hn⟩
        obtain ⟨_, _, p, q, _, hp, hq, _⟩ := hn.parts
        exact absurd (c2.2 ⟨_, hq⟩) hb
    ·refine ⟨false, K1 + K2 + 2, fun k hk => ?_, ?_⟩
     ·obtain ⟨k, rfl⟩ : ∃ q, k = q + 2 := ⟨k - 2, by omega⟩
      rw [step _ (by omega), if_neg ha, isheap_j1]
     ·constructor
      ·intro h; cases h
      ·rintro ⟨n, hn⟩
       obtain ⟨_, _, p, q, _, hp, hq, _⟩ := hn.parts
       exact absurd (c1.2 ⟨_, hp⟩) ha
   ·refine ⟨false, 1, fun k hk => ?_, ?_⟩
    ·obtain ⟨k, rfl⟩ : ∃ q, k = q + 1 := ⟨k - 1, by omega⟩
     simp only [impl_isHeap.f]
     rw [if_neg (by simp; omega), if_pos (by simp), size_ok, bind_some, hw, rdT_cons, within_ok, bind_some, if_neg (by simp; omega)]
    ·constructor
     ·intro h; cases h
     ·rintro ⟨n, hn⟩
      exact absurd ⟨hn.parts.1, hn.parts.2.1⟩ hin
/-- The place of a number, from i on. -/
def findT (q : Int) : List S31 → Int → Int
 | [], _ => -1
 | x :: t, i => if x.f1 = q then i else findT q t (i + 1)
theorem findT_iff (q : Int) : ∀ (l : List S31) (i : Int), 0 ≤ i → (0 ≤ findT q l i ↔ q ∈ l.map S31.f1) := by
 intro l
 induction l with
 | nil => intro i _; simp [findT]
 | cons x t ih =>
  intro i hi
  unfold findT
  by_cases h : x.f1 = q
  ·rw [if_pos h]
   simp [h, hi]
  ·rw [if_neg h, ih (i + 1) (by omega)]
   simp [Ne.symm h]
theorem seq_loop (l : List S31) (q : Int) (hl : l.length ≤ 4611686018427387904) : ∀ (m j k : Nat), j + m = l.length → m < k → impl_Twig_83.l0 k l q (l.length : Int) (j : Int) = some (findT q (l.drop j) j) := by
 intro m
 induction m with
 | zero =>
  intro j k hj hk
  obtain ⟨k, rfl⟩ : ∃ q, k = q + 1 := ⟨k - 1, by omega⟩
  simp only [impl_Twig_83.l0]
  rw [if_neg (by omega), List.drop_eq_nil_of_le (by omega)]
  rfl
 | succ m ih =>
  intro j k hj hk
  obtain ⟨k, rfl⟩ : ∃ q, k = q + 1 := ⟨k - 1, by omega⟩
  have hlt : j < l.length := by omega
  simp only [impl_Twig_83.l0]
  rw [if_pos (by omega), if_pos (by omega), if_pos (by omega), rdT_at hlt, wrap_id (by omega) (by omega), show ((j : Int) + 1) = ((j + 1 : Nat) : Int) by omega, ih (j + 1) k (by omega) (by omega), List.drop_eq_getElem_cons hlt]
  unfold impl_seqAt_1.f
  rw [bind_some]
  conv => rhs; unfold findT
  by_cases h : l[j].f1 = q
  ·rw [if_pos (by simp [h]), if_pos h]
  ·rw [if_neg (by simp [h]), if_neg h]
   rfl
theorem seqAt_ok (l : List S31) (q : Int) (hl : l.length ≤ 4611686018427387904) (k : Nat) (hk : l.length < k) : impl_seqAt.f k l q = some (findT q l 0) := by
 unfold impl_seqAt.f impl_Twig_83.f
 have := seq_loop l q hl l.length 0 k (by omega) hk
 rw [show ((0 : Nat) : Int) = 0 from rfl] at this
 rw [this, bind_some]
 rfl
/-- No number twice. -/
def ndT (l : List S31) : Prop := (l.map S31.f1).Nodup
theorem ndT_snoc {l : List S31} {j : Nat} (h : j < l.length) : ndT (l.take (j + 1)) ↔ ndT (l.take j) ∧ ¬ l[j].f1 ∈ (l.take j).map S31.f1 := by
 unfold ndT
 rw [List.take_succ_eq_append_getElem h, List.map_append, map_cons, map_nil, List.nodup_append]
 constructor
 ·rintro ⟨h1, _, h3⟩
  exact ⟨h1, fun hm => h3 _ hm _ (by simp) rfl⟩
 ·rintro ⟨h1, h2⟩
  refine ⟨h1, by simp, ?_⟩
  intro a ha b hb e
  simp at hb
  subst hb
  subst e
  exact h2 ha
theorem ndT_take {l : List S31} (h : ndT l) (j : Nat) : ndT (l.take j) := by
 unfold ndT at *
 rw [List.map_take]
 exact List.Pairwise.sublist (List.take_sublist _ _) h
theorem heap_loop (l : List S31) (hl : l.length ≤ 4611686018427387900) : ∀ (m j : Nat), j + m = l.length → ndT (l.take j) → ∃ b K, (∀ k, K ≤ k → impl_HeapOk.l0 k l l (l.length : Int) (j : Int) = some b) ∧ (b = true ↔ ndT l ∧ ∃ n, Hp l n) := by
 intro m
 induction m with
 | zero =>
  intro j hj hnd
  obtain ⟨b, K, e, hb⟩ := isheap_ok _ l (Nat.le_refl _) hl
  refine ⟨b, K + 1, fun k hk => ?_, ?_⟩
  ·obtain ⟨k, rfl⟩ : ∃ q, k = q + 1 := ⟨k - 1, by omega⟩
   simp only [impl_HeapOk.l0]
   rw [if_neg (by omega), e k (by omega), bind_some]
  ·rw [List.take_of_length_le (by omega)] at hnd
   rw [hb]
   exact ⟨fun h => ⟨hnd, h⟩, fun h => h.2⟩
 | succ m ih =>
  intro j hj hnd
  have hlt : j < l.length := by omega
  have step : ∀ k, l.length < k → impl_HeapOk.l0 (k + 1) l l (l.length : Int) (j : Int) = if 0 ≤ findT l[j].f1 (l.take j) 0 then some false else impl_HeapOk.l0 k l l (l.length : Int) ((j + 1 : Nat) : Int) := by
   intro k hk
   simp only [impl_HeapOk.l0]
   rw [if_pos (by omega), if_pos (by omega), if_pos (by omega), if_pos (by omega), rdT_at hlt, Int.toNat_natCast, seqAt_ok _ _ (by rw [length_take]; omega) k (by rw [length_take]; omega), bind_some, wrap_id (by omega) (by omega)]
   rfl
  by_cases hf : 0 ≤ findT l[j].f1 (l.take j) 0
  ·refine ⟨false, l.length + 2, fun k hk => ?_, ?_⟩
   ·obtain ⟨k, rfl⟩ : ∃ q, k = q + 1 := ⟨k - 1, by omega⟩
    rw [step k (by omega), if_pos hf]
   ·constructor
    ·intro h; cases h
    ·rintro ⟨h, _⟩
     rw [findT_iff _ _ _ (by omega)] at hf
     exact absurd hf ((ndT_snoc hlt).1 (ndT_take h (j + 1))).2
  ·obtain ⟨b, K, e, hb⟩ := ih (j + 1) (by omega) ((ndT_snoc hlt).2 ⟨hnd, by rw [findT_iff _ _ _ (by omega)] at hf; exact hf⟩)
   refine ⟨b, K + l.length + 2, fun k hk => ?_, hb⟩
   obtain ⟨k, rfl⟩ : ∃ q, k = q + 1 := ⟨k - 1, by omega⟩
   rw [step k (by omega), if_neg hf, e k (by omega)]
theorem twice_in (l : List S31) (hl : l.length ≤ 4611686018427387900) (i : Nat) (hi : i < l.length) : ∀ (m p k : Nat), p + m = i → spec_l3Twice.l1 (k + m + 1) l (i : Int) (p : Int) = if l[i].f1 ∈ ((l.take i).drop p).map S31.f1 then some true else spec_l3Twice.l0 k l ((i + 1 : Nat) : Int) := by
 intro m
 induction m with
 | zero =>
  intro p k hp
  rw [spec_l3Twice.l1, if_neg (by omega), List.drop_eq_nil_of_le (by rw [length_take]; omega), if_neg (by simp), wrap_id (by omega) (by omega)]
  rfl
 | succ m ih =>
  intro p k hp
  have hlt : p < (l.take i).length := by rw [length_take]; omega
  rw [spec_l3Twice.l1, if_pos (by omega), if_pos (by omega), if_pos (by omega), if_pos (by omega), if_pos (by omega), rdT_at hi, rdT_at (show p < l.length by omega), wrap_id (by omega) (by omega), show ((p : Int) + 1) = ((p + 1 : Nat) : Int) by omega, show k + (m + 1) = k + m + 1 by omega, ih (p + 1) k (by omega), List.drop_eq_getElem_cons hlt, map_cons, List.getElem_take]
  by_cases h : l[i].f1 = l[p].f1
  ·rw [if_pos h, if_pos (by rw [h]; simp)]
  ·rw [if_neg h]
   simp only [List.mem_cons, h, false_or]
theorem twice_out (l : List S31) (hl : l.length ≤ 4611686018427387900) : ∀ (m i : Nat), i + m = l.length → ndT (l.take i) → ∃ b K, (∀ k, K ≤ k → spec_l3Twice.l0 k l (i : Int) = some b) ∧ (b = false ↔ ndT l) := by
 intro m
 induction m with
 | zero =>
  intro i hi hnd
  refine ⟨false, 1, fun k hk => ?_, ?_⟩
  ·obtain ⟨k, rfl⟩ : ∃ q, k = q + 1 := ⟨k - 1, by omega⟩
   rw [spec_l3Twice.l0, if_neg (by omega)]
  ·rw [List.take_of_length_le (by omega)] at hnd
   simp [hnd]
 | succ m ih =>
  intro i hi hnd
  have hlt : i < l.length := by omega
  have step : ∀ k, spec_l3Twice.l0 (k + i + 2) l (i : Int) = if l[i].f1 ∈ (l.take i).map S31.f1 then some true else spec_l3Twice.l0 k l ((i + 1 : Nat) : Int) := by
   intro k
   have := twice_in l hl i hlt i 0 k (by omega)
   rw [List.drop_zero] at this
   rw [spec_l3Twice.l0, if_pos (by omega)]
   exact this
  by_cases hm : l[i].f1 ∈ (l.take i).map S31.f1
  ·refine ⟨true, i + 2, fun k hk => ?_, ?_⟩
   ·obtain ⟨k, rfl⟩ : ∃ q, k = q + i + 2 := ⟨k - i - 2, by omega⟩
    rw [step, if_pos hm]
   ·constructor
    ·intro h; cases h
    ·intro h
     exact absurd hm ((ndT_snoc hlt).1 (ndT_take h (i + 1))).2
  ·obtain ⟨b, K, e, hb⟩ := ih (i + 1) (by omega) ((ndT_snoc hlt).2 ⟨hnd, hm⟩)
   refine ⟨b, K + i + 2, fun k hk => ?_, hb⟩
   obtain ⟨k, rfl⟩ : ∃ q, k = q + i + 2 := ⟨k - i - 2, by omega⟩
   rw [step, if_neg hm, e k (by omega)]
/-- A heap that the program takes. -/
def OkT (l : List S31) : Prop := l.length ≤ 64 ∧ ndT l ∧ ∃ n, Hp l n
theorem twice_ok (l : List S31) (hl : l.length ≤ 4611686018427387900) : ∃ b K, (∀ k, K ≤ k → spec_l3Twice.f k l = some b) ∧ (b = false ↔ ndT l) := by
 obtain ⟨b, K, e, hb⟩ := twice_out l hl l.length 0 (by omega) (by simp [ndT])
 exact ⟨b, K, fun k hk => e k hk, hb⟩
theorem heapOk_ok (l : List S31) (hl : l.length ≤ 4611686018427387900) : ∃ b K, (∀ k, K ≤ k → spec_HeapOk.f k l = some b ∧ impl_HeapOk.f k l = some b) ∧ (b = true ↔ OkT l) := by
 by_cases h64 : l.length ≤ 64
 ·obtain ⟨b1, K1, e1, h1⟩ := twice_ok l hl
  obtain ⟨r, K2, e2, h2⟩ := srank_ok _ l (Nat.le_refl _) (by omega)
  obtain ⟨b3, K3, e3, h3⟩ := heap_loop l hl l.length 0 (by omega) (by simp [ndT])
  refine ⟨b3, K1 + K2 + K3, fun k hk => ⟨?_, ?_⟩, ?_⟩
  ·unfold spec_HeapOk.f
   rw [if_pos (by omega), e1 k (by omega), bind_some]
   cases b1 with
   | true =>
    rw [if_pos rfl]
    congr 1
    cases b3 with
    | false => rfl
    | true => exact absurd (h1.2 (h3.1 rfl).1) (by simp)
   | false =>
    rw [if_neg (by simp), e2 k (by omega), bind_some]
    congr 1
    rcases h2 with ⟨rfl, hn⟩ | ⟨n, rfl, hn⟩
    ·cases b3 with
     | false => rfl
     | true =>
      obtain ⟨_, n, hh⟩ := h3.1 rfl
      exact absurd hh (hn n)
    ·rw [decide_eq_true (by omega)]
     exact (h3.2 ⟨h1.1 rfl, n, hn⟩).symm
  ·unfold impl_HeapOk.f
   rw [if_neg (by omega)]
   exact e3 k (by omega)
  ·rw [h3]
   exact ⟨fun h => ⟨h64, h⟩, fun h => h.2⟩
 ·refine ⟨false, 0, fun k hk => ⟨?_, ?_⟩, ?_⟩
  ·unfold spec_HeapOk.f
   rw [if_neg (by omega)]
  ·unfold impl_HeapOk.f
   rw [if_pos (by omega)]
  ·constructor
   ·intro h; cases h
   ·intro h
    exact absurd h.1 h64
theorem rdU_at {l : List S81} {j : Nat} (h : j < l.length) : rd_T81 l (j : Int) = l[j] := by
 unfold rd_T81
 rw [Int.toNat_natCast, getD_lt _ h]
/-- The place of a timer, from i on. -/
def findU (q : Int) : List S81 → Int → Int
 | [], _ => -1
 | x :: t, i => if x.f0 = q then i else findU q t (i + 1)
theorem findU_span (q : Int) : ∀ (l : List S81) (i : Int), 0 ≤ i → findU q l i = -1 ∨ (i ≤ findU q l i ∧ findU q l i < i + l.length) := by
 intro l
 induction l with
 | nil => intro i _; exact .inl rfl
 | cons x t ih =>
  intro i hi
  unfold findU
  by_cases h : x.f0 = q
  ·rw [if_pos h, List.length_cons]
   exact .inr (by omega)
  ·rw [if_neg h, List.length_cons]
   rcases ih (i + 1) (by omega) with e | e
   ·exact .inl e
   ·exact .inr (by omega)
theorem timer_loop (l : List S81) (q : Int) (hl : l.length ≤ 4611686018427387904) : ∀ (m j k : Nat), j + m = l.length → m < k → impl_Timer.l0 k l q (l.length : Int) (j : Int) = some (findU q (l.drop j) j) := by
 intro m
 induction m with
 | zero =>
  intro j k hj hk
  obtain ⟨k, rfl⟩ : ∃ q, k = q + 1 := ⟨k - 1, by omega⟩
  simp only [impl_Timer.l0]
  rw [if_neg (by omega), List.drop_eq_nil_of_le (by omega)]
  rfl
 | succ m ih =>
  intro j k hj hk
  obtain ⟨k, rfl⟩ : ∃ q, k = q + 1 := ⟨k - 1, by omega⟩
  have hlt : j < l.length := by omega
  simp only [impl_Timer.l0]
  rw [if_pos (by omega), if_pos (by omega), if_pos (by omega), rdU_at hlt, wrap_id (by omega) (by omega), show ((j : Int) + 1) = ((j + 1 : Nat) : Int) by omega, ih (j + 1) k (by omega) (by omega), List.drop_eq_getElem_cons hlt]
  unfold impl_Timers_at_1.f
  rw [bind_some]
  conv => rhs; unfold findU
  by_cases h : l[j].f0 = q
  ·rw [if_pos (by simp [h]), if_pos h]
  ·rw [if_neg (by simp [h]), if_neg h]
   rfl
theorem at_ok (h : List S31) (l : List S81) (n q : Int) (hl : l.length ≤ 4611686018427387904) (k : Nat) (hk : l.length < k) : impl_Timers_at.f k h l n q = some (findU q l 0) := by
 unfold impl_Timers_at.f impl_Timer.f
 have := timer_loop l q hl l.length 0 k (by omega) hk
 rw [show ((0 : Nat) : Int) = 0 from rfl] at this
 rw [this, bind_some]
 rfl
theorem sat_loop (h : List S31) (l : List S81) (n q : Int) (hl : l.length ≤ 4611686018427387904) : ∀ (m j k : Nat), j + m = l.length → m < k → spec_l4At.l0 k q (j : Int) h l n = some (findU q (l.drop j) j) := by
 intro m
 induction m with
 | zero =>
  intro j k hj hk
  obtain ⟨k, rfl⟩ : ∃ q, k = q + 1 := ⟨k - 1, by omega⟩
  simp only [spec_l4At.l0]
  rw [if_neg (by omega), List.drop_eq_nil_of_le (by omega)]
  rfl
 | succ m ih =>
  intro j k hj hk
  obtain ⟨k, rfl⟩ : ∃ q, k = q + 1 := ⟨k - 1, by omega⟩
  have hlt : j < l.length := by omega
  simp only [spec_l4At.l0]
  rw [if_pos (by omega), if_pos (by omega), rdU_at hlt, wrap_id (by omega) (by omega), show ((j : Int) + 1) = ((j + 1 : Nat) : Int) by omega, ih (j + 1) k (by omega) (by omega), List.drop_eq_getElem_cons hlt]
  conv => rhs; unfold findU
  by_cases h : l[j].f0 = q
  ·rw [if_pos h, if_pos h]
  ·rw [if_neg h, if_neg h]
   rfl
theorem sat_ok (h : List S31) (l : List S81) (n q : Int) (hl : l.length ≤ 4611686018427387904) (k : Nat) (hk : l.length < k) : spec_l4At.f k h l n q = some (findU q l 0) := by
 unfold spec_l4At.f
 have := sat_loop h l n q hl l.length 0 k (by omega) hk
 rw [show ((0 : Nat) : Int) = 0 from rfl] at this
 rw [this]
 rfl
/-- An element of the heap without an armed timer of its time. -/
def badT (l : List S81) (x : S31) : Bool := if findU x.f1 l 0 < 0 then true else if (rd_T81 l (findU x.f1 l 0)).f4 = true then (if (rd_T81 l (findU x.f1 l 0)).f1 = x.f0 then false else true) else true
theorem badC_ok (h : List S31) (l : List S81) (n : Int) (x : S31) (hl : l.length ≤ 4611686018427387904) (k : Nat) (hk : l.length < k) : impl_TimersOk_1.c k x.f0 x.f1 x.f2 h l n = some (badT l x) := by
 unfold impl_TimersOk_1.c badT
 rw [at_ok h l n x.f1 hl k hk, bind_some]
 have hs := findU_span x.f1 l 0 (by omega)
 by_cases h0 : findU x.f1 l 0 < 0
 ·rw [if_pos h0, if_pos h0]
 ·rw [if_neg h0, if_neg h0, if_pos (by omega), if_pos (by omega)]
  by_cases h4 : (rd_T81 l (findU x.f1 l 0)).f4 = true
  ·rw [if_pos h4, if_pos h4]
   by_cases h1 : (rd_T81 l (findU x.f1 l 0)).f1 = x.f0
   ·rw [if_pos h1, if_pos h1]
   ·rw [if_neg h1, if_neg h1]
  ·rw [if_neg h4, if_neg h4]
theorem bad_loop (h : List S31) (l : List S81) (n : Int) (hh : h.length ≤ 4611686018427387904) (hl : l.length ≤ 4611686018427387904) : ∀ (m j : Nat), j + m = h.length → ∃ r K, (∀ k, K ≤ k → impl_TimersOk_1.l0 k h h l n (h.length : Int) (j : Int) = some r) ∧ (decide (0 ≤ r) = (h.drop j).any (badT l)) := by
 intro m
 induction m with
 | zero =>
  intro j hj
  refine ⟨-1, 1, fun k hk => ?_, ?_⟩
  ·obtain ⟨k, rfl⟩ : ∃ q, k = q + 1 := ⟨k - 1, by omega⟩
   simp only [impl_TimersOk_1.l0]
   rw [if_neg (by omega)]
  ·rw [List.drop_eq_nil_of_le (by omega)]
   simp
 | succ m ih =>
  intro j hj
  have hlt : j < h.length := by omega
  have step : ∀ k, l.length < k → impl_TimersOk_1.l0 (k + 1) h h l n (h.length : Int) (j : Int) = if badT l h[j] = true then some (j : Int) else impl_TimersOk_1.l0 k h h l n (h.length : Int) ((j + 1 : Nat) : Int) := by
   intro k hk
   simp only [impl_TimersOk_1.l0]
   rw [if_pos (by omega), if_pos (by omega), if_pos (by omega), rdT_at hlt, badC_ok h l n h[j] hl k hk, bind_some, wrap_id (by omega) (by omega)]
   rfl
  by_cases hb : badT l h[j] = true
  ·refine ⟨j, l.length + 2, fun k hk => ?_, ?_⟩
   ·obtain ⟨k, rfl⟩ : ∃ q, k = q + 1 := ⟨k - 1, by omega⟩
    rw [step k (by omega), if_pos hb]
   ·rw [List.drop_eq_getElem_cons hlt, List.any_cons, hb, decide_eq_true (by omega)]
    rfl
  ·obtain ⟨r, K, e, he⟩ := ih (j + 1) (by omega)
   refine ⟨r, K + l.length + 2, fun k hk => ?_, ?_⟩
   ·obtain ⟨k, rfl⟩ : ∃ q, k = q + 1 := ⟨k - 1, by omega⟩
    rw [step k (by omega), if_neg hb, e k (by omega)]
   ·rw [he, List.drop_eq_getElem_cons hlt, List.any_cons, Bool.eq_false_iff.mpr hb, Bool.false_or]
theorem bad_ok (h : List S31) (l : List S81) (n : Int) (hh : h.length ≤ 4611686018427387904) (hl : l.length ≤ 4611686018427387904) : ∃ K, ∀ k, K ≤ k → impl_TimersOk_1.f k h l n = some (h.any (badT l)) := by
 obtain ⟨r, K, e, he⟩ := bad_loop h l n hh hl h.length 0 (by omega)
 refine ⟨K, fun k hk => ?_⟩
 unfold impl_TimersOk_1.f impl_TimersOk_1.i
 have := e k hk
 rw [show ((0 : Nat) : Int) = 0 from rfl] at this
 rw [this, bind_some]
 rw [List.drop_zero] at he
 rw [← he]
theorem sbad_loop (h : List S31) (l : List S81) (n c : Int) (hh : h.length ≤ 4611686018427387904) (hl : l.length ≤ 4611686018427387904) : ∀ (m j : Nat), j + m = h.length → ∃ K, ∀ k, K ≤ k → spec_TimersOk.l1 k c (j : Int) h l n = some (!(h.drop j).any (badT l) && (c == (h.length : Int))) := by
 intro m
 induction m with
 | zero =>
  intro j hj
  refine ⟨1, fun k hk => ?_⟩
  obtain ⟨k, rfl⟩ : ∃ q, k = q + 1 := ⟨k - 1, by omega⟩
  simp only [spec_TimersOk.l1]
  rw [if_neg (by omega), List.drop_eq_nil_of_le (by omega)]
  simp
 | succ m ih =>
  intro j hj
  have hlt : j < h.length := by omega
  obtain ⟨K, e⟩ := ih (j + 1) (by omega)
  refine ⟨K + l.length + 2, fun k hk => ?_⟩
  obtain ⟨k, rfl⟩ : ∃ q, k = q + 1 := ⟨k - 1, by omega⟩
  simp only [spec_TimersOk.l1]
  rw [if_pos (by omega), if_pos (by omega), rdT_at hlt, sat_ok h l n h[j].f1 hl k (by omega), bind_some, wrap_id (by omega) (by omega), show ((j : Int) + 1) = ((j + 1 : Nat) : Int) by omega, e k (by omega), List.drop_eq_getElem_cons hlt, List.any_cons]
  have hs := findU_span h[j].f1 l 0 (by omega)
  unfold badT
  by_cases h0 : findU h[j].f1 l 0 < 0
  ·rw [if_pos h0, if_pos h0]
   simp
  ·rw [if_neg h0, if_neg h0, if_pos (by omega), if_pos (by omega)]
   by_cases h4 : (rd_T81 l (findU h[j].f1 l 0)).f4 = true
   ·rw [if_pos h4, if_pos h4]
    by_cases h1 : (rd_T81 l (findU h[j].f1 l 0)).f1 = h[j].f0
    ·rw [if_pos h1, if_pos h1, Bool.false_or]
    ·rw [if_neg h1, if_neg h1]
     simp
   ·rw [if_neg h4, if_neg h4]
    simp
/-- A timer behind another one. -/
def tmB (n last : Int) (x : S81) : Bool := decide (last < x.f0) && (decide (x.f0 < n) && ((decide (0 ≤ x.f2) && decide (x.f2 ≤ 2)) && (decide (0 ≤ x.f3) && decide (x.f3 ≤ 99))))
def tmsB (n : Int) : Int → List S81 → Bool
 | _, [] => true
 | last, x :: t => tmB n last x && tmsB n x.f0 t
def armN : List S81 → Int
 | [] => 0
 | x :: t => (if x.f4 = true then 1 else 0) + armN t
theorem it_loop (h : List S31) (l : List S81) (n : Int) (hh : h.length ≤ 2000000) (hl : l.length ≤ 2000000) : ∀ (m j : Nat) (last c : Int), j + m = l.length → 0 ≤ c → c ≤ j →
  ∃ K, ∀ k, K ≤ k → impl_TimersOk.l0 k last c l (l.length : Int) (j : Int) h l n = some (tmsB n last (l.drop j) && (!h.any (badT l) && (c + armN (l.drop j) == (h.length : Int)))) := by
 intro m
 induction m with
 | zero =>
  intro j last c hj h0 h1
  obtain ⟨K, e⟩ := bad_ok h l n (by omega) (by omega)
  refine ⟨K + 1, fun k hk => ?_⟩
  obtain ⟨k, rfl⟩ : ∃ q, k = q + 1 := ⟨k - 1, by omega⟩
  simp only [impl_TimersOk.l0]
  rw [if_neg (by omega), List.drop_eq_nil_of_le (by omega)]
  unfold tmsB armN
  by_cases hc : c = (h.length : Int)
  ·rw [if_pos hc, e k (by omega), bind_some]
   simp [hc]
  ·rw [if_neg hc]
   simp [hc]
 | succ m ih =>
  intro j last c hj h0 h1
  have hlt : j < l.length := by omega
  have hj1 : wrap64 ((j : Int) + 1) = ((j + 1 : Nat) : Int) := by
   rw [wrap_id (by omega) (by omega)]
   omega
  obtain ⟨K, e⟩ := ih (j + 1) l[j].f0 (c + (if l[j].f4 = true then 1 else 0)) (by omega) (by split <;> omega) (by split <;> omega)
  have j2f : ∀ k, 0 < k → impl_TimersOk.j2 k c l (l.length : Int) (j : Int) true h l n l[j].f0 l[j].f1 l[j].f2 l[j].f3 l[j].f4 = some false := by
   intro k hk
   obtain ⟨k, rfl⟩ : ∃ q, k = q + 1 := ⟨k - 1, by omega⟩
   simp [impl_TimersOk.j2]
  have j2t : ∀ k, K < k → impl_TimersOk.j2 k c l (l.length : Int) (j : Int) false h l n l[j].f0 l[j].f1 l[j].f2 l[j].f3 l[j].f4 = some (tmsB n l[j].f0 (l.drop (j + 1)) && (!h.any (badT l) && (c + (if l[j].f4 = true then 1 else 0) + armN (l.drop (j + 1)) == (h.length : Int)))) := by
   intro k hk
   obtain ⟨k, rfl⟩ : ∃ q, k = q + 1 := ⟨k - 1, by omega⟩
   simp only [impl_TimersOk.j2]
   rw [if_neg (by simp), hj1]
   have := e k (by omega)
   by_cases h4 : l[j].f4 = true
   ·rw [if_pos h4] at this
    rw [if_pos h4, wrap_id (by omega) (by omega), this, if_pos h4]
   ·rw [if_neg h4, Int.add_zero] at this
    rw [if_neg h4, this, if_neg h4, Int.add_zero]
  refine ⟨K + 3, fun k hk => ?_⟩
  obtain ⟨k, rfl⟩ : ∃ q, k = q + 1 := ⟨k - 1, by omega⟩
  simp only [impl_TimersOk.l0]
  rw [if_pos (by omega), if_pos (by omega), if_pos (by omega), rdU_at hlt, within_ok, within_ok, bind_some, bind_some, List.drop_eq_getElem_cons hlt]
  unfold tmsB armN tmB
  rw [← Int.add_assoc]
  by_cases a1 : l[j].f0 ≤ last
  ·rw [if_pos a1, j2f k (by omega), decide_eq_false (show ¬ last < l[j].f0 by omega)]
   simp
  ·rw [if_neg a1, decide_eq_true (show last < l[j].f0 by omega)]
   by_cases a2 : l[j].f0 ≥ n
   ·rw [if_pos a2, j2f k (by omega), decide_eq_false (show ¬ l[j].f0 < n by omega)]
    simp
   ·rw [if_neg a2, decide_eq_true (show l[j].f0 < n by omega)]
    by_cases a3 : (decide (0 ≤ l[j].f2) && decide (l[j].f2 ≤ 2)) = true
    ·rw [if_pos a3, a3]
     by_cases a4 : (decide (0 ≤ l[j].f3) && decide (l[j].f3 ≤ 99)) = true
     ·rw [a4, Bool.not_true, j2t k (by omega)]
      simp
     ·rw [Bool.eq_false_iff.mpr a4, Bool.not_false, j2f k (by omega)]
      simp
    ·rw [if_neg a3, j2f k (by omega), Bool.eq_false_iff.mpr a3]
     simp
/-- The number of the timer ahead of a place. -/
def prevT (l : List S81) (j : Nat) : Int := if j = 0 then -1 else (l.getD (j - 1) z81).f0
theorem st_loop (h : List S31) (l : List S81) (n : Int) (hn0 : 0 ≤ n) (hn1 : n ≤ 1000000) (hh : h.length ≤ 2000000) (hl : l.length ≤ 2000000) : ∀ (m j : Nat) (c : Int), j + m = l.length → 0 ≤ c → c ≤ j → -1 ≤ prevT l j →
  ∃ K, ∀ k, K ≤ k → spec_TimersOk.l0 k c (j : Int) h l n = some (tmsB n (prevT l j) (l.drop j) && (!h.any (badT l) && (c + armN (l.drop j) == (h.length : Int)))) := by
 intro m
 induction m with
 | zero =>
  intro j c hj h0 h1 hp
  obtain ⟨K, e⟩ := sbad_loop h l n c (by omega) (by omega) h.length 0 (by omega)
  refine ⟨K + 1, fun k hk => ?_⟩
  obtain ⟨k, rfl⟩ : ∃ q, k = q + 1 := ⟨k - 1, by omega⟩
  simp only [spec_TimersOk.l0]
  have := e k (by omega)
  rw [show ((0 : Nat) : Int) = 0 from rfl, List.drop_zero] at this
  rw [if_neg (by omega), List.drop_eq_nil_of_le (by omega), this]
  unfold tmsB armN
  rw [Int.add_zero, Bool.true_and]
 | succ m ih =>
  intro j c hj h0 h1 hp
  have hlt : j < l.length := by omega
  have hj1 : wrap64 ((j : Int) + 1) = ((j + 1 : Nat) : Int) := by
   rw [wrap_id (by omega) (by omega)]
   omega
  have hprev : prevT l (j + 1) = l[j].f0 := by
   unfold prevT
   rw [if_neg (by omega), Nat.add_sub_cancel, getD_lt _ hlt]
  have j2f : ∀ k, 0 < k → spec_TimersOk.j2 k c (j : Int) true h l n = some false := by
   intro k hk
   obtain ⟨k, rfl⟩ : ∃ q, k = q + 1 := ⟨k - 1, by omega⟩
   simp [spec_TimersOk.j2]
  have l4 : spec_l4Timer.f l[j].f0 l[j].f1 l[j].f2 l[j].f3 l[j].f4 n = some ((decide (0 ≤ l[j].f0) && decide (l[j].f0 < n)) && ((decide (0 ≤ l[j].f2) && decide (l[j].f2 ≤ 2)) && (decide (0 ≤ l[j].f3) && decide (l[j].f3 ≤ 99)))) := by
   unfold spec_l4Timer.f
   rw [wrap_id (by omega) (by omega), l1In_ok, l1In_ok, l1In_ok, bind_some, bind_some, bind_some]
   have e : decide (l[j].f0 ≤ n - 1) = decide (l[j].f0 < n) := by
    rw [Bool.eq_iff_iff, decide_eq_true_iff, decide_eq_true_iff]
    omega
   rw [e]
   by_cases a : (decide (0 ≤ l[j].f0) && decide (l[j].f0 < n)) = true
   ·rw [if_pos a, a, Bool.true_and]
    by_cases b : (decide (0 ≤ l[j].f2) && decide (l[j].f2 ≤ 2)) = true
    ·rw [if_pos b, b, Bool.true_and]
    ·rw [if_neg b, Bool.eq_false_iff.mpr b, Bool.false_and]
   ·rw [if_neg a, Bool.eq_false_iff.mpr a, Bool.false_and]
  have fin : ∀ (K : Nat) (b2 : Bool), (b2 = true ↔ l[j].f0 ≤ prevT l j) → (0 ≤ l[j].f0 → ∀ k, K < k → spec_TimersOk.j2 k c (j : Int) false h l n = some (tmsB n l[j].f0 (l.drop (j + 1)) && (!h.any (badT l) && (c + (if l[j].f4 = true then 1 else 0) + armN (l.drop (j + 1)) == (h.length : Int))))) →
    ∀ k, K < k → (if ((decide (0 ≤ l[j].f0) && decide (l[j].f0 < n)) && ((decide (0 ≤ l[j].f2) && decide (l[j].f2 ≤ 2)) && (decide (0 ≤ l[j].f3) && decide (l[j].f3 ≤ 99)))) = true then spec_TimersOk.j2 k c (j : Int) b2 h l n else spec_TimersOk.j2 k c (j : Int) true h l n) = some ((tmB n (prevT l j) l[j] && tmsB n l[j].f0 (l.drop (j + 1))) && (!h.any (badT l) && (c + ((if l[j].f4 = true then 1 else 0) + armN (l.drop (j + 1))) == (h.length : Int)))) := by
   intro K b2 hb2 hj2 k hk
   rw [← Int.add_assoc]
   by_cases a : ((decide (0 ≤ l[j].f0) && decide (l[j].f0 < n)) && ((decide (0 ≤ l[j].f2) && decide (l[j].f2 ≤ 2)) && (decide (0 ≤ l[j].f3) && decide (l[j].f3 ≤ 99)))) = true
   ·rw [if_pos a]
    have a' := a
    simp only [Bool.and_eq_true, decide_eq_true_iff] at a'
    cases b2 with
    | true =>
     have hle := hb2.1 rfl
     have : tmB n (prevT l j) l[j] = false := by
      unfold tmB
      rw [decide_eq_false (by omega), Bool.false_and]
     rw [j2f k (by omega), this]
     simp
    | false =>
     have hle : ¬ l[j].f0 ≤ prevT l j := fun e => by have := hb2.2 e; cases this
     have : tmB n (prevT l j) l[j] = true := by
      unfold tmB
      simp only [Bool.and_eq_true, decide_eq_true_iff]
      omega
     rw [hj2 a'.1.1 k hk, this, Bool.true_and]
   ·rw [if_neg a, j2f k (by omega)]
    have : tmB n (prevT l j) l[j] = false := by
     rw [← Bool.not_eq_true]
     intro e
     apply a
     unfold tmB at e
     simp only [Bool.and_eq_true, decide_eq_true_iff] at e ⊢
     omega
    rw [this]
    simp
  by_cases hpos : 0 ≤ l[j].f0
  ·obtain ⟨K, e⟩ := ih (j + 1) (c + (if l[j].f4 = true then 1 else 0)) (by omega) (by split <;> omega) (by split <;> omega) (by rw [hprev]; omega)
   rw [hprev] at e
   have j2t : ∀ k, K < k → spec_TimersOk.j2 k c (j : Int) false h l n = some (tmsB n l[j].f0 (l.drop (j + 1)) && (!h.any (badT l) && (c + (if l[j].f4 = true then 1 else 0) + armN (l.drop (j + 1)) == (h.length : Int)))) := by
    intro k hk
    obtain ⟨k, rfl⟩ : ∃ q, k = q + 1 := ⟨k - 1, by omega⟩
    simp only [spec_TimersOk.j2]
    rw [if_neg (by simp), if_pos (by omega), if_pos (by omega), rdU_at hlt, hj1]
    have := e k (by omega)
    by_cases h4 : l[j].f4 = true
    ·rw [if_pos h4] at this
     rw [if_pos h4, wrap_id (by omega) (by omega), this, if_pos h4]
    ·rw [if_neg h4, Int.add_zero] at this
     rw [if_neg h4, this, if_neg h4, Int.add_zero]
   refine ⟨K + 2, fun k hk => ?_⟩
   obtain ⟨k, rfl⟩ : ∃ q, k = q + 1 := ⟨k - 1, by omega⟩
   simp only [spec_TimersOk.l0]
   rw [if_pos (by omega), if_pos (by omega), rdU_at hlt, l4, bind_some, List.drop_eq_getElem_cons hlt]
   unfold tmsB armN
   by_cases hz : j = 0
   ·subst hz
    rw [if_neg (show ¬ ((0 : Nat) : Int) > 0 by omega)]
    exact fin K false (by unfold prevT; rw [if_pos rfl]; constructor <;> intro q <;> first | cases q | omega) (fun _ => j2t) k (by omega)
   ·have hw : wrap64 ((j : Int) - 1) = ((j - 1 : Nat) : Int) := by
     rw [wrap_id (by omega) (by omega)]
     omega
    have hp1 : prevT l j = l[j - 1].f0 := by
     unfold prevT
     rw [if_neg hz, getD_lt _ (by omega)]
    rw [if_pos (show (j : Int) > 0 by omega), hw, if_pos (show (0 : Int) ≤ ((j - 1 : Nat) : Int) by omega), if_pos (show ((j - 1 : Nat) : Int) < (l.length : Int) by omega), rdU_at (show j - 1 < l.length by omega)]
    exact fin K _ (by rw [hp1, decide_eq_true_iff]) (fun _ => j2t) k (by omega)
  ·refine ⟨2, fun k hk => ?_⟩
   obtain ⟨k, rfl⟩ : ∃ q, k = q + 1 := ⟨k - 1, by omega⟩
   simp only [spec_TimersOk.l0]
   rw [if_pos (by omega), if_pos (by omega), rdU_at hlt, l4, bind_some, List.drop_eq_getElem_cons hlt, decide_eq_false hpos, Bool.false_and, Bool.false_and, if_neg (by simp), j2f k (by omega)]
   unfold tmsB tmB
   rw [decide_eq_false (show ¬ prevT l j < l[j].f0 by omega)]
   simp
theorem timersOk_ok (h : List S31) (l : List S81) (n : Int) (hh : h.length ≤ 2000000) (hl : l.length ≤ 2000000) : ∃ b K, ∀ k, K ≤ k → spec_TimersOk.f k h l n = some b ∧ impl_TimersOk.f k h l n = some b := by
 obtain ⟨b1, K1, e1, h1⟩ := heapOk_ok h (by omega)
 have fs : ∀ k, 0 < k → spec_TimersOk.j0 k true h l n = some false := by
  intro k hk
  obtain ⟨k, rfl⟩ : ∃ q, k = q + 1 := ⟨k - 1, by omega⟩
  simp [spec_TimersOk.j0]
 have fi : ∀ k, 0 < k → impl_TimersOk.j0 k true h l n = some false := by
  intro k hk
  obtain ⟨k, rfl⟩ : ∃ q, k = q + 1 := ⟨k - 1, by omega⟩
  simp [impl_TimersOk.j0]
 by_cases hn : (decide (0 ≤ n) && decide (n ≤ 1000000)) = true
 ·have hn' := hn
  simp only [Bool.and_eq_true, decide_eq_true_iff] at hn'
  by_cases h64 : (l.length : Int) > 64
  ·refine ⟨false, K1 + 1, fun k hk => ⟨?_, ?_⟩⟩
   ·unfold spec_TimersOk.f
    rw [(e1 k (by omega)).1, bind_some]
    cases b1
    ·rw [if_neg (by simp), fs k (by omega)]
    ·rw [if_pos rfl, if_pos h64, fs k (by omega)]
   ·unfold impl_TimersOk.f
    rw [within_ok, bind_some, if_pos hn, if_pos h64, fi k (by omega)]
  ·cases b1 with
   | false =>
    refine ⟨false, K1 + 1, fun k hk => ⟨?_, ?_⟩⟩
    ·unfold spec_TimersOk.f
     rw [(e1 k (by omega)).1, bind_some, if_neg (by simp), fs k (by omega)]
    ·unfold impl_TimersOk.f
     rw [within_ok, bind_some, if_pos hn, if_neg h64, (e1 k (by omega)).2, bind_some, Bool.not_false, fi k (by omega)]
   | true =>
    obtain ⟨K2, e2⟩ := it_loop h l n hh hl l.length 0 (-1) 0 (by omega) (by omega) (by omega)
    obtain ⟨K3, e3⟩ := st_loop h l n hn'.1 hn'.2 hh hl l.length 0 0 (by omega) (by omega) (by omega) (by unfold prevT; rw [if_pos rfl]; omega)
    have hp0 : prevT l 0 = -1 := by unfold prevT; rw [if_pos rfl]
    rw [hp0] at e3
    refine ⟨tmsB n (-1) (l.drop 0) && (!h.any (badT l) && (0 + armN (l.drop 0) == (h.length : Int))), K1 + K2 + K3 + 1, fun k hk => ⟨?_, ?_⟩⟩
    ·obtain ⟨k, rfl⟩ : ∃ q, k = q + 1 := ⟨k - 1, by omega⟩
     unfold spec_TimersOk.f
     rw [(e1 _ (by omega)).1, bind_some, if_pos rfl, if_neg h64, l1In_ok, bind_some, hn]
     simp only [spec_TimersOk.j0]
     rw [if_neg (by simp)]
     exact e3 k (by omega)
    ·obtain ⟨k, rfl⟩ : ∃ q, k = q + 1 := ⟨k - 1, by omega⟩
     unfold impl_TimersOk.f
     rw [within_ok, bind_some, if_pos hn, if_neg h64, (e1 _ (by omega)).2, bind_some]
     simp only [impl_TimersOk.j0]
     rw [if_neg (by simp)]
     exact e2 k (by omega)
 ·refine ⟨false, K1 + 1, fun k hk => ⟨?_, ?_⟩⟩
  ·unfold spec_TimersOk.f
   rw [(e1 k (by omega)).1, bind_some]
   cases b1
   ·rw [if_neg (by simp), fs k (by omega)]
   ·rw [if_pos rfl]
    by_cases h64 : (l.length : Int) > 64
    ·rw [if_pos h64, fs k (by omega)]
    ·rw [if_neg h64, l1In_ok, bind_some, Bool.eq_false_iff.mpr hn, Bool.not_false, fs k (by omega)]
  ·unfold impl_TimersOk.f
   rw [within_ok, bind_some, if_neg hn, fi k (by omega)]
theorem nextDue_ok (h : List S31) (l : List S81) (n : Int) (hh : h.length ≤ 2000000) (hl : l.length ≤ 2000000) : ∃ b K, ∀ k, K ≤ k → spec_NextDue.f k h l n = some b ∧ impl_NextDue.f k h l n = some b := by
 obtain ⟨b, K, e⟩ := timersOk_ok h l n hh hl
 unfold spec_NextDue.f impl_NextDue.f impl_Timers_nextDue.f
 cases b with
 | false => exact ⟨9223372036854775807, K, fun k hk => by rw [(e k hk).1, (e k hk).2]; simp⟩
 | true =>
  by_cases hz : (h.length : Int) = 0
  ·exact ⟨9223372036854775807, K, fun k hk => by rw [(e k hk).1, (e k hk).2]; simp [hz]⟩
  ·exact ⟨(rd_T31 h 0).f0, K, fun k hk => by
    rw [(e k hk).1, (e k hk).2, bind_some, bind_some, if_pos rfl, if_pos rfl, if_neg hz, if_pos (by omega), bind_some]
    exact ⟨rfl, rfl⟩⟩
theorem sz_TwigS (l : List S69) (left : Int) (hl : 0 ≤ left) (hl2 : left ≤ 1048576) (hn : l.length ≤ 9223372036854775807) : laws_szTwigS.f l left = some (if (l.length : Int) ≤ left then left - (l.length : Int) else -1) := by
 unfold laws_szTwigS.f
 rw [wrap_id (by omega) (by omega)]
 by_cases h : (l.length : Int) ≤ left
 ·rw [if_neg (by omega), if_pos h]
 ·rw [if_pos (by omega), if_neg h]
/-- An element of the statements as one of the program. -/
def ofTwigS (x : S69) : S31 := ⟨x.f0, x.f1, x.f2⟩
theorem to_TwigS (l : List S69) (hn : l.length ≤ 1048576) : ∃ K, ∀ k, K ≤ k → laws_toTwigS.f k l = some (l.map ofTwigS) := by
 obtain ⟨K, e⟩ := ev_copy (fun k a b i => laws_toTwigS.l0 k a b i) ofTwigS z69 (fun k x0 x3 i => by
  show laws_toTwigS.l0 (k + 1) x0 x3 i = _
  simp only [laws_toTwigS.l0, laws_toTwig.f, bind_some]
  rfl) l z31 (by omega)
 refine ⟨K, fun k hk => ?_⟩
 unfold laws_toTwigS.f
 rw [if_pos (by omega), if_pos (by omega), Int.toNat_natCast]
 exact e k hk
theorem sz_TimerS (l : List S103) (left : Int) (hl : 0 ≤ left) (hl2 : left ≤ 1048576) (hn : l.length ≤ 9223372036854775807) : laws_szTimerS.f l left = some (if (l.length : Int) ≤ left then left - (l.length : Int) else -1) := by
 unfold laws_szTimerS.f
 rw [wrap_id (by omega) (by omega)]
 by_cases h : (l.length : Int) ≤ left
 ·rw [if_neg (by omega), if_pos h]
 ·rw [if_pos (by omega), if_neg h]
/-- An element of the statements as one of the program. -/
def ofTimerS (x : S103) : S81 := ⟨x.f0, x.f1, x.f2, x.f3, x.f4⟩
theorem to_TimerS (l : List S103) (hn : l.length ≤ 1048576) : ∃ K, ∀ k, K ≤ k → laws_toTimerS.f k l = some (l.map ofTimerS) := by
 obtain ⟨K, e⟩ := ev_copy (fun k a b i => laws_toTimerS.l0 k a b i) ofTimerS z103 (fun k x0 x3 i => by
  show laws_toTimerS.l0 (k + 1) x0 x3 i = _
  simp only [laws_toTimerS.l0, laws_toTimer.f, bind_some]
  rfl) l z81 (by omega)
 refine ⟨K, fun k hk => ?_⟩
 unfold laws_toTimerS.f
 rw [if_pos (by omega), if_pos (by omega), Int.toNat_natCast]
 exact e k hk
theorem eq_TwigS (l : List S31) (hn : l.length ≤ 4611686018427387904) : ∃ K, ∀ k, K ≤ k → laws_eqTwigS.f k l l = some true := by
 obtain ⟨K, e⟩ := ev_same (fun k a b i => laws_eqTwigS.l0 k a b i) l (fun k i h0 h1 => by
  show laws_eqTwigS.l0 (k + 1) l l i = laws_eqTwigS.l0 k l l (wrap64 (i + 1))
  generalize hw : laws_eqTwigS.l0 k l l (wrap64 (i + 1)) = R
  rw [laws_eqTwigS.l0, hw]
  simp [laws_eqTwig.f, h0, h1]) (fun k i h => by
  show laws_eqTwigS.l0 (k + 1) l l i = _
  rw [laws_eqTwigS.l0, if_neg h]) hn
 refine ⟨K, fun k hk => ?_⟩
 unfold laws_eqTwigS.f
 rw [if_pos rfl]
 exact e k hk
theorem eq_TimerS (l : List S81) (hn : l.length ≤ 4611686018427387904) : ∃ K, ∀ k, K ≤ k → laws_eqTimerS.f k l l = some true := by
 obtain ⟨K, e⟩ := ev_same (fun k a b i => laws_eqTimerS.l0 k a b i) l (fun k i h0 h1 => by
  show laws_eqTimerS.l0 (k + 1) l l i = laws_eqTimerS.l0 k l l (wrap64 (i + 1))
  generalize hw : laws_eqTimerS.l0 k l l (wrap64 (i + 1)) = R
  rw [laws_eqTimerS.l0, hw]
  simp [laws_eqTimer.f, h0, h1]) (fun k i h => by
  show laws_eqTimerS.l0 (k + 1) l l i = _
  rw [laws_eqTimerS.l0, if_neg h]) hn
 refine ⟨K, fun k hk => ?_⟩
 unfold laws_eqTimerS.f
 rw [if_pos rfl]
 exact e k hk
theorem FnExactNextDue : ∀ (l0_0 : List (S69)) (l0_1 : List (S103)) (a0_2 : Int), l0_0.length ≤ 9223372036854775807 → l0_1.length ≤ 9223372036854775807 → ((∀ x_ ∈ l0_0, (wf64 x_.f0 ∧ wf64 x_.f1 ∧ wf64 x_.f2)) ∧ (∀ x_ ∈ l0_1, (wf64 x_.f0 ∧ wf64 x_.f1 ∧ wf64 x_.f2 ∧ wf64 x_.f3 ∧ True)) ∧ wf64 a0_2) → ∃ k, laws_FnExactNextDue.f k l0_0 l0_1 a0_2 = some true := by
 intro l ls n hn hs _
 by_cases h : l.length ≤ 1048576
 ·by_cases h2 : (ls.length : Int) ≤ 1048576 - (l.length : Int)
  ·have hX : (l.map ofTwigS).length = l.length := List.length_map ..
   have hY : (ls.map ofTimerS).length = ls.length := List.length_map ..
   obtain ⟨b, K0, e0⟩ := nextDue_ok (l.map ofTwigS) (ls.map ofTimerS) n (by omega) (by omega)
   obtain ⟨K, q⟩ := both (to_TwigS l h) (both (to_TimerS ls (by omega)) (both ⟨K0, e0⟩ (both (eq_TwigS (l.map ofTwigS) (by omega)) (eq_TimerS (ls.map ofTimerS) (by omega)))))
   obtain ⟨a1, a2, ⟨a3, a4⟩, a5, a6⟩ := q K (by omega)
   have z1 : ¬ (1048576 - (l.length : Int) < 0) := by omega
   have z4 : ¬ (1048576 - (l.length : Int) - (ls.length : Int) < 0) := by omega
   refine ⟨K, ?_⟩
   clear q e0 hX hY
   unfold laws_FnExactNextDue.f laws_szTimers.f
   rw [sz_TwigS l 1048576 (by omega) (by omega) hn, if_pos (by omega)]
   simp only [bind_some, z1, if_false]
   rw [sz_TimerS ls _ (by omega) (by omega) hs, if_pos h2]
   simp only [bind_some, z4, if_false, laws_toTimers.f, laws_eqTimers.f, a1, a2, a3, a4, a5, a6, if_true, ne_eq, not_true_eq_false]
  ·refine ⟨0, ?_⟩
   have z1 : ¬ (1048576 - (l.length : Int) < 0) := by omega
   unfold laws_FnExactNextDue.f laws_szTimers.f
   rw [sz_TwigS l 1048576 (by omega) (by omega) hn, if_pos (by omega)]
   simp only [bind_some, z1, if_false]
   rw [sz_TimerS ls _ (by omega) (by omega) hs, if_neg h2]
   simp
 ·refine ⟨0, ?_⟩
  unfold laws_FnExactNextDue.f laws_szTimers.f
  rw [sz_TwigS l 1048576 (by omega) (by omega) hn, if_neg (by omega)]
  simp
end Go.Proofs.Ytljfflhbabkbgaa.Pure
