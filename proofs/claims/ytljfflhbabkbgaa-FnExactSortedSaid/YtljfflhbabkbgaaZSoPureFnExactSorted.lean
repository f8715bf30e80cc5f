/- Texts of the claim of the law FnExactSorted, made smaller by a program of this session: what the claim does not use is left out. No condition. -/
import Derived.Test.YtljfflhbabkbgaaZSoOpen
import Derived.Test.YtljfflhbabkbgaaZSoPLib
import Derived.Test.YtljfflhbabkbgaaZSoPFnExactSortedx9
namespace Go.Proofs.Ytljfflhbabkbgaa.Pure
open Go.RowKit Go.Proofs.YtljfflhbabkbgaaOpen Go.Proofs.YtljfflhbabkbgaaPLib Go.Proofs.Ytljfflhbabkbgaa.PFnExactSorted Go.Proofs.YtljfflhbabkbgaaW.PrintWords Go.Proofs.YtljfflhbabkbgaaW.PrintLast
open List (set_cons_zero map_cons map_nil length_drop length_take)
set_option linter.unusedVariables false
set_option linter.unusedSimpArgs false
/-- Ahead of: by the time, then by the number. -/
def ah (a b : S31) : Bool := decide (a.f0 < b.f0) || (decide (a.f0 = b.f0) && decide (a.f1 < b.f1))
theorem ah_iff {a b : S31} : ah a b = true ↔ a.f0 < b.f0 ∨ (a.f0 = b.f0 ∧ a.f1 < b.f1) := by simp [ah]
theorem ah_irrefl (a : S31) : ah a a = false := by
 rw [← Bool.not_eq_true, ah_iff]
 omega
theorem ah_asymm {a b : S31} (h : ah a b = true) : ah b a = false := by
 rw [← Bool.not_eq_true]
 rw [ah_iff] at *
 omega
/-- What counts of an element. -/
def keyT (x : S31) : Int × Int := (x.f0, x.f1)
theorem ah_key {a b c d : S31} (h : keyT a = keyT c) (k : keyT b = keyT d) : ah a b = ah c d := by
 unfold keyT at h k
 injection h with h1 h2
 injection k with k1 k2
 unfold ah
 rw [h1, h2, k1, k2]
/-- A root is ahead of the first of a list, where it has one. -/
def ahd (x : S31) (l : List S31) : Prop := ∀ y t, l = y :: t → ah x y = true
/-- A leftist heap and its rank. -/
inductive Hp : List S31 → Nat → Prop
 | nil : Hp [] 0
 | node {x : S31} {l r : List S31} {a b : Nat} : Hp l a → Hp r b → b ≤ a → x.f2 = (l.length : Int) → ahd x l → ahd x r → Hp (x :: (l ++ r)) (b + 1)
theorem Hp.cons {x : S31} {t : List S31} {n : Nat} (h : Hp (x :: t) n) : ∃ l r a b, t = l ++ r ∧ n = b + 1 ∧ Hp l a ∧ Hp r b ∧ b ≤ a ∧ x.f2 = (l.length : Int) ∧ ahd x l ∧ ahd x r := by
 generalize e : x :: t = h0 at h
 cases h with
 | nil => cases e
 | node h1 h2 h3 h4 h5 h6 =>
  injection e with e1 e2
  subst e1
  exact ⟨_, _, _, _, e2, rfl, h1, h2, h3, h4, h5, h6⟩
theorem Hp.one (x : S31) (h : x.f2 = 0) : Hp [x] 1 := Hp.node (l := []) (r := []) Hp.nil Hp.nil (Nat.le_refl 0) h (fun _ _ e => by cases e) (fun _ _ e => by cases e)
theorem Hp.rank_nil {n : Nat} (h : Hp [] n) : n = 0 := by cases h; rfl
/-- The left and the right heap. -/
theorem Hp.parts {x : S31} {t : List S31} {n : Nat} (h : Hp (x :: t) n) : 0 ≤ x.f2 ∧ x.f2 ≤ (t.length : Int) ∧ ∃ a b, n = b + 1 ∧ Hp (t.take x.f2.toNat) a ∧ Hp (t.drop x.f2.toNat) b ∧ b ≤ a ∧ ahd x (t.take x.f2.toNat) ∧ ahd x (t.drop x.f2.toNat) := by
 obtain ⟨l, r, a, b, rfl, rfl, h1, h2, h3, h4, h5, h6⟩ := h.cons
 have e : x.f2.toNat = l.length := by omega
 refine ⟨by omega, by rw [h4, List.length_append]; omega, a, b, rfl, ?_, ?_, h3, ?_, ?_⟩ <;> rw [e] <;> simp [h1, h2, h5, h6]
theorem Hp.uniq : ∀ {h : List S31} {n m : Nat}, Hp h n → Hp h m → n = m := by
 intro h
 generalize hN : h.length = N
 induction N using Nat.strongRecOn generalizing h with
 | _ N ih =>
  intro n m h1 h2
  cases h with
  | nil => rw [h1.rank_nil, h2.rank_nil]
  | cons x t =>
   obtain ⟨_, _, a, b, rfl, _, hb, _⟩ := h1.parts
   obtain ⟨_, _, a', b', rfl, _, hb', _⟩ := h2.parts
   have := ih (t.drop x.f2.toNat).length (by rw [length_drop]; simp at hN; omega) rfl hb hb'
   omega
theorem pow_step (b : Nat) : 2 ^ (b + 1) = 2 * 2 ^ b := by rw [Nat.pow_succ, Nat.mul_comm]
/-- A heap of rank n has at least 2^n - 1 elements. -/
theorem Hp.big : ∀ {h : List S31} {n : Nat}, Hp h n → 2 ^ n ≤ h.length + 1 := by
 intro h n hh
 induction hh with
 | nil => exact Nat.le_refl _
 | @node x l r a b h1 h2 h3 h4 h5 h6 i1 i2 =>
  have : 2 ^ b ≤ 2 ^ a := Nat.pow_le_pow_right (by omega) h3
  rw [pow_step, List.length_cons, List.length_append]
  omega
theorem Hp.rank_le {h : List S31} {n : Nat} (hh : Hp h n) : n ≤ h.length := by
 have h1 := hh.big
 have h2 : n < 2 ^ n := Nat.lt_two_pow_self
 omega
/-- An element without the number of what lies left. -/
def stripT (x : S31) : S31 := ⟨x.f0, x.f1, 0⟩
def leT (a b : S31) : Bool := !ah b a
theorem leT_trans (a b c : S31) (h : leT a b = true) (k : leT b c = true) : leT a c = true := by
 simp only [leT, Bool.not_eq_true', ← Bool.not_eq_true, ah_iff] at *
 omega
theorem leT_total (a b : S31) : (leT a b || leT b a) = true := by
 rw [Bool.or_eq_true]
 simp only [leT, Bool.not_eq_true', ← Bool.not_eq_true, ah_iff] at *
 omega
/-- All elements in order. -/
def sortT (h : List S31) : List S31 := (h.map stripT).mergeSort leT
theorem sortT_perm (h : List S31) : (sortT h).Perm (h.map stripT) := List.mergeSort_perm _ _
theorem sortT_length (h : List S31) : (sortT h).length = h.length := by
 have := (sortT_perm h).length_eq
 simpa using this
/-- Strictly ascending. -/
def Asc (l : List S31) : Prop := l.Pairwise (fun a b => ah a b = true)
theorem Asc.uniq {l m : List S31} (h : Asc l) (k : Asc m) (p : l.Perm m) : l = m :=
 List.Perm.eq_of_pairwise (le := fun a b => ah a b = true) (fun a b _ _ h1 h2 => by rw [ah_asymm h1] at h2; cases h2) h k p
theorem pairwise_and {α : Type} {R S : α → α → Prop} : ∀ {l : List α}, l.Pairwise R → l.Pairwise S → l.Pairwise (fun a b => R a b ∧ S a b) := by
 intro l
 induction l with
 | nil => intro _ _; exact List.Pairwise.nil
 | cons x t ih =>
  intro h k
  rw [List.pairwise_cons] at *
  exact ⟨fun a ha => ⟨h.1 a ha, k.1 a ha⟩, ih h.2 k.2⟩
theorem nodup_f1 {l : List S31} (h : (l.map S31.f1).Nodup) : l.Pairwise (fun a b => a.f1 ≠ b.f1) := by
 rw [List.Nodup, List.pairwise_map] at h
 exact h
theorem asc_of {l : List S31} (h : l.Pairwise (fun a b => leT a b = true)) (k : (l.map S31.f1).Nodup) : Asc l := by
 refine (pairwise_and h (nodup_f1 k)).imp ?_
 rintro a b ⟨h1, h2⟩
 simp only [leT, Bool.not_eq_true', ← Bool.not_eq_true, ah_iff] at *
 omega
theorem strip_f1 (h : List S31) : (h.map stripT).map S31.f1 = h.map S31.f1 := by
 rw [List.map_map]
 rfl
theorem sortT_asc {h : List S31} (k : (h.map S31.f1).Nodup) : Asc (sortT h) := by
 refine asc_of (List.pairwise_mergeSort leT_trans leT_total _) ?_
 have := (sortT_perm h).map S31.f1
 rw [strip_f1] at this
 exact this.nodup_iff.2 k
/-- The one list that is ascending and has the elements. -/
theorem sortT_of {h l : List S31} (k : (h.map S31.f1).Nodup) (ha : Asc l) (hp : l.Perm (h.map stripT)) : l = sortT h :=
 ha.uniq (sortT_asc k) (hp.trans (sortT_perm h).symm)
theorem Asc.filter {l : List S31} (p : S31 → Bool) (h : Asc l) : Asc (l.filter p) := List.Pairwise.filter _ h
theorem rdT_cons (x : S31) (t : List S31) : rd_T31 (x :: t) 0 = x := rfl
theorem rdT_at {l : List S31} {j : Nat} (h : j < l.length) : rd_T31 l (j : Int) = l[j] := by
 unfold rd_T31
 rw [Int.toNat_natCast, getD_lt _ h]
theorem l1In_ok (a lo hi : Int) : spec_l1In.f a lo hi = some (decide (lo ≤ a) && decide (a ≤ hi)) := by
 unfold spec_l1In.f
 by_cases h : lo ≤ a <;> simp [h]
theorem within_ok (a lo hi : Int) : impl_within.f a lo hi = some (decide (lo ≤ a) && decide (a ≤ hi)) := by
 unfold impl_within.f
 by_cases h : lo ≤ a <;> simp [h]
theorem cut_head (x : S31) (t : List S31) (h0 : 0 ≤ x.f2) (h2 : x.f2 ≤ 4611686018427387904) : (wrap64 (1 + x.f2)).toNat = x.f2.toNat + 1 ∧ wrap64 (1 + x.f2) = 1 + x.f2 := by
 rw [wrap_id (by omega) (by omega)]
 omega
theorem parts_ok {x : S31} {t : List S31} (h0 : 0 ≤ x.f2) (h1 : x.f2 ≤ (t.length : Int)) (hn : t.length ≤ 4611686018427387904) : impl_parts.f (x :: t) = some (t.take x.f2.toNat, t.drop x.f2.toNat) := by
 obtain ⟨e1, e2⟩ := cut_head x t h0 (by omega)
 unfold impl_parts.f
 rw [rdT_cons, e1, e2, if_pos (by simp), if_pos (by omega), if_pos (by simp; omega), if_pos (by omega)]
 rfl
theorem sparts_ok {x : S31} {t : List S31} (h0 : 0 ≤ x.f2) (h1 : x.f2 ≤ (t.length : Int)) (hn : t.length ≤ 4611686018427387904) : spec_l3Parts.f (x :: t) = some (t.take x.f2.toNat, t.drop x.f2.toNat, true) := by
 obtain ⟨e1, e2⟩ := cut_head x t h0 (by omega)
 unfold spec_l3Parts.f
 rw [rdT_cons, e1, e2, if_pos (by simp), l1In_ok, Option.bind_some, if_pos (by
  rw [List.length_cons, wrap_id (by omega) (by omega)]
  simp
  omega), if_pos (by omega), if_pos (by simp; omega), if_pos (by omega)]
 rfl
theorem sparts_no {x : S31} {t : List S31} (h : ¬ (0 ≤ x.f2 ∧ x.f2 ≤ (t.length : Int))) (hn : t.length ≤ 4611686018427387904) : spec_l3Parts.f (x :: t) = some ([], [], false) := by
 unfold spec_l3Parts.f
 rw [rdT_cons, if_pos (by simp), l1In_ok, Option.bind_some, if_neg (by
  rw [List.length_cons, wrap_id (by omega) (by omega)]
  simp
  omega)]
theorem sahead_ok (a b : S31) : spec_l3Ahead.f a.f0 a.f1 a.f2 b.f0 b.f1 b.f2 = some (ah a b) := by
 unfold spec_l3Ahead.f ah
 by_cases h : a.f0 < b.f0
 ·simp [h]
 ·by_cases e : a.f0 = b.f0 <;> simp [h, e]
/-- What the comparison of two elements tells. -/
def cmpT (a b : S31) : Int := if a.f0 < b.f0 then -1 else if b.f0 < a.f0 then 1 else if a.f1 < b.f1 then -1 else if b.f1 < a.f1 then 1 else 0
theorem cmpT_neg (a b : S31) : decide (cmpT a b < 0) = ah a b := by
 rw [Bool.eq_iff_iff, ah_iff, decide_eq_true_iff]
 unfold cmpT
 split
 ·simp; omega
 ·split
  ·simp; omega
  ·split
   ·simp; omega
   ·split <;> simp <;> omega
theorem compare1_ok (a b : Int) : cmp_Compare_int64.f a b = some (if a < b then -1 else if b < a then 1 else 0) := by
 unfold cmp_Compare_int64.f cmp_isNaN_int64.f
 simp only [bne_self_eq_false, Option.bind_some]
 rw [if_neg (by simp), if_neg (by simp)]
 by_cases h : a < b
 ·rw [if_pos h, if_pos h]
 ·rw [if_neg h, if_neg h]
  by_cases h2 : b < a
  ·rw [if_pos (by omega), if_pos h2]
  ·rw [if_neg (by omega), if_neg h2]
theorem or_ok (p q : Int) (k : Nat) : cmp_Or_int.f (k + 3) [p, q] = some (if p = 0 then q else p) := by
 unfold cmp_Or_int.f
 have w1 : wrap64 (0 + 1) = 1 := by unfold wrap64; omega
 have w2 : wrap64 (1 + 1) = 2 := by unfold wrap64; omega
 have r0 : rd [p, q] 0 = p := rfl
 have r1 : rd [p, q] 1 = q := rfl
 simp only [cmp_Or_int.l0]
 rw [r0, w1, w2, r1]
 by_cases hp : p = 0
 ·by_cases hq : q = 0
  ·simp [hp, hq]
  ·simp [hp, hq]
 ·simp [hp]
theorem compare_ok (a b : S31) (k : Nat) (hk : 3 ≤ k) : impl_Twig_compare.f k a.f0 a.f1 a.f2 b.f0 b.f1 b.f2 = some (cmpT a b) := by
 obtain ⟨k, rfl⟩ : ∃ m, k = m + 3 := ⟨k - 3, by omega⟩
 unfold impl_Twig_compare.f
 rw [compare1_ok, compare1_ok, Option.bind_some, Option.bind_some, or_ok, Option.bind_some]
 unfold cmpT
 congr 1
 by_cases h : a.f0 < b.f0
 ·simp [h]
 ·by_cases h2 : b.f0 < a.f0 <;> simp [h, h2]
theorem size_ok (l : List S31) : impl_Twig_85.f l = some (l.length : Int) := rfl
/-- The head of a list, where there is one, is behind the root. -/
def okh (x : S31) : List S31 → Bool
 | [] => true
 | y :: _ => ah x y
theorem okh_iff {x : S31} {l : List S31} : okh x l = true ↔ ahd x l := by
 cases l with
 | nil => simp [okh, ahd]
 | cons y t =>
  unfold okh ahd
  constructor
  ·intro h z s e
   injection e with e1 _
   subst e1
   exact h
  ·intro h
   exact h y t rfl
theorem srank_cons (k : Nat) (x : S31) (t : List S31) (h0 : 0 ≤ x.f2) (h1 : x.f2 ≤ (t.length : Int)) (hn : t.length ≤ 4611686018427387904) :
  spec_l3Rank.f (k + 1) (x :: t) = spec_l3Rank.j0 k (t.take x.f2.toNat) (t.drop x.f2.toNat) (!(okh x (t.take x.f2.toNat) && okh x (t.drop x.f2.toNat))) := by
 simp only [spec_l3Rank.f]
 rw [sparts_ok h0 h1 hn, Option.bind_some, if_neg (by simp; omega)]
 generalize t.take x.f2.toNat = l
 generalize t.drop x.f2.toNat = r
 rw [rdT_cons, if_pos rfl]
 cases l with
 | nil =>
  cases r with
  | nil => simp [okh]
  | cons z r =>
   simp [okh, rdT_cons, sahead_ok]
 | cons y l =>
  rw [rdT_cons, sahead_ok]
  cases r with
  | nil => cases e : ah x y <;> simp [okh, e]
  | cons z r =>
   rw [rdT_cons, sahead_ok]
   cases e : ah x y <;> simp [okh, e]
theorem srank_ok : ∀ (N : Nat) (h : List S31), h.length ≤ N → N ≤ 4611686018427387904 → ∃ r K, (∀ k, K ≤ k → spec_l3Rank.f k h = some r) ∧ ((r = -1 ∧ ∀ n, ¬ Hp h n) ∨ ∃ n : Nat, r = (n : Int) ∧ Hp h n) := by
 intro N
 induction N with
 | zero =>
  intro h hl hN
  obtain rfl : h = [] := List.length_eq_zero_iff.1 (by omega)
  refine ⟨0, 1, fun k hk => ?_, .inr ⟨0, rfl, Hp.nil⟩⟩
  obtain ⟨k, rfl⟩ : ∃ q, k = q + 1 := ⟨k - 1, by omega⟩
  simp [spec_l3Rank.f]
 | succ N ih =>
  intro h hl hN
  cases h with
  | nil =>
   refine ⟨0, 1, fun k hk => ?_, .inr ⟨0, rfl, Hp.nil⟩⟩
   obtain ⟨k, rfl⟩ : ∃ q, k = q + 1 := ⟨k - 1, by omega⟩
   simp [spec_l3Rank.f]
  | cons x t =>
   rw [List.length_cons] at hl
   by_cases hin : 0 ≤ x.f2 ∧ x.f2 ≤ (t.length : Int)
   ·have hs := fun k => srank_cons k x t hin.1 hin.2 (by omega)
    cases hb : (okh x (t.take x.f2.toNat) && okh x (t.drop x.f2.toNat)) with
    | false =>
     refine ⟨-1, 2, fun k hk => ?_, .inl ⟨rfl, fun n hn => ?_⟩⟩
     ·obtain ⟨k, rfl⟩ : ∃ q, k = q + 2 := ⟨k - 2, by omega⟩
      rw [hs, hb]
      simp [spec_l3Rank.j0]
     ·obtain ⟨_, _, _, _, _, _, _, _, h5, h6⟩ := hn.parts
      rw [okh_iff.2 h5, okh_iff.2 h6] at hb
      cases hb
    | true =>
     obtain ⟨a, K1, e1, c1⟩ := ih (t.take x.f2.toNat) (by rw [length_take]; omega) (by omega)
     obtain ⟨b, K2, e2, c2⟩ := ih (t.drop x.f2.toNat) (by rw [length_drop]; omega) (by omega)
     rw [Bool.and_eq_true] at hb
     have step : ∀ k, K1 + K2 + 2 ≤ k → spec_l3Rank.f k (x :: t) = if a < 0 then some (-1) else (if b < 0 then some (-1) else (if a < b then some (-1) else some (wrap64 (b + 1)))) := by
      intro k hk
      obtain ⟨k, rfl⟩ : ∃ q, k = q + 2 := ⟨k - 2, by omega⟩
      rw [hs, hb.1, hb.2]
      simp only [spec_l3Rank.j0]
      rw [if_neg (by simp), e1 k (by omega), e2 k (by omega), Option.bind_some, Option.bind_some]
     rcases c1 with ⟨rfl, c1⟩ | ⟨na, rfl, c1⟩
     ·refine ⟨-1, K1 + K2 + 2, fun k hk => by rw [step k hk, if_pos (by omega)], .inl ⟨rfl, fun n hn => ?_⟩⟩
      obtain ⟨_, _, p, q, _, hp, _⟩ := hn.parts
      exact c1 p hp
     ·rcases c2 with ⟨rfl, c2⟩ | ⟨nb, rfl, c2⟩
      ·refine ⟨-1, K1 + K2 + 2, fun k hk => by rw [step k hk, if_neg (by omega), if_pos (by omega)], .inl ⟨rfl, fun n hn => ?_⟩⟩
       obtain ⟨_, _, p, q, _, _, hq, _⟩ := hn.parts
       exact c2 q hq
      ·by_cases hab : na < nb
       ·refine ⟨-1, K1 + K2 + 2, fun k hk => by rw [step k hk, if_neg (by omega), if_neg (by omega), if_pos (by omega)], .inl ⟨rfl, fun n hn => ?_⟩⟩
        obtain ⟨_, _, p, q, _, hp, hq, hpq, _⟩ := hn.parts
        have := hp.uniq c1
        have := hq.uniq c2
        omega
       ·have hr := c2.rank_le
        rw [length_drop] at hr
        refine ⟨(nb : Int) + 1, K1 + K2 + 2, fun k hk => by rw [step k hk, if_neg (by omega), if_neg (by omega), if_neg (by omega), wrap_id (by omega) (by omega)], .inr ⟨nb + 1, by omega, ?_⟩⟩
        have := Hp.node (x := x) c1 c2 (by omega) (by rw [length_take]; omega) (okh_iff.1 hb.1) (okh_iff.1 hb.2)
        rwa [List.take_append_drop] at this
   ·refine ⟨-1, 2, fun k hk => ?_, .inl ⟨rfl, fun n hn => hin ⟨hn.parts.1, hn.parts.2.1⟩⟩⟩
    obtain ⟨k, rfl⟩ : ∃ q, k = q + 2 := ⟨k - 2, by omega⟩
    simp only [spec_l3Rank.f]
    rw [sparts_no hin (by omega), Option.bind_some, if_neg (by simp; omega), if_neg (by simp)]
    simp [spec_l3Rank.j0]
theorem rank_loop : ∀ (n : Nat) (h : List S31) (c : Int), Hp h n → h.length ≤ 4611686018427387904 → 0 ≤ c → c + n ≤ 4611686018427387904 → ∀ k, n < k → impl_rank.l0 k h c = some (c + n) := by
 intro n
 induction n with
 | zero =>
  intro h c hh hl h0 h1 k hk
  obtain ⟨k, rfl⟩ : ∃ q, k = q + 1 := ⟨k - 1, by omega⟩
  have : h = [] := by
   cases h with
   | nil => rfl
   | cons x t =>
    obtain ⟨_, _, _, _, e, _⟩ := hh.parts
    omega
  subst this
  simp [impl_rank.l0]
 | succ n ih =>
  intro h c hh hl h0 h1 k hk
  obtain ⟨k, rfl⟩ : ∃ q, k = q + 1 := ⟨k - 1, by omega⟩
  cases h with
  | nil => have := hh.rank_nil; omega
  | cons x t =>
   obtain ⟨p0, p1, a, b, e, _, hb, _⟩ := hh.parts
   obtain rfl : n = b := by omega
   rw [List.length_cons] at hl
   simp only [impl_rank.l0]
   rw [if_pos (by simp), parts_ok p0 p1 (by omega), Option.bind_some, wrap_id (by omega) (by omega), ih _ _ hb (by rw [length_drop]; omega) (by omega) (by omega) k (by omega)]
   congr 1
   omega
theorem rank_hp {h : List S31} {n : Nat} (hh : Hp h n) (hn : h.length ≤ 4611686018427387903) : ∀ k, n < k → impl_rank.f k h = some (n : Int) := by
 intro k hk
 unfold impl_rank.f
 have := hh.rank_le
 rw [rank_loop n h 0 hh (by omega) (by omega) (by omega) k hk]
 congr 1
 omega
theorem ne1 (l : List S31) : ¬ ((l.length : Int) + 1 = 0) := by omega
theorem isheap_j0 (k : Nat) (x : S31) (t l r : List S31) (hk : 3 ≤ k) : impl_isHeap.j0 (k + 1) (x :: t) l r false = some (okh x l && okh x r) := by
 simp only [impl_isHeap.j0]
 rw [if_neg (by simp), rdT_cons]
 cases l with
 | nil =>
  cases r with
  | nil => simp [ne1, okh]
  | cons z r =>
   rw [rdT_cons, compare_ok x z k hk]
   simp [ne1, okh, cmpT_neg]
 | cons y l =>
  rw [rdT_cons, compare_ok x y k hk]
  have e := cmpT_neg x y
  cases r with
  | nil =>
   by_cases c : cmpT x y < 0
   ·simp [c] at e
    simp [ne1, okh, ← e, c]
   ·simp [c] at e
    simp [ne1, okh, ← e, c]
  | cons z r =>
   rw [rdT_cons, compare_ok x z k hk]
   by_cases c : cmpT x y < 0
   ·simp [c] at e
    simp [ne1, okh, ← e, c, cmpT_neg]
   ·simp [c] at e
    simp [ne1, okh, e, c]
theorem isheap_j1 (k : Nat) (x l r : List S31) : impl_isHeap.j0 (k + 1) x l r true = some false := by
 simp [impl_isHeap.j0]
theorem isheap_ok : ∀ (N : Nat) (h : List S31), h.length ≤ N → N ≤ 4611686018427387900 → ∃ b K, (∀ k, K ≤ k → impl_isHeap.f k h = some b) ∧ (b = true ↔ ∃ n, Hp h n) := by
 intro N
 have nil : ∃ b K, (∀ k, K ≤ k → impl_isHeap.f k [] = some b) ∧ (b = true ↔ ∃ n, Hp [] n) := by
  refine ⟨true, 1, fun k hk => ?_, by simp; exact ⟨0, Hp.nil⟩⟩
  obtain ⟨k, rfl⟩ : ∃ q, k = q + 1 := ⟨k - 1, by omega⟩
  simp [impl_isHeap.f]
 induction N with
 | zero =>
  intro h hl hN
  obtain rfl : h = [] := List.length_eq_zero_iff.1 (by omega)
  exact nil
 | succ N ih =>
  intro h hl hN
  cases h with
  | nil => exact nil
  | cons x t =>
   rw [List.length_cons] at hl
   have hw : wrap64 (((x :: t).length : Int) - 1) = (t.length : Int) := by
    rw [List.length_cons, wrap_id (by omega) (by omega)]
    omega
   by_cases hin : 0 ≤ x.f2 ∧ x.f2 ≤ (t.length : Int)
   ·obtain ⟨a, K1, e1, c1⟩ := ih (t.take x.f2.toNat) (by rw [length_take]; omega) (by omega)
    obtain ⟨b, K2, e2, c2⟩ := ih (t.drop x.f2.toNat) (by rw [length_drop]; omega) (by omega)
    have step : ∀ k, K1 + K2 ≤ k → impl_isHeap.f (k + 1) (x :: t) = if a = true then (if b = true then ((impl_rank.f k (t.take x.f2.toNat)).bind fun p => ((impl_rank.f k (t.drop x.f2.toNat)).bind fun q => impl_isHeap.j0 k (x :: t) (t.take x.f2.toNat) (t.drop x.f2.toNat) (decide (p < q)))) else impl_isHeap.j0 k (x :: t) (t.take x.f2.toNat) (t.drop x.f2.toNat) true) else impl_isHeap.j0 k (x :: t) (t.take x.f2.toNat) (t.drop x.f2.toNat) true := by
     intro k hk
     simp only [impl_isHeap.f]
     rw [if_neg (by simp; omega), if_pos (by simp), size_ok, Option.bind_some, hw, rdT_cons, within_ok, Option.bind_some, if_pos (by simp; omega), parts_ok hin.1 hin.2 (by omega), Option.bind_some]
     simp only
     rw [e1 k (by omega), Option.bind_some]
     by_cases ha : a = true
     ·rw [if_pos ha, if_pos ha, e2 k (by omega), Option.bind_some]
     ·rw [if_neg ha, if_neg ha]
    by_cases ha : a = true
    ·by_cases hb : b = true
     ·obtain ⟨na, h1⟩ := c1.1 ha
      obtain ⟨nb, h2⟩ := c2.1 hb
      have ha2 := h1.rank_le
      have hb2 := h2.rank_le
      rw [length_take] at ha2
      rw [length_drop] at hb2
      have step2 : ∀ k, K1 + K2 + na + nb + 5 ≤ k → impl_isHeap.f (k + 1) (x :: t) = impl_isHeap.j0 k (x :: t) (t.take x.f2.toNat) (t.drop x.f2.toNat) (decide ((na : Int) < nb)) := by
       intro k hk
       rw [step k (by omega), if_pos ha, if_pos hb, rank_hp h1 (by rw [length_take]; omega) k (by omega), rank_hp h2 (by rw [length_drop]; omega) k (by omega), Option.bind_some, Option.bind_some]
      by_cases hab : na < nb
      ·refine ⟨false, K1 + K2 + na + nb + 7, fun k hk => ?_, ?_⟩
       ·obtain ⟨k, rfl⟩ : ∃ q, k = q + 2 := ⟨k - 2, by omega⟩
        rw [step2 _ (by omega), decide_eq_true (by omega), isheap_j1]
       ·constructor
        ·intro h; cases h
        ·rintro ⟨n, hn⟩
         obtain ⟨_, _, p, q, _, hp, hq, hpq, _⟩ := hn.parts
         have := hp.uniq h1
         have := hq.uniq h2
         omega
      ·refine ⟨okh x (t.take x.f2.toNat) && okh x (t.drop x.f2.toNat), K1 + K2 + na + nb + 7, fun k hk => ?_, ?_⟩
       ·obtain ⟨k, rfl⟩ : ∃ q, k = q + 2 := ⟨k - 2, by omega⟩
        rw [step2 _ (by omega), decide_eq_false (by omega), isheap_j0 _ _ _ _ _ (by omega)]
       ·rw [Bool.and_eq_true, okh_iff, okh_iff]
        constructor
        ·rintro ⟨g1, g2⟩
         have := Hp.node (x := x) h1 h2 (by omega) (by rw [length_take]; omega) g1 g2
         rw [List.take_append_drop] at this
         exact ⟨_, this⟩
        ·rintro ⟨n, hn⟩
         obtain ⟨_, _, p, q, _, _, _, _, g1, g2⟩ := hn.parts
         exact ⟨g1, g2⟩
     ·refine ⟨false, K1 + K2 + 2, fun k hk => ?_, ?_⟩
      ·obtain ⟨k, rfl⟩ : ∃ q, k = q + 2 := ⟨k - 2, by omega⟩
       rw [step _ (by omega), if_pos ha, if_neg hb, isheap_j1]
      ·constructor
       ·intro h; cases h
       ·rintro ⟨n, hn⟩
        obtain ⟨_, _, p, q, _, hp, hq, _⟩ := hn.parts
        exact absurd (c2.2 ⟨_, hq⟩) hb
    ·refine ⟨false, K1 + K2 + 2, fun k hk => ?_, ?_⟩
     ·obtain ⟨k, rfl⟩ : ∃ q, k = q + 2 := ⟨k - 2, by omega⟩
      rw [step _ (by omega), if_neg ha, isheap_j1]
     ·constructor
      ·intro h; cases h
      ·rintro ⟨n, hn⟩
       obtain ⟨_, _, p, q, _, hp, hq, _⟩ := hn.parts
       exact absurd (c1.2 ⟨_, hp⟩) ha
   ·refine ⟨false, 1, fun k hk => ?_, ?_⟩
    ·obtain ⟨k, rfl⟩ : ∃ q, k = q + 1 := ⟨k - 1, by omega⟩
     simp only [impl_isHeap.f]
     rw [if_neg (by simp; omega), if_pos (by simp), size_ok, Option.bind_some, hw, rdT_cons, within_ok, Option.bind_some, if_neg (by simp; omega)]
    ·constructor
     ·intro h; cases h
     ·rintro ⟨n, hn⟩
      exact absurd ⟨hn.parts.1, hn.parts.2.1⟩ hin
/-- The place of a number, from i on. -/
def findT (q : Int) : List S31 → Int → Int
 | [], _ => -1
 | x :: t, i => if x.f1 = q then i else findT q t (i + 1)
theorem findT_iff (q : Int) : ∀ (l : List S31) (i : Int), 0 ≤ i → (0 ≤ findT q l i ↔ q ∈ l.map S31.f1) := by
 intro l
 induction l with
 | nil => intro i _; simp [findT]
 | cons x t ih =>
  intro i hi
  unfold findT
  by_cases h : x.f1 = q
  ·rw [if_pos h]
   simp [h, hi]
  ·rw [if_neg h, ih (i + 1) (by omega)]
   simp [Ne.symm h]
theorem seq_loop (l : List S31) (q : Int) (hl : l.length ≤ 4611686018427387904) : ∀ (m j k : Nat), j + m = l.length → m < k → impl_Twig_83.l0 k l q (l.length : Int) (j : Int) = some (findT q (l.drop j) j) := by
 intro m
 induction m with
 | zero =>
  intro j k hj hk
  obtain ⟨k, rfl⟩ : ∃ q, k = q + 1 := ⟨k - 1, by omega⟩
  simp only [impl_Twig_83.l0]
  rw [if_neg (by omega), List.drop_eq_nil_of_le (by omega)]
  rfl
 | succ m ih =>
  intro j k hj hk
  obtain ⟨k, rfl⟩ : ∃ q, k = q + 1 := ⟨k - 1, by omega⟩
  have hlt : j < l.length := by omega
  simp only [impl_Twig_83.l0]
  rw [if_pos (by omega), if_pos (by omega), if_pos (by omega), rdT_at hlt, wrap_id (by omega) (by omega), show ((j : Int) + 1) = ((j + 1 : Nat) : Int) by omega, ih (j + 1) k (by omega) (by omega), List.drop_eq_getElem_cons hlt]
  unfold impl_seqAt_1.f
  rw [Option.bind_some]
  conv => rhs; unfold findT
  by_cases h : l[j].f1 = q
  ·rw [if_pos (by simp [h]), if_pos h]
  ·rw [if_neg (by simp [h]), if_neg h]
   rfl
theorem seqAt_ok (l : List S31) (q : Int) (hl : l.length ≤ 4611686018427387904) (k : Nat) (hk : l.length < k) : impl_seqAt.f k l q = some (findT q l 0) := by
 unfold impl_seqAt.f impl_Twig_83.f
 have := seq_loop l q hl l.length 0 k (by omega) hk
 rw [show ((0 : Nat) : Int) = 0 from rfl] at this
 rw [this, Option.bind_some]
 rfl
/-- No number twice. -/
def ndT (l : List S31) : Prop := (l.map S31.f1).Nodup
theorem ndT_snoc {l : List S31} {j : Nat} (h : j < l.length) : ndT (l.take (j + 1)) ↔ ndT (l.take j) ∧ ¬ l[j].f1 ∈ (l.take j).map S31.f1 := by
 unfold ndT
 rw [List.take_succ_eq_append_getElem h, List.map_append, map_cons, map_nil, List.nodup_append]
 constructor
 ·rintro ⟨h1, _, h3⟩
  exact ⟨h1, fun hm => h3 _ hm _ (by simp) rfl⟩
 ·rintro ⟨h1, h2⟩
  refine ⟨h1, by simp, ?_⟩
  intro a ha b hb e
  simp at hb
  subst hb
  subst e
  exact h2 ha
theorem ndT_take {l : List S31} (h : ndT l) (j : Nat) : ndT (l.take j) := by
 unfold ndT at *
 rw [List.map_take]
 exact List.Pairwise.sublist (List.take_sublist _ _) h
theorem heap_loop (l : List S31) (hl : l.length ≤ 4611686018427387900) : ∀ (m j : Nat), j + m = l.length → ndT (l.take j) → ∃ b K, (∀ k, K ≤ k → impl_HeapOk.l0 k l l (l.length : Int) (j : Int) = some b) ∧ (b = true ↔ ndT l ∧ ∃ n, Hp l n) := by
 intro m
 induction m with
 | zero =>
  intro j hj hnd
  obtain ⟨b, K, e, hb⟩ := isheap_ok _ l (Nat.le_refl _) hl
  refine ⟨b, K + 1, fun k hk => ?_, ?_⟩
  ·obtain ⟨k, rfl⟩ : ∃ q, k = q + 1 := ⟨k - 1, by omega⟩
   simp only [impl_HeapOk.l0]
   rw [if_neg (by omega), e k (by omega), Option.bind_some]
  ·rw [List.take_of_length_le (by omega)] at hnd
   rw [hb]
   exact ⟨fun h => ⟨hnd, h⟩, fun h => h.2⟩
 | succ m ih =>
  intro j hj hnd
  have hlt : j < l.length := by omega
  have step : ∀ k, l.length < k → impl_HeapOk.l0 (k + 1) l l (l.length : Int) (j : Int) = if 0 ≤ findT l[j].f1 (l.take j) 0 then some false else impl_HeapOk.l0 k l l (l.length : Int) ((j + 1 : Nat) : Int) := by
   intro k hk
   simp only [impl_HeapOk.l0]
   rw [if_pos (by omega), if_pos (by omega), if_pos (by omega), if_pos (by omega), rdT_at hlt, Int.toNat_natCast, seqAt_ok _ _ (by rw [length_take]; omega) k (by rw [length_take]; omega), Option.bind_some, wrap_id (by omega) (by omega)]
   rfl
  by_cases hf : 0 ≤ findT l[j].f1 (l.take j) 0
  ·refine ⟨false, l.length + 2, fun k hk => ?_, ?_⟩
   ·obtain ⟨k, rfl⟩ : ∃ q, k = q + 1 := ⟨k - 1, by omega⟩
    rw [step k (by omega), if_pos hf]
   ·constructor
    ·intro h; cases h
    ·rintro ⟨h, _⟩
     rw [findT_iff _ _ _ (by omega)] at hf
     exact absurd hf ((ndT_snoc hlt).1 (ndT_take h (j + 1))).2
  ·obtain ⟨b, K, e, hb⟩ := ih (j + 1) (by omega) ((ndT_snoc hlt).2 ⟨hnd, by rw [findT_iff _ _ _ (by omega)] at hf; exact hf⟩)
   refine ⟨b, K + l.length + 2, fun k hk => ?_, hb⟩
   obtain ⟨k, rfl⟩ : ∃ q, k = q + 1 := ⟨k - 1, by omega⟩
   rw [step k (by omega), if_neg hf, e k (by omega)]
theorem twice_in (l : List S31) (hl : l.length ≤ 4611686018427387900) (i : Nat) (hi : i < l.length) : ∀ (m p k : Nat), p + m = i → spec_l3Twice.l1 (k + m + 1) l (i : Int) (p : Int) = if l[i].f1 ∈ ((l.take i).drop p).map S31.f1 then some true else spec_l3Twice.l0 k l ((i + 1 : Nat) : Int) := by
 intro m
 induction m with
 | zero =>
  intro p k hp
  rw [spec_l3Twice.l1, if_neg (by omega), List.drop_eq_nil_of_le (by rw [length_take]; omega), if_neg (by simp), wrap_id (by omega) (by omega)]
  rfl
 | succ m ih =>
  intro p k hp
  have hlt : p < (l.take i).length := by rw [length_take]; omega
  rw [spec_l3Twice.l1, if_pos (by omega), if_pos (by omega), if_pos (by omega), if_pos (by omega), if_pos (by omega), rdT_at hi, rdT_at (show p < l.length by omega), wrap_id (by omega) (by omega), show ((p : Int) + 1) = ((p + 1 : Nat) : Int) by omega, show k + (m + 1) = k + m + 1 by omega, ih (p + 1) k (by omega), List.drop_eq_getElem_cons hlt, map_cons, List.getElem_take]
  by_cases h : l[i].f1 = l[p].f1
  ·rw [if_pos h, if_pos (by rw [h]; simp)]
  ·rw [if_neg h]
   simp only [List.mem_cons, h, false_or]
theorem twice_out (l : List S31) (hl : l.length ≤ 4611686018427387900) : ∀ (m i : Nat), i + m = l.length → ndT (l.take i) → ∃ b K, (∀ k, K ≤ k → spec_l3Twice.l0 k l (i : Int) = some b) ∧ (b = false ↔ ndT l) := by
 intro m
 induction m with
 | zero =>
  intro i hi hnd
  refine ⟨false, 1, fun k hk => ?_, ?_⟩
  ·obtain ⟨k, rfl⟩ : ∃ q, k = q + 1 := ⟨k - 1, by omega⟩
   rw [spec_l3Twice.l0, if_neg (by omega)]
  ·rw [List.take_of_length_le (by omega)] at hnd
   simp [hnd]
 | succ m ih =>
  intro i hi hnd
  have hlt : i < l.length := by omega
  have step : ∀ k, spec_l3Twice.l0 (k + i + 2) l (i : Int) = if l[i].f1 ∈ (l.take i).map S31.f1 then some true else spec_l3Twice.l0 k l ((i + 1 : Nat) : Int) := by
   intro k
   have := twice_in l hl i hlt i 0 k (by omega)
   rw [List.drop_zero] at this
   rw [spec_l3Twice.l0, if_pos (by omega)]
   exact this
  by_cases hm : l[i].f1 ∈ (l.take i).map S31.f1
  ·refine ⟨true, i + 2, fun k hk => ?_, ?_⟩
   ·obtain ⟨k, rfl⟩ : ∃ q, k = q + i + 2 := ⟨k - i - 2, by omega⟩
    rw [step, if_pos hm]
   ·constructor
    ·intro h; cases h
    ·intro h
     exact absurd hm ((ndT_snoc hlt).1 (ndT_take h (i + 1))).2
  ·obtain ⟨b, K, e, hb⟩ := ih (i + 1) (by omega) ((ndT_snoc hlt).2 ⟨hnd, hm⟩)
   refine ⟨b, K + i + 2, fun k hk => ?_, hb⟩
   obtain ⟨k, rfl⟩ : ∃ q, k = q + i + 2 := ⟨k - i - 2, by omega⟩
   rw [step, if_neg hm, e k (by omega)]
/-- A heap that the program takes. -/
def OkT (l : List S31) : Prop := l.length ≤ 64 ∧ ndT l ∧ ∃ n, Hp l n
theorem twice_ok (l : List S31) (hl : l.length ≤ 4611686018427387900) : ∃ b K, (∀ k, K ≤ k → spec_l3Twice.f k l = some b) ∧ (b = false ↔ ndT l) := by
 obtain ⟨b, K, e, hb⟩ := twice_out l hl l.length 0 (by omega) (by simp [ndT])
 exact ⟨b, K, fun k hk => e k hk, hb⟩
theorem heapOk_ok (l : List S31) (hl : l.length ≤ 4611686018427387900) : ∃ b K, (∀ k, K ≤ k → spec_HeapOk.f k l = some b ∧ impl_HeapOk.f k l = some b) ∧ (b = true ↔ OkT l) := by
 by_cases h64 : l.length ≤ 64
 ·obtain ⟨b1, K1, e1, h1⟩ := twice_ok l hl
  obtain ⟨r, K2, e2, h2⟩ := srank_ok _ l (Nat.le_refl _) (by omega)
  obtain ⟨b3, K3, e3, h3⟩ := heap_loop l hl l.length 0 (by omega) (by simp [ndT])
  refine ⟨b3, K1 + K2 + K3, fun k hk => ⟨?_, ?_⟩, ?_⟩
  ·unfold spec_HeapOk.f
   rw [if_pos (by omega), e1 k (by omega), Option.bind_some]
   cases b1 with
   | true =>
    rw [if_pos rfl]
    congr 1
    cases b3 with
    | false => rfl
    | true => exact absurd (h1.2 (h3.1 rfl).1) (by simp)
   | false =>
    rw [if_neg (by simp), e2 k (by omega), Option.bind_some]
    congr 1
    rcases h2 with ⟨rfl, hn⟩ | ⟨n, rfl, hn⟩
    ·cases b3 with
     | false => rfl
     | true =>
      obtain ⟨_, n, hh⟩ := h3.1 rfl
      exact absurd hh (hn n)
    ·rw [decide_eq_true (by omega)]
     exact (h3.2 ⟨h1.1 rfl, n, hn⟩).symm
  ·unfold impl_HeapOk.f
   rw [if_neg (by omega)]
   exact e3 k (by omega)
  ·rw [h3]
   exact ⟨fun h => ⟨h64, h⟩, fun h => h.2⟩
 ·refine ⟨false, 0, fun k hk => ⟨?_, ?_⟩, ?_⟩
  ·unfold spec_HeapOk.f
   rw [if_neg (by omega)]
  ·unfold impl_HeapOk.f
   rw [if_pos (by omega)]
  ·constructor
   ·intro h; cases h
   ·intro h
    exact absurd h.1 h64
theorem ltOf_ah (x y : S31) : Go.Proofs.ltOf sortCmp x y = ah x y := by
 rw [sort_lt]
 unfold ah
 rw [Bool.eq_iff_iff]
 simp
theorem sortS_perm (l : List S31) : (slices_Sort.f l).Perm l := by
 have h := (Go.Sort.pdq_sorts (Go.Proofs.ltOf sortCmp) sort_swo l.toArray 0 l.length (Go.Lib.bitLen l.length) true true (Nat.zero_le _) (by simp) (Or.inl rfl)).1
 have h3 := h.2.2
 have hs := h.1
 have e1 : ∀ (a : Array S31) (n : Nat), a.size = n → a.extract 0 n = a := fun a n h => by subst h; simp
 rw [e1 _ _ (by rw [hs]; simp), e1 _ _ (by simp)] at h3
 unfold slices_Sort.f
 simpa using h3
theorem sortS_le (l : List S31) : (slices_Sort.f l).Pairwise (fun a b => leT a b = true) := by
 have h := Go.Sort.pdq_sorts (Go.Proofs.ltOf sortCmp) sort_swo l.toArray 0 l.length (Go.Lib.bitLen l.length) true true (Nat.zero_le _) (by simp) (Or.inl rfl)
 have hs := h.1.1
 have h2 := h.2
 rw [List.pairwise_iff_getElem]
 intro i j hi hj hij
 have hsz : (Go.Sort.pdq (Go.Proofs.ltOf sortCmp) l.toArray 0 l.length (Go.Lib.bitLen l.length) true true).size = l.length := by rw [hs]; simp
 unfold slices_Sort.f at hi hj ⊢
 rw [Array.length_toList] at hi hj
 have h3 := h2 i j (Nat.zero_le _) hij (by omega)
 rw [getElem!_pos _ i hi, getElem!_pos _ j hj, ltOf_ah] at h3
 unfold leT
 rw [Array.getElem_toList, Array.getElem_toList, h3]
 rfl
theorem zero_loop (n : Nat) (hn : n ≤ 4611686018427387900) : ∀ (m k : Nat) (A ys : List S31), ys.length = m → A.length + m = n → m < k → impl_Sorted.l0 k (A ++ ys) (n : Int) (A.length : Int) = some (A ++ ys.map stripT) := by
 intro m
 induction m with
 | zero =>
  intro k A ys hy hA hk
  obtain ⟨k, rfl⟩ : ∃ q, k = q + 1 := ⟨k - 1, by omega⟩
  obtain rfl : ys = [] := List.length_eq_zero_iff.1 hy
  simp only [impl_Sorted.l0]
  rw [if_neg (by omega)]
  simp
 | succ m ih =>
  intro k A ys hy hA hk
  obtain ⟨k, rfl⟩ : ∃ q, k = q + 1 := ⟨k - 1, by omega⟩
  obtain ⟨y, ys, rfl⟩ : ∃ y t, ys = y :: t := by
   cases ys with
   | nil => simp at hy
   | cons y t => exact ⟨y, t, rfl⟩
  have hlt : A.length < (A ++ y :: ys).length := by rw [List.length_append, List.length_cons]; omega
  have hr : rd_T31 (A ++ y :: ys) (A.length : Int) = y := by
   rw [rdT_at hlt]
   simp
  simp only [impl_Sorted.l0]
  rw [if_pos (by omega), if_pos (by omega), if_pos (by omega), wrap_id (by omega) (by omega), hr, Int.toNat_natCast, List.set_append_right _ _ (by omega), Nat.sub_self, set_cons_zero]
  have := ih k (A ++ [stripT y]) ys (by simpa using hy) (by simp; omega) (by omega)
  rw [List.append_assoc, List.append_assoc] at this
  rw [show ((A.length : Int) + 1) = ((A ++ [stripT y]).length : Int) by simp]
  exact this
theorem sortS_strip {l : List S31} (h : ndT l) : (slices_Sort.f l).map stripT = sortT l := by
 have hp := sortS_perm l
 refine sortT_of h ?_ (hp.map stripT)
 refine asc_of ?_ ?_
 ·rw [List.pairwise_map]
  refine (sortS_le l).imp ?_
  intro a b hab
  unfold leT at *
  rw [ah_key (a := stripT b) (b := stripT a) (c := b) (d := a) rfl rfl]
  exact hab
 ·rw [strip_f1]
  exact (hp.map S31.f1).nodup_iff.2 h
theorem cloneT_ok (l : List S31) (hl : l.length < 5000000000000) : impl_Twig_72.f l = some l := by
 unfold impl_Twig_72.f
 rw [Option.bind_some, if_pos (by simp; omega)]
 rfl
theorem isorted_ok {l : List S31} (h : OkT l) : ∃ K, ∀ k, K ≤ k → impl_Sorted.f k l = some (sortT l) := by
 obtain ⟨b, K, e, hb⟩ := heapOk_ok l (by have := h.1; omega)
 obtain rfl : b = true := hb.2 h
 have hlen : (slices_Sort.f l).length = l.length := (sortS_perm l).length_eq
 have h64 := h.1
 refine ⟨K + l.length + 1, fun k hk => ?_⟩
 unfold impl_Sorted.f
 rw [(e k (by omega)).2, Option.bind_some, if_pos rfl, cloneT_ok l (by omega), Option.bind_some]
 have := zero_loop l.length (by omega) l.length k [] (slices_Sort.f l) hlen (by simp) (by omega)
 simp only [List.nil_append, List.length_nil] at this
 rw [sortS_strip h.2.1] at this
 exact this
/-- One step of the search for the least element that is still to come. -/
def stepB (c : S31 → Bool) (o : Option S31) (x : S31) : Option S31 := if c x = true then (match o with
 | none => some x
 | some b => if ah x b = true then some x else some b) else o
def bestB (o : Option S31) : S31 := o.getD ⟨0, 0, 0⟩
def candT (out : List S31) (x : S31) : Bool := match out.getLast? with
 | none => true
 | some y => ah y x
theorem stepB_fold (c : S31 → Bool) : ∀ (L : List S31) (o : Option S31), (∀ b, o = some b → c b = true) →
  (∀ b, L.foldl (stepB c) o = some b → c b = true ∧ (b ∈ L ∨ o = some b) ∧ (∀ x ∈ L, c x = true → leT b x = true) ∧ (∀ x, o = some x → leT b x = true)) ∧ (L.foldl (stepB c) o = none → o = none ∧ ∀ x ∈ L, c x = false) := by
 intro L
 induction L with
 | nil =>
  intro o ho
  refine ⟨fun b hb => ⟨ho b hb, Or.inr hb, by simp, fun x hx => ?_⟩, fun h => ⟨h, by simp⟩⟩
  rw [List.foldl_nil, hx] at hb
  cases hb
  unfold leT
  rw [ah_irrefl]
  rfl
 | cons x t ih =>
  intro o ho
  rw [List.foldl_cons]
  have hs : ∀ b, stepB c o x = some b → c b = true := by
   intro b hb
   unfold stepB at hb
   split at hb
   ·rename_i hc
    split at hb
    ·cases hb; exact hc
    ·rename_i b' 
     split at hb
     ·cases hb; exact hc
     ·cases hb; exact ho _ rfl
   ·exact ho b hb
  have hx : c x = true → ∃ b, stepB c o x = some b ∧ leT b x = true ∧ (b = x ∨ o = some b) ∧ (∀ y, o = some y → leT b y = true) := by
   intro hc
   unfold stepB
   rw [if_pos hc]
   cases o with
   | none => exact ⟨x, rfl, by unfold leT; rw [ah_irrefl]; rfl, Or.inl rfl, fun y hy => by cases hy⟩
   | some b =>
    by_cases hb : ah x b = true
    ·refine ⟨x, by simp only [if_pos hb], by unfold leT; rw [ah_irrefl]; rfl, Or.inl rfl, fun y hy => ?_⟩
     cases hy
     unfold leT
     rw [ah_asymm hb]
     rfl
    ·refine ⟨b, by simp only [if_neg hb], by unfold leT; simp [hb], Or.inr rfl, fun y hy => ?_⟩
     cases hy
     unfold leT
     rw [ah_irrefl]
     rfl
  have hx2 : c x = false → stepB c o x = o := by
   intro hc
   unfold stepB
   rw [if_neg (by rw [hc]; decide)]
  obtain ⟨i1, i2⟩ := ih _ hs
  cases hc : c x with
  | true =>
   obtain ⟨b0, e0, l0, m0, n0⟩ := hx hc
   refine ⟨fun b hb => ?_, fun hn => ?_⟩
   ·obtain ⟨p1, p2, p3, p4⟩ := i1 b hb
    refine ⟨p1, ?_, ?_, fun y hy => leT_trans _ _ _ (p4 _ e0) (n0 y hy)⟩
    ·rcases p2 with p2 | p2
     ·exact Or.inl (List.mem_cons_of_mem _ p2)
     ·rw [e0] at p2
      cases p2
      rcases m0 with m0 | m0
      ·exact Or.inl (by rw [m0]; exact List.mem_cons_self)
      ·exact Or.inr m0
    ·intro y hy hcy
     rcases List.mem_cons.1 hy with hy | hy
     ·subst hy
      exact leT_trans _ _ _ (p4 _ e0) l0
     ·exact p3 y hy hcy
   ·have := (i2 hn).1
    rw [e0] at this
    cases this
  | false =>
   rw [hx2 hc] at i1 i2 ⊢
   refine ⟨fun b hb => ?_, fun hn => ⟨(i2 hn).1, ?_⟩⟩
   ·obtain ⟨p1, p2, p3, p4⟩ := i1 b hb
    refine ⟨p1, ?_, ?_, p4⟩
    ·rcases p2 with p2 | p2
     ·exact Or.inl (List.mem_cons_of_mem _ p2)
     ·exact Or.inr p2
    ·intro y hy hcy
     rcases List.mem_cons.1 hy with hy | hy
     ·subst hy
      rw [hc] at hcy
      cases hcy
     ·exact p3 y hy hcy
   ·intro y hy
    rcases List.mem_cons.1 hy with hy | hy
    ·subst hy; exact hc
    ·exact (i2 hn).2 y hy
theorem candT_take (S : List S31) (i : Nat) (hi : i < S.length) (x : S31) : candT (S.take (i + 1)) x = ah S[i] x := by
 unfold candT
 rw [List.getLast?_take, if_neg (by omega)]
 simp [hi]
theorem best_round {S L : List S31} (ha : Asc S) (hp : S.Perm L) (i : Nat) (hi : i < S.length) : L.foldl (stepB (candT (S.take i))) none = some S[i] := by
 have hge : ∀ (p : Nat) (hq : p < S.length), candT (S.take i) S[p] = true ↔ i ≤ p := by
  intro p hq
  cases i with
  | zero => simp [candT]
  | succ i =>
   rw [candT_take S i (by omega)]
   have hA := List.pairwise_iff_getElem.1 ha
   constructor
   ·intro h
    rcases Nat.lt_or_ge i p with h1 | h1
    ·exact h1
    ·rcases Nat.lt_or_ge p i with h2 | h2
     ·have := hA p i hq (by omega) h2
      rw [ah_asymm this] at h
      cases h
     ·obtain rfl : p = i := by omega
      rw [ah_irrefl] at h
      cases h
   ·intro h
    exact hA i p (by omega) hq (by omega)
 obtain ⟨i1, i2⟩ := stepB_fold (candT (S.take i)) L none (fun b hb => by cases hb)
 cases hf : L.foldl (stepB (candT (S.take i))) none with
 | none =>
  have := (i2 hf).2 S[i] (hp.mem_iff.1 (List.getElem_mem hi))
  rw [(hge i hi).2 (Nat.le_refl _)] at this
  cases this
 | some b =>
  obtain ⟨p1, p2, p3, _⟩ := i1 b hf
  have hm : b ∈ S := by
   rcases p2 with p2 | p2
   ·exact hp.mem_iff.2 p2
   ·cases p2
  obtain ⟨p, hq, rfl⟩ := List.getElem_of_mem hm
  have h1 := (hge p hq).1 p1
  have h2 := p3 S[i] (hp.mem_iff.1 (List.getElem_mem hi)) ((hge i hi).2 (Nat.le_refl _))
  rcases Nat.lt_or_ge i p with h3 | h3
  ·have := List.pairwise_iff_getElem.1 ha i p hi hq h3
   unfold leT at h2
   rw [this] at h2
   cases h2
  ·obtain rfl : p = i := by omega
   rfl
theorem ssort_in (h out : List S31) (hh : h.length ≤ 4611686018427387900) (ho : out.length < 5000000000000) : ∀ (m j k : Nat) (o : Option S31), j + m = h.length → spec_Sorted.l1 (k + m + 1) h out o.isSome (j : Int) (bestB o).f0 (bestB o).f1 (bestB o).f2 = spec_Sorted.l0 k h (out ++ [bestB (((h.drop j).map stripT).foldl (stepB (candT out)) o)]) := by
 intro m
 induction m with
 | zero =>
  intro j k o hj
  simp only [spec_Sorted.l1]
  rw [if_neg (by omega), if_pos (by omega), List.drop_eq_nil_of_le (by omega)]
  rfl
 | succ m ih =>
  intro j k o hj
  have hlt : j < h.length := by omega
  have hr := rdT_at hlt
  have hd : h.drop j = h[j] :: h.drop (j + 1) := List.drop_eq_getElem_cons hlt
  rw [hd, map_cons, List.foldl_cons, ← ih (j + 1) k _ (by omega)]
  have hw : wrap64 ((j : Int) + 1) = ((j + 1 : Nat) : Int) := by rw [wrap_id (by omega) (by omega)]; omega
  rw [show k + (m + 1) + 1 = (k + m + 1) + 1 by omega]
  generalize k + m + 1 = q
  simp only [spec_Sorted.l1]
  rw [if_pos (by omega), if_pos (by omega), hr, hw]
  have e1 : spec_l3Ahead.f h[j].f0 h[j].f1 0 (bestB o).f0 (bestB o).f1 (bestB o).f2 = some (ah (stripT h[j]) (bestB o)) := sahead_ok (stripT h[j]) (bestB o)
  rw [e1, Option.bind_some]
  have step : candT out (stripT h[j]) = true → (if o.isSome = true then (if ah (stripT h[j]) (bestB o) = true then spec_Sorted.l1 q h out true ((j + 1 : Nat) : Int) h[j].f0 h[j].f1 0 else spec_Sorted.l1 q h out o.isSome ((j + 1 : Nat) : Int) (bestB o).f0 (bestB o).f1 (bestB o).f2) else spec_Sorted.l1 q h out true ((j + 1 : Nat) : Int) h[j].f0 h[j].f1 0) = spec_Sorted.l1 q h out (stepB (candT out) o (stripT h[j])).isSome ((j + 1 : Nat) : Int) (bestB (stepB (candT out) o (stripT h[j]))).f0 (bestB (stepB (candT out) o (stripT h[j]))).f1 (bestB (stepB (candT out) o (stripT h[j]))).f2 := by
   intro hc
   unfold stepB
   rw [if_pos hc]
   cases o with
   | none => rfl
   | some b =>
    by_cases hb : ah (stripT h[j]) b = true
    ·simp only [if_pos hb]
     have hb2 : ah (stripT h[j]) (bestB (some b)) = true := hb
     rw [if_pos (show (some b).isSome = true from rfl), if_pos hb2]
     rfl
    ·simp only [if_neg hb]
     have hb2 : ¬ ah (stripT h[j]) (bestB (some b)) = true := hb
     rw [if_pos (show (some b).isSome = true from rfl), if_neg hb2]
  rcases List.eq_nil_or_concat out with rfl | ⟨A, y, h0⟩
  ·rw [if_pos (by simp)]
   exact step rfl
  ·rw [List.concat_eq_append] at h0
   subst h0
   rw [if_neg (by simp; omega)]
   have hlen : (A ++ [y]).length = A.length + 1 := by simp
   have hw2 : wrap64 (((A ++ [y]).length : Int) - 1) = (A.length : Int) := by rw [wrap_id (by omega) (by omega), hlen]; omega
   have hr2 : rd_T31 (A ++ [y]) (A.length : Int) = y := by
    rw [rdT_at (by omega)]
    simp
   rw [hw2, if_pos (by omega), if_pos (by omega), hr2]
   have e2 : spec_l3Ahead.f y.f0 y.f1 y.f2 h[j].f0 h[j].f1 0 = some (ah y (stripT h[j])) := sahead_ok y (stripT h[j])
   rw [e2, Option.bind_some]
   have hcd : candT (A ++ [y]) (stripT h[j]) = ah y (stripT h[j]) := by simp [candT]
   by_cases hc : ah y (stripT h[j]) = true
   ·rw [if_pos hc]
    exact step (hcd.trans hc)
   ·rw [if_neg hc]
    have : stepB (candT (A ++ [y])) o (stripT h[j]) = o := by
     unfold stepB
     rw [if_neg (by rw [hcd]; exact hc)]
    rw [this]
theorem ssort_out {h : List S31} (hn : ndT h) (hh : h.length ≤ 64) : ∀ (m i : Nat), i + m = h.length → ∃ K, ∀ k, K ≤ k → spec_Sorted.l0 k h ((sortT h).take i) = some (sortT h) := by
 have hl := sortT_length h
 intro m
 induction m with
 | zero =>
  intro i hi
  refine ⟨1, fun k hk => ?_⟩
  obtain ⟨k, rfl⟩ : ∃ q, k = q + 1 := ⟨k - 1, by omega⟩
  simp only [spec_Sorted.l0]
  rw [List.take_of_length_le (by omega), if_neg (by omega)]
 | succ m ih =>
  intro i hi
  obtain ⟨K, e⟩ := ih (i + 1) (by omega)
  refine ⟨K + h.length + 2, fun k hk => ?_⟩
  obtain ⟨k, rfl⟩ : ∃ q, k = q + h.length + 1 + 1 := ⟨k - h.length - 2, by omega⟩
  have hlt : i < (sortT h).length := by omega
  have hin := ssort_in h ((sortT h).take i) (by omega) (by rw [length_take]; omega) h.length 0 k none (by omega)
  have hb := best_round (sortT_asc hn) (sortT_perm h) i hlt
  rw [List.drop_zero, hb] at hin
  simp only [spec_Sorted.l0]
  rw [if_pos (by rw [length_take]; omega)]
  refine (show _ = _ from hin).trans ?_
  have e3 : (sortT h).take i ++ [bestB (some (sortT h)[i])] = (sortT h).take (i + 1) := by
   rw [List.take_succ_eq_append_getElem hlt]
   rfl
  rw [e3]
  exact e k (by omega)
theorem ssorted_ok {l : List S31} (h : OkT l) : ∃ K, ∀ k, K ≤ k → spec_Sorted.f k l = some (sortT l) := by
 obtain ⟨b, K, e, hb⟩ := heapOk_ok l (by have := h.1; omega)
 obtain rfl : b = true := hb.2 h
 obtain ⟨K2, e2⟩ := ssort_out h.2.1 h.1 l.length 0 (by omega)
 refine ⟨K + K2, fun k hk => ?_⟩
 unfold spec_Sorted.f
 rw [Option.bind_some, (e k (by omega)).1, Option.bind_some, if_pos rfl]
 exact e2 k (by omega)
theorem sorted_ok (l : List S31) (hl : l.length ≤ 2000000) : ∃ m : List S31, m.length ≤ l.length ∧ ∃ K, ∀ k, K ≤ k → spec_Sorted.f k l = some m ∧ impl_Sorted.f k l = some m := by
 by_cases h : OkT l
 ·obtain ⟨K1, e1⟩ := ssorted_ok h
  obtain ⟨K2, e2⟩ := isorted_ok h
  exact ⟨sortT l, Nat.le_of_eq (sortT_length l), K1 + K2, fun k hk => ⟨e1 k (by omega), e2 k (by omega)⟩⟩
 ·obtain ⟨b, K, e, hb⟩ := heapOk_ok l (by omega)
  obtain rfl : b = false := by
   cases b with
   | false => rfl
   | true => exact absurd (hb.1 rfl) h
  refine ⟨[], Nat.zero_le _, K, fun k hk => ⟨?_, ?_⟩⟩
  ·unfold spec_Sorted.f
   rw [Option.bind_some, (e k hk).1]
   rfl
  ·unfold impl_Sorted.f
   rw [(e k hk).2]
   rfl
theorem sz_TwigS (l : List S69) (left : Int) (hl : 0 ≤ left) (hl2 : left ≤ 1048576) (hn : l.length ≤ 9223372036854775807) : laws_szTwigS.f l left = some (if (l.length : Int) ≤ left then left - (l.length : Int) else -1) := by
 unfold laws_szTwigS.f
 rw [wrap_id (by omega) (by omega)]
 by_cases h : (l.length : Int) ≤ left
 ·rw [if_neg (by omega), if_pos h]
 ·rw [if_pos (by omega), if_neg h]
/-- An element of the statements as one of the program. -/
def ofTwigS (x : S69) : S31 := ⟨x.f0, x.f1, x.f2⟩
theorem to_TwigS (l : List S69) (hn : l.length ≤ 1048576) : ∃ K, ∀ k, K ≤ k → laws_toTwigS.f k l = some (l.map ofTwigS) := by
 obtain ⟨K, e⟩ := ev_copy (fun k a b i => laws_toTwigS.l0 k a b i) ofTwigS z69 (fun k x0 x3 i => by
  show laws_toTwigS.l0 (k + 1) x0 x3 i = _
  simp only [laws_toTwigS.l0, laws_toTwig.f, Option.bind_some]
  rfl) l z31 (by omega)
 refine ⟨K, fun k hk => ?_⟩
 unfold laws_toTwigS.f
 rw [if_pos (by omega), if_pos (by omega), Int.toNat_natCast]
 exact e k hk
theorem eq_TwigS (l : List S31) (hn : l.length ≤ 4611686018427387904) : ∃ K, ∀ k, K ≤ k → laws_eqTwigS.f k l l = some true := by
 obtain ⟨K, e⟩ := ev_same (fun k a b i => laws_eqTwigS.l0 k a b i) l (fun k i h0 h1 => by
  show laws_eqTwigS.l0 (k + 1) l l i = laws_eqTwigS.l0 k l l (wrap64 (i + 1))
  generalize hw : laws_eqTwigS.l0 k l l (wrap64 (i + 1)) = R
  rw [laws_eqTwigS.l0, hw]
  simp [laws_eqTwig.f, h0, h1]) (fun k i h => by
  show laws_eqTwigS.l0 (k + 1) l l i = _
  rw [laws_eqTwigS.l0, if_neg h]) hn
 refine ⟨K, fun k hk => ?_⟩
 unfold laws_eqTwigS.f
 rw [if_pos rfl]
 exact e k hk
/-- The mark of an element. -/
def mkTwigS (c : Int) : S31 := ⟨c, wrap64 (c + 1), wrap64 ((wrap64 (c + 1)) + 1)⟩
def nxTwigS (c : Int) : Int := wrap64 ((wrap64 ((wrap64 (c + 1)) + 1)) + 1)
theorem nxTwigS_add (c : Int) (h0 : 0 ≤ c) (h1 : c ≤ 4611686018427387904) : nxTwigS c = c + 3 := by
 unfold nxTwigS wrap64
 omega
theorem mark_TwigS (l : List S31) (c : Int) (hc0 : 0 ≤ c) (hc : c ≤ 1000000000) (hn : l.length ≤ 2000000) : ∃ K, ∀ k, K ≤ k → laws_markTwigS.f k l c = some (c + 3 * (l.length : Int), marks mkTwigS nxTwigS l.length c) := by
 obtain ⟨K, e⟩ := ev_mark (fun k x0 c i => laws_markTwigS.l0 k x0 c i) mkTwigS nxTwigS (fun k x0 c i => by
  show laws_markTwigS.l0 (k + 1) x0 c i = _
  rw [laws_markTwigS.l0]
  by_cases h : i < (x0.length : Int)
  ·by_cases h0 : 0 ≤ i
   ·have hr : ∀ v, rd_T31 (x0.set i.toNat v) i = v := fun v => by
     unfold rd_T31
     rw [getD_lt _ (by rw [List.length_set]; omega), List.getElem_set_self]
    rw [if_pos h, if_pos h0, if_pos h, if_pos h0]
    try simp only [Option.bind_some, hr, List.set_set]
    rfl
   ·rw [if_pos h, if_neg h0, if_pos h, if_neg h0]
  ·rw [if_neg h, if_neg h]) l c (by omega)
 refine ⟨K, fun k hk => ?_⟩
 unfold laws_markTwigS.f
 rw [← endOf_add nxTwigS 3 (by omega) (by omega) (fun c h0 h1 => nxTwigS_add c h0 h1) l.length c (by omega) (by omega)]
 exact e k hk
theorem held_TwigS (n : Nat) (c : Int) (hc0 : 0 ≤ c) (hc : c ≤ 1000000000) (hn : n ≤ 2000000) : ∃ K, ∀ k, K ≤ k → laws_heldTwigS.f k (marks mkTwigS nxTwigS n c) c = some (c + 3 * (n : Int)) := by
 obtain ⟨K, e⟩ := ev_held (fun k x0 c i => laws_heldTwigS.l0 k x0 c i) mkTwigS nxTwigS z31 (fun k x0 c i h0 h1 he => by
  show laws_heldTwigS.l0 (k + 1) x0 c i = _
  have hr : rd_T31 x0 i = mkTwigS c := he
  rw [laws_heldTwigS.l0, if_pos h1, if_pos h0, hr]
  unfold mkTwigS nxTwigS
  simp) (fun k x0 c i h => by
  show laws_heldTwigS.l0 (k + 1) x0 c i = _
  rw [laws_heldTwigS.l0, if_neg h]) n c (by omega)
 refine ⟨K, fun k hk => ?_⟩
 unfold laws_heldTwigS.f
 rw [← endOf_add nxTwigS 3 (by omega) (by omega) (fun c h0 h1 => nxTwigS_add c h0 h1) n c (by omega) (by omega)]
 exact e k hk
theorem FnExactSorted : ∀ (l0 : List (S69)), l0.length ≤ 9223372036854775807 → (∀ x_ ∈ l0, (wf64 x_.f0 ∧ wf64 x_.f1 ∧ wf64 x_.f2)) → ∃ k, laws_FnExactSorted.f k l0 = some true := by
 intro l hn _
 by_cases h : l.length ≤ 1048576
 ·have hX : (l.map ofTwigS).length = l.length := List.length_map ..
  obtain ⟨m, hm, K0, e0⟩ := sorted_ok (l.map ofTwigS) (by omega)
  obtain ⟨K, q⟩ := both (to_TwigS l h) (both (⟨K0, e0⟩) (both (eq_TwigS (l.map ofTwigS) (by omega)) (both (mark_TwigS (l.map ofTwigS) 1 (by omega) (by omega) (by omega)) (both (eq_TwigS m (by omega)) (both (mark_TwigS m 1 (by omega) (by omega) (by omega)) (held_TwigS m.length 1 (by omega) (by omega) (by omega)))))))
  have a0 := q K (by omega)
  have a1 := q (K + 1) (by omega)
  have z1 : ¬ (1048576 - (l.length : Int) < 0) := by omega
  have z2 : ¬ (1 + 3 * ((l.map ofTwigS).length : Int) < 0) := by omega
  have z3 : ¬ (1 + 3 * (m.length : Int) < 0) := by omega
  refine ⟨K + 1, ?_⟩
  clear q hX hm e0
  unfold laws_FnExactSorted.f
  rw [sz_TwigS l 1048576 (by omega) (by omega) hn, if_pos (by omega)]
  simp only [Option.bind_some, z1, if_false]
  simp only [Option.bind_some, if_false, a0, a1, if_true, Bool.not_true, laws_FnExactSorted.j0, Bool.false_eq_true, z2, z3]
 ·refine ⟨0, ?_⟩
  unfold laws_FnExactSorted.f
  rw [sz_TwigS l 1048576 (by omega) (by omega) hn, if_neg (by omega)]
  simp
end Go.Proofs.Ytljfflhbabkbgaa.Pure
