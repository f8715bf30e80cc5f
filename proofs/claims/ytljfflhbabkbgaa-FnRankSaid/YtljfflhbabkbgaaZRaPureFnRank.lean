/- Texts of the claim of the law FnRank, made smaller by a program of this session: what the claim does not use is left out. No condition. -/
import Derived.Test.YtljfflhbabkbgaaZRaOpen
import Derived.Test.YtljfflhbabkbgaaZRaPLib
import Derived.Test.YtljfflhbabkbgaaZRaPFnRankx14
namespace Go.Proofs.Ytljfflhbabkbgaa.Pure
open Go.RowKit Go.Proofs.YtljfflhbabkbgaaOpen Go.Proofs.YtljfflhbabkbgaaPLib Go.Proofs.Ytljfflhbabkbgaa.PFnRank Go.Proofs.YtljfflhbabkbgaaW.PrintWords Go.Proofs.YtljfflhbabkbgaaW.PrintLast
open List (set_cons_zero map_cons map_nil length_drop length_take)
set_option linter.unusedVariables false
set_option linter.unusedSimpArgs false
/-- Ahead of: by the time, then by the number. -/
def ah (a b : S31) : Bool := decide (a.f0 < b.f0) || (decide (a.f0 = b.f0) && decide (a.f1 < b.f1))
theorem ah_iff {a b : S31} : ah a b = true ↔ a.f0 < b.f0 ∨ (a.f0 = b.f0 ∧ a.f1 < b.f1) := by simp [ah]
theorem ah_trans {a b c : S31} (h : ah a b = true) (k : ah b c = true) : ah a c = true := by
 rw [ah_iff] at *
 omega
theorem ah_asymm {a b : S31} (h : ah a b = true) : ah b a = false := by
 rw [← Bool.not_eq_true]
 rw [ah_iff] at *
 omega
theorem ah_total {a b : S31} (h : a.f1 ≠ b.f1) : ah a b = true ∨ ah b a = true := by
 rw [ah_iff, ah_iff]
 omega
/-- What counts of an element. -/
def keyT (x : S31) : Int × Int := (x.f0, x.f1)
theorem ah_key {a b c d : S31} (h : keyT a = keyT c) (k : keyT b = keyT d) : ah a b = ah c d := by
 unfold keyT at h k
 injection h with h1 h2
 injection k with k1 k2
 unfold ah
 rw [h1, h2, k1, k2]
/-- A root is ahead of the first of a list, where it has one. -/
def ahd (x : S31) (l : List S31) : Prop := ∀ y t, l = y :: t → ah x y = true
/-- A leftist heap and its rank. -/
inductive Hp : List S31 → Nat → Prop
 | nil : Hp [] 0
 | node {x : S31} {l r : List S31} {a b : Nat} : Hp l a → Hp r b → b ≤ a → x.f2 = (l.length : Int) → ahd x l → ahd x r → Hp (x :: (l ++ r)) (b + 1)
theorem Hp.cons {x : S31} {t : List S31} {n : Nat} (h : Hp (x :: t) n) : ∃ l r a b, t = l ++ r ∧ n = b + 1 ∧ Hp l a ∧ Hp r b ∧ b ≤ a ∧ x.f2 = (l.length : Int) ∧ ahd x l ∧ ahd x r := by
 generalize e : x :: t = h0 at h
 cases h with
 | nil => cases e
 | node h1 h2 h3 h4 h5 h6 =>
  injection e with e1 e2
  subst e1
  exact ⟨_, _, _, _, e2, rfl, h1, h2, h3, h4, h5, h6⟩
theorem Hp.one (x : S31) (h : x.f2 = 0) : Hp [x] 1 := Hp.node (l := []) (r := []) Hp.nil Hp.nil (Nat.le_refl 0) h (fun _ _ e => by cases e) (fun _ _ e => by cases e)
theorem Hp.rank_nil {n : Nat} (h : Hp [] n) : n = 0 := by cases h; rfl
/-- The left and the right heap. -/
theorem Hp.parts {x : S31} {t : List S31} {n : Nat} (h : Hp (x :: t) n) : 0 ≤ x.f2 ∧ x.f2 ≤ (t.length : Int) ∧ ∃ a b, n = b + 1 ∧ Hp (t.take x.f2.toNat) a ∧ Hp (t.drop x.f2.toNat) b ∧ b ≤ a ∧ ahd x (t.take x.f2.toNat) ∧ ahd x (t.drop x.f2.toNat) := by
 obtain ⟨l, r, a, b, rfl, rfl, h1, h2, h3, h4, h5, h6⟩ := h.cons
 have e : x.f2.toNat = l.length := by omega
 refine ⟨by omega, by rw [h4, List.length_append]; omega, a, b, rfl, ?_, ?_, h3, ?_, ?_⟩ <;> rw [e] <;> simp [h1, h2, h5, h6]
theorem Hp.uniq : ∀ {h : List S31} {n m : Nat}, Hp h n → Hp h m → n = m := by
 intro h
 generalize hN : h.length = N
 induction N using Nat.strongRecOn generalizing h with
 | _ N ih =>
  intro n m h1 h2
  cases h with
  | nil => rw [h1.rank_nil, h2.rank_nil]
  | cons x t =>
   obtain ⟨_, _, a, b, rfl, _, hb, _⟩ := h1.parts
   obtain ⟨_, _, a', b', rfl, _, hb', _⟩ := h2.parts
   have := ih (t.drop x.f2.toNat).length (by rw [length_drop]; simp at hN; omega) rfl hb hb'
   omega
/-- The root is ahead of all. -/
theorem Hp.least : ∀ {x : S31} {t : List S31} {n : Nat}, Hp (x :: t) n → ∀ y ∈ t, ah x y = true := by
 intro x t
 generalize hN : t.length = N
 induction N using Nat.strongRecOn generalizing x t with
 | _ N ih =>
  intro n h y hy
  obtain ⟨l, r, a, b, rfl, rfl, h1, h2, h3, h4, h5, h6⟩ := h.cons
  have side : ∀ (s : List S31) (c : Nat), s.length ≤ N → Hp s c → ahd x s → y ∈ s → ah x y = true := by
   intro s c hs hH hx hy
   cases s with
   | nil => cases hy
   | cons z s =>
    have e := hx z s rfl
    rcases List.mem_cons.1 hy with rfl | hy
    ·exact e
    ·exact ah_trans e (ih s.length (by simp at hs; omega) rfl hH y hy)
  rw [List.length_append] at hN
  rcases List.mem_append.1 hy with hy | hy
  ·exact side l a (by omega) h1 h5 hy
  ·exact side r b (by omega) h2 h6 hy
theorem pow_step (b : Nat) : 2 ^ (b + 1) = 2 * 2 ^ b := by rw [Nat.pow_succ, Nat.mul_comm]
/-- A heap of rank n has at least 2^n - 1 elements. -/
theorem Hp.big : ∀ {h : List S31} {n : Nat}, Hp h n → 2 ^ n ≤ h.length + 1 := by
 intro h n hh
 induction hh with
 | nil => exact Nat.le_refl _
 | @node x l r a b h1 h2 h3 h4 h5 h6 i1 i2 =>
  have : 2 ^ b ≤ 2 ^ a := Nat.pow_le_pow_right (by omega) h3
  rw [pow_step, List.length_cons, List.length_append]
  omega
theorem Hp.rank_le {h : List S31} {n : Nat} (hh : Hp h n) : n ≤ h.length := by
 have h1 := hh.big
 have h2 : n < 2 ^ n := Nat.lt_two_pow_self
 omega
/-- A root over two heaps, the one of the greater rank left. -/
def joinT (x : S31) (l m : List S31) (p q : Nat) : List S31 := if p < q then ⟨x.f0, x.f1, (m.length : Int)⟩ :: (m ++ l) else ⟨x.f0, x.f1, (l.length : Int)⟩ :: (l ++ m)
theorem joinT_hp {x : S31} {l m : List S31} {p q : Nat} (h1 : Hp l p) (h2 : Hp m q) (h3 : ∀ y ∈ l, ah x y = true) (h4 : ∀ y ∈ m, ah x y = true) : ∃ n, Hp (joinT x l m p q) n := by
 have f : ∀ (s : List S31), (∀ y ∈ s, ah x y = true) → ∀ c, ahd ⟨x.f0, x.f1, c⟩ s := by
  rintro s hs c y t rfl
  exact (ah_key (a := ⟨x.f0, x.f1, c⟩) (b := y) (c := x) (d := y) rfl rfl).trans (hs y (by simp))
 unfold joinT
 split
 ·exact ⟨_, Hp.node h2 h1 (by omega) rfl (f m h4 _) (f l h3 _)⟩
 ·exact ⟨_, Hp.node h1 h2 (by omega) rfl (f l h3 _) (f m h4 _)⟩
theorem joinT_perm (x : S31) (l m : List S31) (p q : Nat) : ((joinT x l m p q).map keyT).Perm (keyT x :: (l.map keyT ++ m.map keyT)) := by
 unfold joinT
 split
 ·rw [map_cons, List.map_append]
  exact List.Perm.cons _ List.perm_append_comm
 ·rw [map_cons, List.map_append]
  exact List.Perm.refl _
/-- What is ahead of all keys of a list is ahead of a list of the same keys. -/
theorem ah_perm {x : S31} {l m : List S31} (h : (m.map keyT).Perm (l.map keyT)) (k : ∀ y ∈ l, ah x y = true) : ∀ y ∈ m, ah x y = true := by
 intro y hy
 have : keyT y ∈ l.map keyT := h.subset (List.mem_map_of_mem hy)
 obtain ⟨z, hz, e⟩ := List.mem_map.1 this
 exact (ah_key (a := x) (b := y) (c := x) (d := z) rfl e.symm).trans (k z hz)
theorem perm_length {l m : List S31} (h : (m.map keyT).Perm (l.map keyT)) : m.length = l.length := by
 have := h.length_eq
 simpa using this
theorem seq_perm {l m : List S31} (h : (m.map keyT).Perm (l.map keyT)) : (m.map S31.f1).Perm (l.map S31.f1) := by
 have := h.map Prod.snd
 simpa [List.map_map, Function.comp_def, keyT] using this
/-- An element without the number of what lies left. -/
def stripT (x : S31) : S31 := ⟨x.f0, x.f1, 0⟩
def leT (a b : S31) : Bool := !ah b a
theorem leT_trans (a b c : S31) (h : leT a b = true) (k : leT b c = true) : leT a c = true := by
 simp only [leT, Bool.not_eq_true', ← Bool.not_eq_true, ah_iff] at *
 omega
theorem leT_total (a b : S31) : (leT a b || leT b a) = true := by
 rw [Bool.or_eq_true]
 simp only [leT, Bool.not_eq_true', ← Bool.not_eq_true, ah_iff] at *
 omega
/-- All elements in order. -/
def sortT (h : List S31) : List S31 := (h.map stripT).mergeSort leT
theorem sortT_perm (h : List S31) : (sortT h).Perm (h.map stripT) := List.mergeSort_perm _ _
theorem sortT_length (h : List S31) : (sortT h).length = h.length := by
 have := (sortT_perm h).length_eq
 simpa using this
/-- Strictly ascending. -/
def Asc (l : List S31) : Prop := l.Pairwise (fun a b => ah a b = true)
theorem Asc.uniq {l m : List S31} (h : Asc l) (k : Asc m) (p : l.Perm m) : l = m :=
 List.Perm.eq_of_pairwise (le := fun a b => ah a b = true) (fun a b _ _ h1 h2 => by rw [ah_asymm h1] at h2; cases h2) h k p
theorem pairwise_and {α : Type} {R S : α → α → Prop} : ∀ {l : List α}, l.Pairwise R → l.Pairwise S → l.Pairwise (fun a b => R a b ∧ S a b) := by
 intro l
 induction l with
 | nil => intro _ _; exact List.Pairwise.nil
 | cons x t ih =>
  intro h k
  rw [List.pairwise_cons] at *
  exact ⟨fun a ha => ⟨h.1 a ha, k.1 a ha⟩, ih h.2 k.2⟩
theorem nodup_f1 {l : List S31} (h : (l.map S31.f1).Nodup) : l.Pairwise (fun a b => a.f1 ≠ b.f1) := by
 rw [List.Nodup, List.pairwise_map] at h
 exact h
theorem asc_of {l : List S31} (h : l.Pairwise (fun a b => leT a b = true)) (k : (l.map S31.f1).Nodup) : Asc l := by
 refine (pairwise_and h (nodup_f1 k)).imp ?_
 rintro a b ⟨h1, h2⟩
 simp only [leT, Bool.not_eq_true', ← Bool.not_eq_true, ah_iff] at *
 omega
theorem strip_f1 (h : List S31) : (h.map stripT).map S31.f1 = h.map S31.f1 := by
 rw [List.map_map]
 rfl
theorem sortT_asc {h : List S31} (k : (h.map S31.f1).Nodup) : Asc (sortT h) := by
 refine asc_of (List.pairwise_mergeSort leT_trans leT_total _) ?_
 have := (sortT_perm h).map S31.f1
 rw [strip_f1] at this
 exact this.nodup_iff.2 k
theorem strip_key (l m : List S31) (h : (l.map keyT).Perm (m.map keyT)) : (l.map stripT).Perm (m.map stripT) := by
 have := h.map (fun p : Int × Int => (⟨p.1, p.2, 0⟩ : S31))
 rw [List.map_map, List.map_map] at this
 exact this
/-- The one list that is ascending and has the elements. -/
theorem sortT_of {h l : List S31} (k : (h.map S31.f1).Nodup) (ha : Asc l) (hp : l.Perm (h.map stripT)) : l = sortT h :=
 ha.uniq (sortT_asc k) (hp.trans (sortT_perm h).symm)
theorem Asc.filter {l : List S31} (p : S31 → Bool) (h : Asc l) : Asc (l.filter p) := List.Pairwise.filter _ h
theorem nodup_key {l m : List S31} (h : (l.map keyT).Perm (m.map keyT)) (k : (m.map S31.f1).Nodup) : (l.map S31.f1).Nodup := (seq_perm h).nodup_iff.2 k
theorem rdT_cons (x : S31) (t : List S31) : rd_T31 (x :: t) 0 = x := rfl
theorem rdT_at {l : List S31} {j : Nat} (h : j < l.length) : rd_T31 l (j : Int) = l[j] := by
 unfold rd_T31
 rw [Int.toNat_natCast, getD_lt _ h]
theorem l1In_ok (a lo hi : Int) : spec_l1In.f a lo hi = some (decide (lo ≤ a) && decide (a ≤ hi)) := by
 unfold spec_l1In.f
 by_cases h : lo ≤ a <;> simp [h]
theorem within_ok (a lo hi : Int) : impl_within.f a lo hi = some (decide (lo ≤ a) && decide (a ≤ hi)) := by
 unfold impl_within.f
 by_cases h : lo ≤ a <;> simp [h]
theorem cut_head (x : S31) (t : List S31) (h0 : 0 ≤ x.f2) (h2 : x.f2 ≤ 4611686018427387904) : (wrap64 (1 + x.f2)).toNat = x.f2.toNat + 1 ∧ wrap64 (1 + x.f2) = 1 + x.f2 := by
 rw [wrap_id (by omega) (by omega)]
 omega
theorem parts_ok {x : S31} {t : List S31} (h0 : 0 ≤ x.f2) (h1 : x.f2 ≤ (t.length : Int)) (hn : t.length ≤ 4611686018427387904) : impl_parts.f (x :: t) = some (t.take x.f2.toNat, t.drop x.f2.toNat) := by
 obtain ⟨e1, e2⟩ := cut_head x t h0 (by omega)
 unfold impl_parts.f
 rw [rdT_cons, e1, e2, if_pos (by simp), if_pos (by omega), if_pos (by simp; omega), if_pos (by omega)]
 rfl
theorem sparts_ok {x : S31} {t : List S31} (h0 : 0 ≤ x.f2) (h1 : x.f2 ≤ (t.length : Int)) (hn : t.length ≤ 4611686018427387904) : spec_l3Parts.f (x :: t) = some (t.take x.f2.toNat, t.drop x.f2.toNat, true) := by
 obtain ⟨e1, e2⟩ := cut_head x t h0 (by omega)
 unfold spec_l3Parts.f
 rw [rdT_cons, e1, e2, if_pos (by simp), l1In_ok, Option.bind_some, if_pos (by
  rw [List.length_cons, wrap_id (by omega) (by omega)]
  simp
  omega), if_pos (by omega), if_pos (by simp; omega), if_pos (by omega)]
 rfl
theorem sparts_no {x : S31} {t : List S31} (h : ¬ (0 ≤ x.f2 ∧ x.f2 ≤ (t.length : Int))) (hn : t.length ≤ 4611686018427387904) : spec_l3Parts.f (x :: t) = some ([], [], false) := by
 unfold spec_l3Parts.f
 rw [rdT_cons, if_pos (by simp), l1In_ok, Option.bind_some, if_neg (by
  rw [List.length_cons, wrap_id (by omega) (by omega)]
  simp
  omega)]
theorem sahead_ok (a b : S31) : spec_l3Ahead.f a.f0 a.f1 a.f2 b.f0 b.f1 b.f2 = some (ah a b) := by
 unfold spec_l3Ahead.f ah
 by_cases h : a.f0 < b.f0
 ·simp [h]
 ·by_cases e : a.f0 = b.f0 <;> simp [h, e]
/-- What the comparison of two elements tells. -/
def cmpT (a b : S31) : Int := if a.f0 < b.f0 then -1 else if b.f0 < a.f0 then 1 else if a.f1 < b.f1 then -1 else if b.f1 < a.f1 then 1 else 0
theorem cmpT_neg (a b : S31) : decide (cmpT a b < 0) = ah a b := by
 rw [Bool.eq_iff_iff, ah_iff, decide_eq_true_iff]
 unfold cmpT
 split
 ·simp; omega
 ·split
  ·simp; omega
  ·split
   ·simp; omega
   ·split <;> simp <;> omega
theorem compare1_ok (a b : Int) : cmp_Compare_int64.f a b = some (if a < b then -1 else if b < a then 1 else 0) := by
 unfold cmp_Compare_int64.f cmp_isNaN_int64.f
 simp only [bne_self_eq_false, Option.bind_some]
 rw [if_neg (by simp), if_neg (by simp)]
 by_cases h : a < b
 ·rw [if_pos h, if_pos h]
 ·rw [if_neg h, if_neg h]
  by_cases h2 : b < a
  ·rw [if_pos (by omega), if_pos h2]
  ·rw [if_neg (by omega), if_neg h2]
theorem or_ok (p q : Int) (k : Nat) : cmp_Or_int.f (k + 3) [p, q] = some (if p = 0 then q else p) := by
 unfold cmp_Or_int.f
 have w1 : wrap64 (0 + 1) = 1 := by unfold wrap64; omega
 have w2 : wrap64 (1 + 1) = 2 := by unfold wrap64; omega
 have r0 : rd [p, q] 0 = p := rfl
 have r1 : rd [p, q] 1 = q := rfl
 simp only [cmp_Or_int.l0]
 rw [r0, w1, w2, r1]
 by_cases hp : p = 0
 ·by_cases hq : q = 0
  ·simp [hp, hq]
  ·simp [hp, hq]
 ·simp [hp]
theorem compare_ok (a b : S31) (k : Nat) (hk : 3 ≤ k) : impl_Twig_compare.f k a.f0 a.f1 a.f2 b.f0 b.f1 b.f2 = some (cmpT a b) := by
 obtain ⟨k, rfl⟩ : ∃ m, k = m + 3 := ⟨k - 3, by omega⟩
 unfold impl_Twig_compare.f
 rw [compare1_ok, compare1_ok, Option.bind_some, Option.bind_some, or_ok, Option.bind_some]
 unfold cmpT
 congr 1
 by_cases h : a.f0 < b.f0
 ·simp [h]
 ·by_cases h2 : b.f0 < a.f0 <;> simp [h, h2]
theorem size_ok (l : List S31) : impl_Twig_85.f l = some (l.length : Int) := rfl
/-- The head of a list, where there is one, is behind the root. -/
def okh (x : S31) : List S31 → Bool
 | [] => true
 | y :: _ => ah x y
theorem okh_iff {x : S31} {l : List S31} : okh x l = true ↔ ahd x l := by
 cases l with
 | nil => simp [okh, ahd]
 | cons y t =>
  unfold okh ahd
  constructor
  ·intro h z s e
   injection e with e1 _
   subst e1
   exact h
  ·intro h
   exact h y t rfl
theorem srank_cons (k : Nat) (x : S31) (t : List S31) (h0 : 0 ≤ x.f2) (h1 : x.f2 ≤ (t.length : Int)) (hn : t.length ≤ 4611686018427387904) :
  spec_l3Rank.f (k + 1) (x :: t) = spec_l3Rank.j0 k (t.take x.f2.toNat) (t.drop x.f2.toNat) (!(okh x (t.take x.f2.toNat) && okh x (t.drop x.f2.toNat))) := by
 simp only [spec_l3Rank.f]
 rw [sparts_ok h0 h1 hn, Option.bind_some, if_neg (by simp; omega)]
 generalize t.take x.f2.toNat = l
 generalize t.drop x.f2.toNat = r
 rw [rdT_cons, if_pos rfl]
 cases l with
 | nil =>
  cases r with
  | nil => simp [okh]
  | cons z r =>
   simp [okh, rdT_cons, sahead_ok]
 | cons y l =>
  rw [rdT_cons, sahead_ok]
  cases r with
  | nil => cases e : ah x y <;> simp [okh, e]
  | cons z r =>
   rw [rdT_cons, sahead_ok]
   cases e : ah x y <;> simp [okh, e]
theorem srank_ok : ∀ (N : Nat) (h : List S31), h.length ≤ N → N ≤ 4611686018427387904 → ∃ r K, (∀ k, K ≤ k → spec_l3Rank.f k h = some r) ∧ ((r = -1 ∧ ∀ n, ¬ Hp h n) ∨ ∃ n : Nat, r = (n : Int) ∧ Hp h n) := by
 intro N
 induction N with
 | zero =>
  intro h hl hN
  obtain rfl : h = [] := List.length_eq_zero_iff.1 (by omega)
  refine ⟨0, 1, fun k hk => ?_, .inr ⟨0, rfl, Hp.nil⟩⟩
  obtain ⟨k, rfl⟩ : ∃ q, k = q + 1 := ⟨k - 1, by omega⟩
  simp [spec_l3Rank.f]
 | succ N ih =>
  intro h hl hN
  cases h with
  | nil =>
   refine ⟨0, 1, fun k hk => ?_, .inr ⟨0, rfl, Hp.nil⟩⟩
   obtain ⟨k, rfl⟩ : ∃ q, k = q + 1 := ⟨k - 1, by omega⟩
   simp [spec_l3Rank.f]
  | cons x t =>
   rw [List.length_cons] at hl
   by_cases hin : 0 ≤ x.f2 ∧ x.f2 ≤ (t.length : Int)
   ·have hs := fun k => srank_cons k x t hin.1 hin.2 (by omega)
    cases hb : (okh x (t.take x.f2.toNat) && okh x (t.drop x.f2.toNat)) with
    | false =>
     refine ⟨-1, 2, fun k hk => ?_, .inl ⟨rfl, fun n hn => ?_⟩⟩
     ·obtain ⟨k, rfl⟩ : ∃ q, k = q + 2 := ⟨k - 2, by omega⟩
      rw [hs, hb]
      simp [spec_l3Rank.j0]
     ·obtain ⟨_, _, _, _, _, _, _, _, h5, h6⟩ := hn.parts
      rw [okh_iff.2 h5, okh_iff.2 h6] at hb
      cases hb
    | true =>
     obtain ⟨a, K1, e1, c1⟩ := ih (t.take x.f2.toNat) (by rw [length_take]; omega) (by omega)
     obtain ⟨b, K2, e2, c2⟩ := ih (t.drop x.f2.toNat) (by rw [length_drop]; omega) (by omega)
     rw [Bool.and_eq_true] at hb
     have step : ∀ k, K1 + K2 + 2 ≤ k → spec_l3Rank.f k (x :: t) = if a < 0 then some (-1) else (if b < 0 then some (-1) else (if a < b then some (-1) else some (wrap64 (b + 1)))) := by
      intro k hk
      obtain ⟨k, rfl⟩ : ∃ q, k = q + 2 := ⟨k - 2, by omega⟩
      rw [hs, hb.1, hb.2]
      simp only [spec_l3Rank.j0]
      rw [if_neg (by simp), e1 k (by omega), e2 k (by omega), Option.bind_some, Option.bind_some]
     rcases c1 with ⟨rfl, c1⟩ | ⟨na, rfl, c1⟩
     ·refine ⟨-1, K1 + K2 + 2, fun k hk => by rw [step k hk, if_pos (by omega)], .inl ⟨rfl, fun n hn => ?_⟩⟩
      obtain ⟨_, _, p, q, _, hp, _⟩ := hn.parts
      exact c1 p hp
     ·rcases c2 with ⟨rfl, c2⟩ | ⟨nb, rfl, c2⟩
      ·refine ⟨-1, K1 + K2 + 2, fun k hk => by rw [step k hk, if_neg (by omega), if_pos (by omega)], .inl ⟨rfl, fun n hn => ?_⟩⟩
       obtain ⟨_, _, p, q, _, _, hq, _⟩ := hn.parts
       exact c2 q hq
      ·by_cases hab : na < nb
       ·refine ⟨-1, K1 + K2 + 2, fun k hk => by rw [step k hk, if_neg (by omega), if_neg (by omega), if_pos (by omega)], .inl ⟨rfl, fun n hn => ?_⟩⟩
        obtain ⟨_, _, p, q, _, hp, hq, hpq, _⟩ := hn.parts
        have := hp.uniq c1
        have := hq.uniq c2
        omega
       ·have hr := c2.rank_le
        rw [length_drop] at hr
        refine ⟨(nb : Int) + 1, K1 + K2 + 2, fun k hk => by rw [step k hk, if_neg (by omega), if_neg (by omega), if_neg (by omega), wrap_id (by omega) (by omega)], .inr ⟨nb + 1, by omega, ?_⟩⟩
        have := Hp.node (x := x) c1 c2 (by omega) (by rw [length_take]; omega) (okh_iff.1 hb.1) (okh_iff.1 hb.2)
        rwa [List.take_append_drop] at this
   ·refine ⟨-1, 2, fun k hk => ?_, .inl ⟨rfl, fun n hn => hin ⟨hn.parts.1, hn.parts.2.1⟩⟩⟩
    obtain ⟨k, rfl⟩ : ∃ q, k = q + 2 := ⟨k - 2, by omega⟩
    simp only [spec_l3Rank.f]
    rw [sparts_no hin (by omega), Option.bind_some, if_neg (by simp; omega), if_neg (by simp)]
    simp [spec_l3Rank.j0]
theorem srank_hp {h : List S31} {n : Nat} (hh : Hp h n) (hn : h.length ≤ 4611686018427387904) : ∃ K, ∀ k, K ≤ k → spec_l3Rank.f k h = some (n : Int) := by
 obtain ⟨r, K, e, c⟩ := srank_ok _ h (Nat.le_refl _) hn
 rcases c with ⟨_, c⟩ | ⟨m, rfl, c⟩
 ·exact absurd hh (c n)
 ·rw [hh.uniq c]
  exact ⟨K, e⟩
theorem rank_loop : ∀ (n : Nat) (h : List S31) (c : Int), Hp h n → h.length ≤ 4611686018427387904 → 0 ≤ c → c + n ≤ 4611686018427387904 → ∀ k, n < k → impl_rank.l0 k h c = some (c + n) := by
 intro n
 induction n with
 | zero =>
  intro h c hh hl h0 h1 k hk
  obtain ⟨k, rfl⟩ : ∃ q, k = q + 1 := ⟨k - 1, by omega⟩
  have : h = [] := by
   cases h with
   | nil => rfl
   | cons x t =>
    obtain ⟨_, _, _, _, e, _⟩ := hh.parts
    omega
  subst this
  simp [impl_rank.l0]
 | succ n ih =>
  intro h c hh hl h0 h1 k hk
  obtain ⟨k, rfl⟩ : ∃ q, k = q + 1 := ⟨k - 1, by omega⟩
  cases h with
  | nil => have := hh.rank_nil; omega
  | cons x t =>
   obtain ⟨p0, p1, a, b, e, _, hb, _⟩ := hh.parts
   obtain rfl : n = b := by omega
   rw [List.length_cons] at hl
   simp only [impl_rank.l0]
   rw [if_pos (by simp), parts_ok p0 p1 (by omega), Option.bind_some, wrap_id (by omega) (by omega), ih _ _ hb (by rw [length_drop]; omega) (by omega) (by omega) k (by omega)]
   congr 1
   omega
theorem rank_hp {h : List S31} {n : Nat} (hh : Hp h n) (hn : h.length ≤ 4611686018427387903) : ∀ k, n < k → impl_rank.f k h = some (n : Int) := by
 intro k hk
 unfold impl_rank.f
 have := hh.rank_le
 rw [rank_loop n h 0 hh (by omega) (by omega) (by omega) k hk]
 congr 1
 omega
theorem ne1 (l : List S31) : ¬ ((l.length : Int) + 1 = 0) := by omega
theorem isheap_j0 (k : Nat) (x : S31) (t l r : List S31) (hk : 3 ≤ k) : impl_isHeap.j0 (k + 1) (x :: t) l r false = some (okh x l && okh x r) := by
 simp only [impl_isHeap.j0]
 rw [if_neg (by simp), rdT_cons]
 cases l with
 | nil =>
  cases r with
  | nil => simp [ne1, okh]
  | cons z r =>
   rw [rdT_cons, compare_ok x z k hk]
   simp [ne1, okh, cmpT_neg]
 | cons y l =>
  rw [rdT_cons, compare_ok x y k hk]
  have e := cmpT_neg x y
  cases r with
  | nil =>
   by_cases c : cmpT x y < 0
   ·simp [c] at e
    simp [ne1, okh, ← e, c]
   ·simp [c] at e
    simp [ne1, okh, ← e, c]
  | cons z r =>
   rw [rdT_cons, compare_ok x z k hk]
   by_cases c : cmpT x y < 0
   ·simp [c] at e
    simp [ne1, okh, ← e, c, cmpT_neg]
   ·simp [c] at e
    simp [ne1, okh, e, c]
theorem isheap_j1 (k : Nat) (x l r : List S31) : impl_isHeap.j0 (k + 1) x l r true = some false := by
 simp [impl_isHeap.j0]
theorem isheap_ok : ∀ (N : Nat) (h : List S31), h.length ≤ N → N ≤ 4611686018427387900 → ∃ b K, (∀ k, K ≤ k → impl_isHeap.f k h = some b) ∧ (b = true ↔ ∃ n, Hp h n) := by
 intro N
 have nil : ∃ b K, (∀ k, K ≤ k → impl_isHeap.f k [] = some b) ∧ (b = true ↔ ∃ n, Hp [] n) := by
  refine ⟨true, 1, fun k hk => ?_, by simp; exact ⟨0, Hp.nil⟩⟩
  obtain ⟨k, rfl⟩ : ∃ q, k = q + 1 := ⟨k - 1, by omega⟩
  simp [impl_isHeap.f]
 induction N with
 | zero =>
  intro h hl hN
  obtain rfl : h = [] := List.length_eq_zero_iff.1 (by omega)
  exact nil
 | succ N ih =>
  intro h hl hN
  cases h with
  | nil => exact nil
  | cons x t =>
   rw [List.length_cons] at hl
   have hw : wrap64 (((x :: t).length : Int) - 1) = (t.length : Int) := by
    rw [List.length_cons, wrap_id (by omega) (by omega)]
    omega
   by_cases hin : 0 ≤ x.f2 ∧ x.f2 ≤ (t.length : Int)
   ·obtain ⟨a, K1, e1, c1⟩ := ih (t.take x.f2.toNat) (by rw [length_take]; omega) (by omega)
    obtain ⟨b, K2, e2, c2⟩ := ih (t.drop x.f2.toNat) (by rw [length_drop]; omega) (by omega)
    have step : ∀ k, K1 + K2 ≤ k → impl_isHeap.f (k + 1) (x :: t) = if a = true then (if b = true then ((impl_rank.f k (t.take x.f2.toNat)).bind fun p => ((impl_rank.f k (t.drop x.f2.toNat)).bind fun q => impl_isHeap.j0 k (x :: t) (t.take x.f2.toNat) (t.drop x.f2.toNat) (decide (p < q)))) else impl_isHeap.j0 k (x :: t) (t.take x.f2.toNat) (t.drop x.f2.toNat) true) else impl_isHeap.j0 k (x :: t) (t.take x.f2.toNat) (t.drop x.f2.toNat) true := by
     intro k hk
     simp only [impl_isHeap.f]
     rw [if_neg (by simp; omega), if_pos (by simp), size_ok, Option.bind_some, hw, rdT_cons, within_ok, Option.bind_some, if_pos (by simp; omega), parts_ok hin.1 hin.2 (by omega), Option.bind_some]
     simp only
     rw [e1 k (by omega), Option.bind_some]
     by_cases ha : a = true
     ·rw [if_pos ha, if_pos ha, e2 k (by omega), Option.bind_some]
     ·rw [if_neg ha, if_neg ha]
    by_cases ha : a = true
    ·by_cases hb : b = true
     ·obtain ⟨na, h1⟩ := c1.1 ha
      obtain ⟨nb, h2⟩ := c2.1 hb
      have ha2 := h1.rank_le
      have hb2 := h2.rank_le
      rw [length_take] at ha2
      rw [length_drop] at hb2
      have step2 : ∀ k, K1 + K2 + na + nb + 5 ≤ k → impl_isHeap.f (k + 1) (x :: t) = impl_isHeap.j0 k (x :: t) (t.take x.f2.toNat) (t.drop x.f2.toNat) (decide ((na : Int) < nb)) := by
       intro k hk
       rw [step k (by omega), if_pos ha, if_pos hb, rank_hp h1 (by rw [length_take]; omega) k (by omega), rank_hp h2 (by rw [length_drop]; omega) k (by omega), Option.bind_some, Option.bind_some]
      by_cases hab : na < nb
      ·refine ⟨false, K1 + K2 + na + nb + 7, fun k hk => ?_, ?_⟩
       ·obtain ⟨k, rfl⟩ : ∃ q, k = q + 2 := ⟨k - 2, by omega⟩
        rw [step2 _ (by omega), decide_eq_true (by omega), isheap_j1]
       ·constructor
        ·intro h; cases h
        ·rintro ⟨n, hn⟩
         obtain ⟨_, _, p, q, _, hp, hq, hpq, _⟩ := hn.parts
         have := hp.uniq h1
         have := hq.uniq h2
         omega
      ·refine ⟨okh x (t.take x.f2.toNat) && okh x (t.drop x.f2.toNat), K1 + K2 + na + nb + 7, fun k hk => ?_, ?_⟩
       ·obtain ⟨k, rfl⟩ : ∃ q, k = q + 2 := ⟨k - 2, by omega⟩
        rw [step2 _ (by omega), decide_eq_false (by omega), isheap_j0 _ _ _ _ _ (by omega)]
       ·rw [Bool.and_eq_true, okh_iff, okh_iff]
        constructor
        ·rintro ⟨g1, g2⟩
         have := Hp.node (x := x) h1 h2 (by omega) (by rw [length_take]; omega) g1 g2
         rw [List.take_append_drop] at this
         exact ⟨_, this⟩
        ·rintro ⟨n, hn⟩
         obtain ⟨_, _, p, q, _, _, _, _, g1, g2⟩ := hn.parts
         exact ⟨g1, g2⟩
     ·refine ⟨false, K1 + K2 + 2, fun k hk => ?_, ?_⟩
      ·obtain ⟨k, rfl⟩ : ∃ q, k = q + 2 := ⟨k - 2, by omega⟩
       rw [step _ (by omega), if_pos ha, if_neg hb, isheap_j1]
      ·constructor
       ·intro h; cases h
       ·rintro ⟨n, hn⟩
        obtain ⟨_, _, p, q, _, hp, hq, _⟩ := hn.parts
        exact absurd (c2.2 ⟨_, hq⟩) hb
    ·refine ⟨false, K1 + K2 + 2, fun k hk => ?_, ?_⟩
     ·obtain ⟨k, rfl⟩ : ∃ q, k = q + 2 := ⟨k - 2, by omega⟩
      rw [step _ (by omega), if_neg ha, isheap_j1]
     ·constructor
      ·intro h; cases h
      ·rintro ⟨n, hn⟩
       obtain ⟨_, _, p, q, _, hp, hq, _⟩ := hn.parts
       exact absurd (c1.2 ⟨_, hp⟩) ha
   ·refine ⟨false, 1, fun k hk => ?_, ?_⟩
    ·obtain ⟨k, rfl⟩ : ∃ q, k = q + 1 := ⟨k - 1, by omega⟩
     simp only [impl_isHeap.f]
     rw [if_neg (by simp; omega), if_pos (by simp), size_ok, Option.bind_some, hw, rdT_cons, within_ok, Option.bind_some, if_neg (by simp; omega)]
    ·constructor
     ·intro h; cases h
     ·rintro ⟨n, hn⟩
      exact absurd ⟨hn.parts.1, hn.parts.2.1⟩ hin
/-- The place of a number, from i on. -/
def findT (q : Int) : List S31 → Int → Int
 | [], _ => -1
 | x :: t, i => if x.f1 = q then i else findT q t (i + 1)
theorem findT_iff (q : Int) : ∀ (l : List S31) (i : Int), 0 ≤ i → (0 ≤ findT q l i ↔ q ∈ l.map S31.f1) := by
 intro l
 induction l with
 | nil => intro i _; simp [findT]
 | cons x t ih =>
  intro i hi
  unfold findT
  by_cases h : x.f1 = q
  ·rw [if_pos h]
   simp [h, hi]
  ·rw [if_neg h, ih (i + 1) (by omega)]
   simp [Ne.symm h]
theorem seq_loop (l : List S31) (q : Int) (hl : l.length ≤ 4611686018427387904) : ∀ (m j k : Nat), j + m = l.length → m < k → impl_Twig_83.l0 k l q (l.length : Int) (j : Int) = some (findT q (l.drop j) j) := by
 intro m
 induction m with
 | zero =>
  intro j k hj hk
  obtain ⟨k, rfl⟩ : ∃ q, k = q + 1 := ⟨k - 1, by omega⟩
  simp only [impl_Twig_83.l0]
  rw [if_neg (by omega), List.drop_eq_nil_of_le (by omega)]
  rfl
 | succ m ih =>
  intro j k hj hk
  obtain ⟨k, rfl⟩ : ∃ q, k = q + 1 := ⟨k - 1, by omega⟩
  have hlt : j < l.length := by omega
  simp only [impl_Twig_83.l0]
  rw [if_pos (by omega), if_pos (by omega), if_pos (by omega), rdT_at hlt, wrap_id (by omega) (by omega), show ((j : Int) + 1) = ((j + 1 : Nat) : Int) by omega, ih (j + 1) k (by omega) (by omega), List.drop_eq_getElem_cons hlt]
  unfold impl_seqAt_1.f
  rw [Option.bind_some]
  conv => rhs; unfold findT
  by_cases h : l[j].f1 = q
  ·rw [if_pos (by simp [h]), if_pos h]
  ·rw [if_neg (by simp [h]), if_neg h]
   rfl
theorem seqAt_ok (l : List S31) (q : Int) (hl : l.length ≤ 4611686018427387904) (k : Nat) (hk : l.length < k) : impl_seqAt.f k l q = some (findT q l 0) := by
 unfold impl_seqAt.f impl_Twig_83.f
 have := seq_loop l q hl l.length 0 k (by omega) hk
 rw [show ((0 : Nat) : Int) = 0 from rfl] at this
 rw [this, Option.bind_some]
 rfl
/-- No number twice. -/
def ndT (l : List S31) : Prop := (l.map S31.f1).Nodup
theorem ndT_snoc {l : List S31} {j : Nat} (h : j < l.length) : ndT (l.take (j + 1)) ↔ ndT (l.take j) ∧ ¬ l[j].f1 ∈ (l.take j).map S31.f1 := by
 unfold ndT
 rw [List.take_succ_eq_append_getElem h, List.map_append, map_cons, map_nil, List.nodup_append]
 constructor
 ·rintro ⟨h1, _, h3⟩
  exact ⟨h1, fun hm => h3 _ hm _ (by simp) rfl⟩
 ·rintro ⟨h1, h2⟩
  refine ⟨h1, by simp, ?_⟩
  intro a ha b hb e
  simp at hb
  subst hb
  subst e
  exact h2 ha
theorem ndT_take {l : List S31} (h : ndT l) (j : Nat) : ndT (l.take j) := by
 unfold ndT at *
 rw [List.map_take]
 exact List.Pairwise.sublist (List.take_sublist _ _) h
theorem heap_loop (l : List S31) (hl : l.length ≤ 4611686018427387900) : ∀ (m j : Nat), j + m = l.length → ndT (l.take j) → ∃ b K, (∀ k, K ≤ k → impl_HeapOk.l0 k l l (l.length : Int) (j : Int) = some b) ∧ (b = true ↔ ndT l ∧ ∃ n, Hp l n) := by
 intro m
 induction m with
 | zero =>
  intro j hj hnd
  obtain ⟨b, K, e, hb⟩ := isheap_ok _ l (Nat.le_refl _) hl
  refine ⟨b, K + 1, fun k hk => ?_, ?_⟩
  ·obtain ⟨k, rfl⟩ : ∃ q, k = q + 1 := ⟨k - 1, by omega⟩
   simp only [impl_HeapOk.l0]
   rw [if_neg (by omega), e k (by omega), Option.bind_some]
  ·rw [List.take_of_length_le (by omega)] at hnd
   rw [hb]
   exact ⟨fun h => ⟨hnd, h⟩, fun h => h.2⟩
 | succ m ih =>
  intro j hj hnd
  have hlt : j < l.length := by omega
  have step : ∀ k, l.length < k → impl_HeapOk.l0 (k + 1) l l (l.length : Int) (j : Int) = if 0 ≤ findT l[j].f1 (l.take j) 0 then some false else impl_HeapOk.l0 k l l (l.length : Int) ((j + 1 : Nat) : Int) := by
   intro k hk
   simp only [impl_HeapOk.l0]
   rw [if_pos (by omega), if_pos (by omega), if_pos (by omega), if_pos (by omega), rdT_at hlt, Int.toNat_natCast, seqAt_ok _ _ (by rw [length_take]; omega) k (by rw [length_take]; omega), Option.bind_some, wrap_id (by omega) (by omega)]
   rfl
  by_cases hf : 0 ≤ findT l[j].f1 (l.take j) 0
  ·refine ⟨false, l.length + 2, fun k hk => ?_, ?_⟩
   ·obtain ⟨k, rfl⟩ : ∃ q, k = q + 1 := ⟨k - 1, by omega⟩
    rw [step k (by omega), if_pos hf]
   ·constructor
    ·intro h; cases h
    ·rintro ⟨h, _⟩
     rw [findT_iff _ _ _ (by omega)] at hf
     exact absurd hf ((ndT_snoc hlt).1 (ndT_take h (j + 1))).2
  ·obtain ⟨b, K, e, hb⟩ := ih (j + 1) (by omega) ((ndT_snoc hlt).2 ⟨hnd, by rw [findT_iff _ _ _ (by omega)] at hf; exact hf⟩)
   refine ⟨b, K + l.length + 2, fun k hk => ?_, hb⟩
   obtain ⟨k, rfl⟩ : ∃ q, k = q + 1 := ⟨k - 1, by omega⟩
   rw [step k (by omega), if_neg hf, e k (by omega)]
theorem twice_in (l : List S31) (hl : l.length ≤ 4611686018427387900) (i : Nat) (hi : i < l.length) : ∀ (m p k : Nat), p + m = i → spec_l3Twice.l1 (k + m + 1) l (i : Int) (p : Int) = if l[i].f1 ∈ ((l.take i).drop p).map S31.f1 then some true else spec_l3Twice.l0 k l ((i + 1 : Nat) : Int) := by
 intro m
 induction m with
 | zero =>
  intro p k hp
  rw [spec_l3Twice.l1, if_neg (by omega), List.drop_eq_nil_of_le (by rw [length_take]; omega), if_neg (by simp), wrap_id (by omega) (by omega)]
  rfl
 | succ m ih =>
  intro p k hp
  have hlt : p < (l.take i).length := by rw [length_take]; omega
  rw [spec_l3Twice.l1, if_pos (by omega), if_pos (by omega), if_pos (by omega), if_pos (by omega), if_pos (by omega), rdT_at hi, rdT_at (show p < l.length by omega), wrap_id (by omega) (by omega), show ((p : Int) + 1) = ((p + 1 : Nat) : Int) by omega, show k + (m + 1) = k + m + 1 by omega, ih (p + 1) k (by omega), List.drop_eq_getElem_cons hlt, map_cons, List.getElem_take]
  by_cases h : l[i].f1 = l[p].f1
  ·rw [if_pos h, if_pos (by rw [h]; simp)]
  ·rw [if_neg h]
   simp only [List.mem_cons, h, false_or]
theorem twice_out (l : List S31) (hl : l.length ≤ 4611686018427387900) : ∀ (m i : Nat), i + m = l.length → ndT (l.take i) → ∃ b K, (∀ k, K ≤ k → spec_l3Twice.l0 k l (i : Int) = some b) ∧ (b = false ↔ ndT l) := by
 intro m
 induction m with
 | zero =>
  intro i hi hnd
  refine ⟨false, 1, fun k hk => ?_, ?_⟩
  ·obtain ⟨k, rfl⟩ : ∃ q, k = q + 1 := ⟨k - 1, by omega⟩
   rw [spec_l3Twice.l0, if_neg (by omega)]
  ·rw [List.take_of_length_le (by omega)] at hnd
   simp [hnd]
 | succ m ih =>
  intro i hi hnd
  have hlt : i < l.length := by omega
  have step : ∀ k, spec_l3Twice.l0 (k + i + 2) l (i : Int) = if l[i].f1 ∈ (l.take i).map S31.f1 then some true else spec_l3Twice.l0 k l ((i + 1 : Nat) : Int) := by
   intro k
   have := twice_in l hl i hlt i 0 k (by omega)
   rw [List.drop_zero] at this
   rw [spec_l3Twice.l0, if_pos (by omega)]
   exact this
  by_cases hm : l[i].f1 ∈ (l.take i).map S31.f1
  ·refine ⟨true, i + 2, fun k hk => ?_, ?_⟩
   ·obtain ⟨k, rfl⟩ : ∃ q, k = q + i + 2 := ⟨k - i - 2, by omega⟩
    rw [step, if_pos hm]
   ·constructor
    ·intro h; cases h
    ·intro h
     exact absurd hm ((ndT_snoc hlt).1 (ndT_take h (i + 1))).2
  ·obtain ⟨b, K, e, hb⟩ := ih (i + 1) (by omega) ((ndT_snoc hlt).2 ⟨hnd, hm⟩)
   refine ⟨b, K + i + 2, fun k hk => ?_, hb⟩
   obtain ⟨k, rfl⟩ : ∃ q, k = q + i + 2 := ⟨k - i - 2, by omega⟩
   rw [step, if_neg hm, e k (by omega)]
/-- A heap that the program takes. -/
def OkT (l : List S31) : Prop := l.length ≤ 64 ∧ ndT l ∧ ∃ n, Hp l n
theorem twice_ok (l : List S31) (hl : l.length ≤ 4611686018427387900) : ∃ b K, (∀ k, K ≤ k → spec_l3Twice.f k l = some b) ∧ (b = false ↔ ndT l) := by
 obtain ⟨b, K, e, hb⟩ := twice_out l hl l.length 0 (by omega) (by simp [ndT])
 exact ⟨b, K, fun k hk => e k hk, hb⟩
theorem heapOk_ok (l : List S31) (hl : l.length ≤ 4611686018427387900) : ∃ b K, (∀ k, K ≤ k → spec_HeapOk.f k l = some b ∧ impl_HeapOk.f k l = some b) ∧ (b = true ↔ OkT l) := by
 by_cases h64 : l.length ≤ 64
 ·obtain ⟨b1, K1, e1, h1⟩ := twice_ok l hl
  obtain ⟨r, K2, e2, h2⟩ := srank_ok _ l (Nat.le_refl _) (by omega)
  obtain ⟨b3, K3, e3, h3⟩ := heap_loop l hl l.length 0 (by omega) (by simp [ndT])
  refine ⟨b3, K1 + K2 + K3, fun k hk => ⟨?_, ?_⟩, ?_⟩
  ·unfold spec_HeapOk.f
   rw [if_pos (by omega), e1 k (by omega), Option.bind_some]
   cases b1 with
   | true =>
    rw [if_pos rfl]
    congr 1
    cases b3 with
    | false => rfl
    | true => exact absurd (h1.2 (h3.1 rfl).1) (by simp)
   | false =>
    rw [if_neg (by simp), e2 k (by omega), Option.bind_some]
    congr 1
    rcases h2 with ⟨rfl, hn⟩ | ⟨n, rfl, hn⟩
    ·cases b3 with
     | false => rfl
     | true =>
      obtain ⟨_, n, hh⟩ := h3.1 rfl
      exact absurd hh (hn n)
    ·rw [decide_eq_true (by omega)]
     exact (h3.2 ⟨h1.1 rfl, n, hn⟩).symm
  ·unfold impl_HeapOk.f
   rw [if_neg (by omega)]
   exact e3 k (by omega)
  ·rw [h3]
   exact ⟨fun h => ⟨h64, h⟩, fun h => h.2⟩
 ·refine ⟨false, 0, fun k hk => ⟨?_, ?_⟩, ?_⟩
  ·unfold spec_HeapOk.f
   rw [if_neg (by omega)]
  ·unfold impl_HeapOk.f
   rw [if_pos (by omega)]
  ·constructor
   ·intro h; cases h
   ·intro h
    exact absurd h.1 h64
theorem copyT_ok (l : List S31) (hl : l.length < 5000000000000) : spec_l3Copy.f l = some l ∧ impl_Twig_72.f l = some l := by
 constructor
 ·unfold spec_l3Copy.f
  rw [Option.bind_some, if_pos (by simp; omega)]
  rfl
 ·unfold impl_Twig_72.f
  rw [Option.bind_some, if_pos (by simp; omega)]
  rfl
theorem joined_ok (x : S31) (l m : List S31) {p q : Nat} (h1 : Hp l p) (h2 : Hp m q) (hl : l.length + m.length ≤ 4000000000000) : ∃ K, ∀ k, K ≤ k → spec_l3Join.f k x.f0 x.f1 x.f2 l m = some (joinT x l m p q) ∧ impl_joined.f k x.f0 x.f1 x.f2 l m = some (joinT x l m p q) := by
 obtain ⟨K1, e1⟩ := srank_hp h1 (by omega)
 obtain ⟨K2, e2⟩ := srank_hp h2 (by omega)
 have e3 := rank_hp h1 (by omega)
 have e4 := rank_hp h2 (by omega)
 refine ⟨K1 + K2 + p + q + 1, fun k hk => ⟨?_, ?_⟩⟩
 ·unfold spec_l3Join.f joinT
  rw [e1 k (by omega), e2 k (by omega), Option.bind_some, Option.bind_some]
  by_cases h : p < q
  ·rw [if_pos (by omega), if_pos h, Option.bind_some, if_pos (by simp; omega), Option.bind_some, if_pos (by simp; omega)]
   simp
  ·rw [if_neg (by omega), if_neg h, Option.bind_some, if_pos (by simp; omega), Option.bind_some, if_pos (by simp; omega)]
   simp
 ·unfold impl_joined.f joinT
  rw [e3 k (by omega), e4 k (by omega), Option.bind_some, Option.bind_some]
  by_cases h : p < q
  ·rw [if_pos (by omega), if_pos h, size_ok, Option.bind_some, Option.bind_some, if_pos (by simp; omega), Option.bind_some, if_pos (by simp; omega)]
   simp
  ·rw [if_neg (by omega), if_neg h, size_ok, Option.bind_some, Option.bind_some, if_pos (by simp; omega), Option.bind_some, if_pos (by simp; omega)]
   simp
/-- No number in common. -/
def disT (a b : List S31) : Prop := ∀ x ∈ a, ∀ y ∈ b, x.f1 ≠ y.f1
theorem disT_symm {a b : List S31} (h : disT a b) : disT b a := fun x hx y hy e => h y hy x hx e.symm
theorem keys_parts (x : S31) (t : List S31) (n : Nat) (u : List (Int × Int)) : keyT x :: ((t.take n).map keyT ++ ((t.drop n).map keyT ++ u)) = (x :: t).map keyT ++ u := by
 rw [← List.append_assoc, ← List.map_append, List.take_append_drop]
 rfl
theorem merge_ok : ∀ (N : Nat) (a b : List S31) (p q : Nat), a.length + b.length ≤ N → N ≤ 2000000 → Hp a p → Hp b q → disT a b →
  ∃ m n, Hp m n ∧ (m.map keyT).Perm (a.map keyT ++ b.map keyT) ∧ ∃ K, ∀ k, K ≤ k → spec_l3Merge.f k a b = some m ∧ impl_merge.f k a b = some m := by
 intro N
 induction N with
 | zero =>
  intro a b p q hl hN h1 h2 hd
  obtain rfl : a = [] := List.length_eq_zero_iff.1 (by omega)
  refine ⟨b, q, h2, List.Perm.refl _, 1, fun k hk => ?_⟩
  obtain ⟨k, rfl⟩ : ∃ q, k = q + 1 := ⟨k - 1, by omega⟩
  simp only [spec_l3Merge.f, impl_merge.f]
  rw [if_pos (by simp), if_pos (by simp), (copyT_ok b (by omega)).1, (copyT_ok b (by omega)).2]
  exact ⟨rfl, rfl⟩
 | succ N ih =>
  intro a b p q hl hN h1 h2 hd
  cases a with
  | nil =>
   refine ⟨b, q, h2, List.Perm.refl _, 1, fun k hk => ?_⟩
   obtain ⟨k, rfl⟩ : ∃ q, k = q + 1 := ⟨k - 1, by omega⟩
   simp only [spec_l3Merge.f, impl_merge.f]
   rw [if_pos (by simp), if_pos (by simp), (copyT_ok b (by omega)).1, (copyT_ok b (by omega)).2]
   exact ⟨rfl, rfl⟩
  | cons x t =>
   rw [List.length_cons] at hl
   cases b with
   | nil =>
    refine ⟨x :: t, p, h1, by simp, 1, fun k hk => ?_⟩
    obtain ⟨k, rfl⟩ : ∃ q, k = q + 1 := ⟨k - 1, by omega⟩
    have c := copyT_ok (x :: t) (by rw [List.length_cons]; simp at hl; omega)
    constructor
    ·simp only [spec_l3Merge.f]
     rw [if_neg (by simp; omega), if_pos (by simp), c.1]
     rfl
    ·simp only [impl_merge.f]
     rw [if_neg (by simp; omega), if_pos (by simp), c.2]
     rfl
   | cons y s =>
    rw [List.length_cons] at hl
    have hxy : x.f1 ≠ y.f1 := hd x (by simp) y (by simp)
    have L1 := h1.least
    have L2 := h2.least
    by_cases hah : ah x y = true
    ·obtain ⟨p0, p1, pa, pb, rfl, hpa, hpb, hle, _, _⟩ := h1.parts
     have hsub : ∀ z ∈ t.drop x.f2.toNat, z ∈ t := fun z hz => List.mem_of_mem_drop hz
     obtain ⟨m, n, hm, hp, K1, e1⟩ := ih (t.drop x.f2.toNat) (y :: s) pb q (by rw [length_drop, List.length_cons]; omega) (by omega) hpb h2 (fun z hz w hw => hd z (by simp [hsub z hz]) w hw)
     have hp0 := hp
     rw [← List.map_append] at hp
     have hall : ∀ z ∈ t.drop x.f2.toNat ++ y :: s, ah x z = true := by
      intro z hz
      rcases List.mem_append.1 hz with hz | hz
      ·exact L1 z (hsub z hz)
      ·rcases List.mem_cons.1 hz with rfl | hz
       ·exact hah
       ·exact ah_trans hah (L2 z hz)
     have hm2 := ah_perm hp hall
     have hl2 : ∀ z ∈ t.take x.f2.toNat, ah x z = true := fun z hz => L1 z (List.mem_of_mem_take hz)
     have hmlen := perm_length hp
     rw [List.length_append, List.length_cons, length_drop] at hmlen
     obtain ⟨n2, hj⟩ := joinT_hp hpa hm hl2 hm2
     obtain ⟨K2, e2⟩ := joined_ok x (t.take x.f2.toNat) m hpa hm (by rw [length_take]; omega)
     refine ⟨joinT x (t.take x.f2.toNat) m pa n, n2, hj, ?_, K1 + K2 + 4, fun k hk => ?_⟩
     ·refine (joinT_perm _ _ _ _ _).trans ?_
      rw [← keys_parts x t x.f2.toNat]
      exact List.Perm.cons _ (List.Perm.append_left _ hp0)
     ·obtain ⟨k, rfl⟩ : ∃ q, k = q + 1 := ⟨k - 1, by omega⟩
      constructor
      ·simp only [spec_l3Merge.f]
       rw [if_neg (by simp; omega), if_neg (by simp; omega), if_pos (by simp), if_pos (by simp), rdT_cons, rdT_cons, sahead_ok, Option.bind_some, if_pos hah, sparts_ok p0 p1 (by omega), Option.bind_some]
       simp only
       rw [(e1 k (by omega)).1, Option.bind_some, (e2 k (by omega)).1, Option.bind_some]
      ·have hc : ¬ cmpT y x < 0 := by
        intro hc
        have := cmpT_neg y x
        rw [decide_eq_true hc, ah_asymm hah] at this
        cases this
       simp only [impl_merge.f]
       rw [if_neg (by simp; omega), if_neg (by simp; omega), if_pos (by simp), if_pos (by simp), rdT_cons, rdT_cons, compare_ok y x k (by omega), Option.bind_some, if_neg hc, parts_ok p0 p1 (by omega), Option.bind_some]
       simp only
       rw [(e1 k (by omega)).2, Option.bind_some, (e2 k (by omega)).2, Option.bind_some]
    ·have hya : ah y x = true := (ah_total hxy).resolve_left hah
     obtain ⟨p0, p1, pa, pb, rfl, hpa, hpb, hle, _, _⟩ := h2.parts
     have hsub : ∀ z ∈ s.drop y.f2.toNat, z ∈ s := fun z hz => List.mem_of_mem_drop hz
     obtain ⟨m, n, hm, hp, K1, e1⟩ := ih (s.drop y.f2.toNat) (x :: t) pb p (by rw [length_drop, List.length_cons]; omega) (by omega) hpb h1 (fun z hz w hw => disT_symm hd z (by simp [hsub z hz]) w hw)
     have hp0 := hp
     rw [← List.map_append] at hp
     have hall : ∀ z ∈ s.drop y.f2.toNat ++ x :: t, ah y z = true := by
      intro z hz
      rcases List.mem_append.1 hz with hz | hz
      ·exact L2 z (hsub z hz)
      ·rcases List.mem_cons.1 hz with rfl | hz
       ·exact hya
       ·exact ah_trans hya (L1 z hz)
     have hm2 := ah_perm hp hall
     have hl2 : ∀ z ∈ s.take y.f2.toNat, ah y z = true := fun z hz => L2 z (List.mem_of_mem_take hz)
     have hmlen := perm_length hp
     rw [List.length_append, List.length_cons, length_drop] at hmlen
     obtain ⟨n2, hj⟩ := joinT_hp hpa hm hl2 hm2
     obtain ⟨K2, e2⟩ := joined_ok y (s.take y.f2.toNat) m hpa hm (by rw [length_take]; omega)
     refine ⟨joinT y (s.take y.f2.toNat) m pa n, n2, hj, ?_, K1 + K2 + 4, fun k hk => ?_⟩
     ·refine (joinT_perm _ _ _ _ _).trans ?_
      refine List.Perm.trans ?_ List.perm_append_comm
      rw [← keys_parts y s y.f2.toNat]
      exact List.Perm.cons _ (List.Perm.append_left _ hp0)
     ·obtain ⟨k, rfl⟩ : ∃ q, k = q + 1 := ⟨k - 1, by omega⟩
      constructor
      ·simp only [spec_l3Merge.f]
       rw [if_neg (by simp; omega), if_neg (by simp; omega), if_pos (by simp), if_pos (by simp), rdT_cons, rdT_cons, sahead_ok, Option.bind_some, if_neg hah, sparts_ok p0 p1 (by omega), Option.bind_some]
       simp only
       rw [(e1 k (by omega)).1, Option.bind_some, (e2 k (by omega)).1, Option.bind_some]
      ·have hc : cmpT y x < 0 := by
        have := cmpT_neg y x
        rw [hya] at this
        exact of_decide_eq_true this
       simp only [impl_merge.f]
       rw [if_neg (by simp; omega), if_neg (by simp; omega), if_pos (by simp), if_pos (by simp), rdT_cons, rdT_cons, compare_ok y x k (by omega), Option.bind_some, if_pos hc, parts_ok p0 p1 (by omega), Option.bind_some]
       simp only
       rw [(e1 k (by omega)).2, Option.bind_some, (e2 k (by omega)).2, Option.bind_some]
theorem ndT_append {a b : List S31} : ndT (a ++ b) ↔ ndT a ∧ ndT b ∧ disT a b := by
 unfold ndT disT
 rw [List.map_append, List.nodup_append]
 constructor
 ·rintro ⟨h1, h2, h3⟩
  exact ⟨h1, h2, fun x hx y hy => h3 _ (List.mem_map_of_mem hx) _ (List.mem_map_of_mem hy)⟩
 ·rintro ⟨h1, h2, h3⟩
  refine ⟨h1, h2, fun u hu v hv => ?_⟩
  obtain ⟨x, hx, rfl⟩ := List.mem_map.1 hu
  obtain ⟨y, hy, rfl⟩ := List.mem_map.1 hv
  exact h3 x hx y hy
theorem ndT_cons {x : S31} {t : List S31} (h : ndT (x :: t)) : ndT t ∧ ¬ x.f1 ∈ t.map S31.f1 := by
 unfold ndT at *
 rw [map_cons, List.nodup_cons] at h
 exact ⟨h.2, h.1⟩
theorem ndT_cut {t : List S31} (h : ndT t) (n : Nat) : ndT (t.take n) ∧ ndT (t.drop n) ∧ disT (t.take n) (t.drop n) := by
 rw [← List.take_append_drop n t] at h
 exact ndT_append.1 h
theorem mg_loop (a b : List S31) (ha : a.length ≤ 4611686018427387900) (hb : b.length ≤ 4611686018427387900) : ∀ (m j : Nat), j + m = a.length → ∃ r K, (∀ k, K ≤ k → impl_Merged_1.l0 k a b (a.length : Int) (j : Int) = some r) ∧ -1 ≤ r ∧ (r < 0 ↔ disT (a.drop j) b) := by
 intro m
 induction m with
 | zero =>
  intro j hj
  refine ⟨-1, 1, fun k hk => ?_, by omega, ?_⟩
  ·obtain ⟨k, rfl⟩ : ∃ q, k = q + 1 := ⟨k - 1, by omega⟩
   simp only [impl_Merged_1.l0]
   rw [if_neg (by omega)]
  ·rw [List.drop_eq_nil_of_le (by omega)]
   constructor
   ·intro _ x hx
    cases hx
   ·intro _
    omega
 | succ m ih =>
  intro j hj
  have hlt : j < a.length := by omega
  have step : ∀ k, b.length < k → impl_Merged_1.l0 (k + 1) a b (a.length : Int) (j : Int) = if 0 ≤ findT a[j].f1 b 0 then some (j : Int) else impl_Merged_1.l0 k a b (a.length : Int) ((j + 1 : Nat) : Int) := by
   intro k hk
   simp only [impl_Merged_1.l0]
   unfold impl_Merged_1.c
   rw [if_pos (by omega), if_pos (by omega), if_pos (by omega), rdT_at hlt, seqAt_ok _ _ (by omega) k hk, Option.bind_some, Option.bind_some, wrap_id (by omega) (by omega)]
   by_cases h : 0 ≤ findT a[j].f1 b 0
   ·rw [if_pos (by simp [h]), if_pos h]
   ·rw [if_neg (by simp; omega), if_neg h]
    rfl
  have hmem : 0 ≤ findT a[j].f1 b 0 ↔ ∃ y ∈ b, y.f1 = a[j].f1 := by
   rw [findT_iff _ _ _ (by omega), List.mem_map]
  by_cases hf : 0 ≤ findT a[j].f1 b 0
  ·refine ⟨j, b.length + 2, fun k hk => ?_, by omega, ?_⟩
   ·obtain ⟨k, rfl⟩ : ∃ q, k = q + 1 := ⟨k - 1, by omega⟩
    rw [step k (by omega), if_pos hf]
   ·constructor
    ·intro h
     omega
    ·intro h
     obtain ⟨y, hy, e⟩ := hmem.1 hf
     exact absurd e.symm (h a[j] (by rw [List.drop_eq_getElem_cons hlt]; exact List.mem_cons_self) y hy)
  ·obtain ⟨r, K, e, hr, hi⟩ := ih (j + 1) (by omega)
   refine ⟨r, K + b.length + 2, fun k hk => ?_, hr, ?_⟩
   ·obtain ⟨k, rfl⟩ : ∃ q, k = q + 1 := ⟨k - 1, by omega⟩
    rw [step k (by omega), if_neg hf, e k (by omega)]
   ·rw [hi, List.drop_eq_getElem_cons hlt]
    constructor
    ·intro h x hx y hy
     rcases List.mem_cons.1 hx with rfl | hx
     ·intro e
      exact hf (hmem.2 ⟨y, hy, e.symm⟩)
     ·exact h x hx y hy
    ·intro h x hx y hy
     exact h x (List.mem_cons_of_mem _ hx) y hy
theorem mg_ok (a b : List S31) (ha : a.length ≤ 4611686018427387900) (hb : b.length ≤ 4611686018427387900) : ∃ r K, (∀ k, K ≤ k → impl_Merged_1.f k a b = some r) ∧ (r = false ↔ disT a b) := by
 obtain ⟨r, K, e, hr, hi⟩ := mg_loop a b ha hb a.length 0 (by omega)
 refine ⟨decide (0 ≤ r), K, fun k hk => ?_, ?_⟩
 ·unfold impl_Merged_1.f impl_Merged_1.i
  have := e k hk
  rw [show ((0 : Nat) : Int) = 0 from rfl] at this
  rw [this, Option.bind_some]
 ·rw [List.drop_zero] at hi
  rw [← hi]
  simp
/-- What the union of two heaps is. -/
structure MergedT (a b m : List S31) (ok : Bool) : Prop where
 yes : ok = true ↔ OkT a ∧ OkT b ∧ a.length + b.length ≤ 64 ∧ disT a b
 heap : ok = true → ∃ n, Hp m n
 keys : ok = true → (m.map keyT).Perm (a.map keyT ++ b.map keyT)
 none : ok = false → m = []
theorem merged_ok (a b : List S31) (ha : a.length ≤ 1048576) (hb : b.length ≤ 1048576) : ∃ m ok, MergedT a b m ok ∧ ∃ K, ∀ k, K ≤ k → spec_Merged.f k a b = some (m, ok) ∧ impl_Merged.f k a b = some (m, ok) := by
 obtain ⟨b1, K1, e1, h1⟩ := heapOk_ok a (by omega)
 obtain ⟨b2, K2, e2, h2⟩ := heapOk_ok b (by omega)
 have hw : wrap64 ((a.length : Int) + (b.length : Int)) = (a.length : Int) + (b.length : Int) := wrap_id (by omega) (by omega)
 have no : ¬ (OkT a ∧ OkT b ∧ a.length + b.length ≤ 64 ∧ disT a b) → MergedT a b [] false := fun h => ⟨⟨(fun e => by cases e), fun e => absurd e h⟩, (fun e => by cases e), (fun e => by cases e), fun _ => rfl⟩
 cases b1 with
 | false =>
  refine ⟨[], false, no (fun h => by have := h1.2 h.1; cases this), K1, fun k hk => ⟨?_, ?_⟩⟩
  ·unfold spec_Merged.f
   rw [(e1 k hk).1]
   simp
  ·unfold impl_Merged.f
   rw [(e1 k hk).2]
   simp
 | true =>
  cases b2 with
  | false =>
   refine ⟨[], false, no (fun h => by have := h2.2 h.2.1; cases this), K1 + K2, fun k hk => ⟨?_, ?_⟩⟩
   ·unfold spec_Merged.f
    rw [(e1 k (by omega)).1, Option.bind_some, if_pos rfl, (e2 k (by omega)).1]
    simp
   ·unfold impl_Merged.f
    rw [(e1 k (by omega)).2, Option.bind_some, if_pos rfl, (e2 k (by omega)).2]
    simp
  | true =>
   obtain ⟨la, na, pa, hpa⟩ := h1.1 rfl
   obtain ⟨lb, nb, pb, hpb⟩ := h2.1 rfl
   by_cases hlen : a.length + b.length ≤ 64
   ·obtain ⟨r, K3, e3, h3⟩ := mg_ok a b (by omega) (by omega)
    obtain ⟨t, K4, e4, h4⟩ := twice_ok (a ++ b) (by rw [List.length_append]; omega)
    have hc := (copyT_ok a (by omega)).1
    by_cases hd : disT a b
    ·obtain ⟨m, n, hm, hp, K5, e5⟩ := merge_ok _ a b pa pb (Nat.le_refl _) (by omega) hpa hpb hd
     obtain rfl : r = false := h3.2 hd
     obtain rfl : t = false := h4.2 (ndT_append.2 ⟨na, nb, hd⟩)
     refine ⟨m, true, ⟨⟨fun _ => ⟨h1.1 rfl, h2.1 rfl, hlen, hd⟩, fun _ => rfl⟩, fun _ => ⟨n, hm⟩, fun _ => hp, (fun e => by cases e)⟩, K1 + K2 + K3 + K4 + K5, fun k hk => ⟨?_, ?_⟩⟩
     ·unfold spec_Merged.f
      rw [(e1 k (by omega)).1, Option.bind_some, if_pos rfl, (e2 k (by omega)).1, Option.bind_some, if_pos rfl, hw, if_neg (by omega), hc, Option.bind_some, if_pos (by omega), e4 k (by omega), Option.bind_some, if_neg (by simp), (e5 k (by omega)).1, Option.bind_some]
     ·unfold impl_Merged.f
      rw [(e1 k (by omega)).2, Option.bind_some, if_pos rfl, (e2 k (by omega)).2, Option.bind_some, if_pos rfl, hw, if_neg (by omega), e3 k (by omega), Option.bind_some, if_neg (by simp), (e5 k (by omega)).2, Option.bind_some]
    ·obtain rfl : r = true := by
      cases r with
      | true => rfl
      | false => exact absurd (h3.1 rfl) hd
     obtain rfl : t = true := by
      cases t with
      | true => rfl
      | false => exact absurd (ndT_append.1 (h4.1 rfl)).2.2 hd
     refine ⟨[], false, no (fun h => hd h.2.2.2), K1 + K2 + K3 + K4, fun k hk => ⟨?_, ?_⟩⟩
     ·unfold spec_Merged.f
      rw [(e1 k (by omega)).1, Option.bind_some, if_pos rfl, (e2 k (by omega)).1, Option.bind_some, if_pos rfl, hw, if_neg (by omega), hc, Option.bind_some, if_pos (by omega), e4 k (by omega), Option.bind_some, if_pos rfl]
     ·unfold impl_Merged.f
      rw [(e1 k (by omega)).2, Option.bind_some, if_pos rfl, (e2 k (by omega)).2, Option.bind_some, if_pos rfl, hw, if_neg (by omega), e3 k (by omega), Option.bind_some, if_pos rfl]
   ·refine ⟨[], false, no (fun h => hlen h.2.2.1), K1 + K2, fun k hk => ⟨?_, ?_⟩⟩
    ·unfold spec_Merged.f
     rw [(e1 k (by omega)).1, Option.bind_some, if_pos rfl, (e2 k (by omega)).1, Option.bind_some, if_pos rfl, hw, if_pos (by omega)]
    ·unfold impl_Merged.f
     rw [(e1 k (by omega)).2, Option.bind_some, if_pos rfl, (e2 k (by omega)).2, Option.bind_some, if_pos rfl, hw, if_pos (by omega)]
theorem MergedT.len {a b m : List S31} {ok : Bool} (h : MergedT a b m ok) : m.length ≤ 64 := by
 cases ok with
 | false => rw [h.none rfl]; simp
 | true =>
  have h1 := (h.yes.1 rfl).2.2.1
  have h2 := (h.keys rfl).length_eq
  simp at h2
  omega
theorem smerged_ok (a b : List S31) (ha : a.length ≤ 1048576) (hb : b.length ≤ 1048576) : ∃ m ok, MergedT a b m ok ∧ ∃ K, ∀ k, K ≤ k → spec_Merged.f k a b = some (m, ok) := by
 obtain ⟨m, ok, h, K, e⟩ := merged_ok a b ha hb
 exact ⟨m, ok, h, K, fun k hk => (e k hk).1⟩
/-- What a heap without its root is. -/
structure ShiftT (h : List S31) (d s : Int) (m : List S31) (ok : Bool) : Prop where
 yes : ok = true ↔ h ≠ [] ∧ OkT h
 heap : ok = true → ∃ x t n, h = x :: t ∧ d = x.f0 ∧ s = x.f1 ∧ Hp m n ∧ (m.map keyT).Perm (t.map keyT)
 none : ok = false → d = 0 ∧ s = 0 ∧ m = []
theorem ShiftT.len {h m : List S31} {d s : Int} {ok : Bool} (q : ShiftT h d s m ok) : m.length ≤ 64 := by
 cases ok with
 | false => rw [(q.none rfl).2.2]; simp
 | true =>
  have h1 := (q.yes.1 rfl).2.1
  obtain ⟨x, t, n, rfl, _, _, _, hp⟩ := q.heap rfl
  have h2 := hp.length_eq
  simp at h1 h2
  omega
theorem sshift_ok (h : List S31) (hl : h.length ≤ 1048576) : ∃ d s m ok, ShiftT h d s m ok ∧ ∃ K, ∀ k, K ≤ k → spec_Shifted.f k h = some (d, s, 0, m, ok) := by
 have no : ¬ (h ≠ [] ∧ OkT h) → ShiftT h 0 0 [] false := fun q => ⟨⟨(fun e => by cases e), fun e => absurd e q⟩, (fun e => by cases e), fun _ => ⟨rfl, rfl, rfl⟩⟩
 cases h with
 | nil =>
  refine ⟨0, 0, [], false, no (fun q => q.1 rfl), 1, fun k hk => ?_⟩
  obtain ⟨k, rfl⟩ : ∃ q, k = q + 1 := ⟨k - 1, by omega⟩
  ·unfold spec_Shifted.f
   rw [if_pos (by simp)]
   simp [spec_Shifted.j0]
 | cons x t =>
  rw [List.length_cons] at hl
  obtain ⟨b, K1, e1, h1⟩ := heapOk_ok (x :: t) (by rw [List.length_cons]; omega)
  cases b with
  | false =>
   refine ⟨0, 0, [], false, no (fun q => by have := h1.2 q.2; cases this), K1 + 1, fun k hk => ?_⟩
   obtain ⟨k, rfl⟩ : ∃ q, k = q + 1 := ⟨k - 1, by omega⟩
   ·unfold spec_Shifted.f
    rw [if_neg (by simp; omega), (e1 _ (by omega)).1, Option.bind_some]
    simp [spec_Shifted.j0]
  | true =>
   obtain ⟨h64, hnd, n, hh⟩ := h1.1 rfl
   obtain ⟨p0, p1, pa, pb, rfl, hpa, hpb, _, _, _⟩ := hh.parts
   obtain ⟨_, _, hdis⟩ := ndT_cut (ndT_cons hnd).1 x.f2.toNat
   obtain ⟨m, q, hm, hp, K2, e2⟩ := merge_ok _ _ _ pa pb (Nat.le_refl _) (by rw [length_take, length_drop]; omega) hpa hpb hdis
   rw [← List.map_append, List.take_append_drop] at hp
   refine ⟨x.f0, x.f1, m, true, ⟨⟨fun _ => ⟨by simp, h64, hnd, _, hh⟩, fun _ => rfl⟩, fun _ => ⟨x, t, q, rfl, rfl, rfl, hm, hp⟩, (fun e => by cases e)⟩, K1 + K2 + 1, fun k hk => ?_⟩
   obtain ⟨k, rfl⟩ : ∃ q, k = q + 1 := ⟨k - 1, by omega⟩
   ·unfold spec_Shifted.f
    rw [if_neg (by simp; omega), (e1 _ (by omega)).1, Option.bind_some]
    simp only [spec_Shifted.j0]
    rw [if_neg (by simp), sparts_ok p0 p1 (by omega), Option.bind_some]
    simp only
    rw [rdT_cons]
    have := (e2 k (by omega)).1
    simp [this]
theorem and255 (n : Int) : Go.bits .and .i64 n 255 = n % 256 := by
 have h255 : (BitVec.ofInt 64 255).toNat = 2 ^ 8 - 1 := by decide
 have key : (BitVec.ofInt 64 n &&& BitVec.ofInt 64 255).toNat = (n % ((2 ^ 64 : Nat) : Int)).toNat % 2 ^ 8 := by
  rw [BitVec.toNat_and, BitVec.toNat_ofInt, h255, Nat.and_two_pow_sub_one_eq_mod]
 show IntKind.i64.wrap ((BitVec.ofInt 64 n &&& BitVec.ofInt 64 255).toNat : Nat) = n % 256
 rw [key, IntKind.wrap_i64]
 omega
theorem wrap_span (x : Int) : -9223372036854775808 ≤ wrap64 x ∧ wrap64 x ≤ 9223372036854775807 := by unfold wrap64; omega
/-- A place in the bytes of a draw. -/
def CurOk (b : List Int) (i : Int) : Prop := 0 ≤ i ∧ i ≤ (b.length : Int)
theorem byte_ok (b : List Int) (i h : Int) (hb : b.length ≤ 4096) (hc : CurOk b i) : ∃ x j g, spec_l1Byte.f b i h = some (x, j, g) ∧ 0 ≤ x ∧ x ≤ 255 ∧ CurOk b j := by
 obtain ⟨h0, h1⟩ := hc
 unfold spec_l1Byte.f
 by_cases hl : i < (b.length : Int)
 ·rw [if_pos hl, if_pos h0, and255, and255]
  exact ⟨_, _, _, rfl, by omega, by omega, by unfold CurOk wrap64; omega⟩
 ·rw [if_neg hl, and255]
  exact ⟨_, _, _, rfl, by omega, by omega, h0, h1⟩
theorem tmod_ok {x n : Int} (hx : 0 ≤ x) (hn : 0 < n) : 0 ≤ Int.tmod x n ∧ Int.tmod x n < n := by
 rw [Int.tmod_eq_emod_of_nonneg hx]
 exact ⟨Int.emod_nonneg x (by omega), Int.emod_lt_of_pos x hn⟩
theorem below_ok (b : List Int) (i h n : Int) (hb : b.length ≤ 4096) (hc : CurOk b i) : ∃ r j g, spec_l1Below.f b i h n = some (r, j, g) ∧ 0 ≤ r ∧ (0 < n → r < n) ∧ (n ≤ 0 → r = 0) ∧ CurOk b j := by
 unfold spec_l1Below.f
 by_cases h0 : n ≤ 0
 ·rw [if_pos h0]
  exact ⟨_, _, _, rfl, by omega, by omega, fun _ => rfl, hc⟩
 ·rw [if_neg h0]
  by_cases h1 : n ≤ 256
  ·obtain ⟨x, j, g, e, hx0, hx1, hj⟩ := byte_ok b i h hb hc
   rw [if_pos h1, e]
   simp only [Option.bind_some]
   rw [if_neg (by omega)]
   have ht := tmod_ok hx0 (show 0 < n by omega)
   exact ⟨_, _, _, rfl, ht.1, fun _ => ht.2, by omega, hj⟩
  ·obtain ⟨x, j, g, e, hx0, hx1, hj⟩ := byte_ok b i h hb hc
   obtain ⟨x2, j2, g2, e2, hy0, hy1, hj2⟩ := byte_ok b j g hb hj
   obtain ⟨x3, j3, g3, e3, hz0, hz1, hj3⟩ := byte_ok b j2 g2 hb hj2
   obtain ⟨x4, j4, g4, e4, hw0, hw1, hj4⟩ := byte_ok b j3 g3 hb hj3
   rw [if_neg h1, e]
   simp only [Option.bind_some]
   rw [e2]
   simp only [Option.bind_some]
   rw [e3]
   simp only [Option.bind_some]
   rw [e4]
   simp only [Option.bind_some]
   rw [if_neg (by omega)]
   have hs : 0 ≤ wrap64 (wrap64 (wrap64 (wrap64 (x * 16777216) + wrap64 (x2 * 65536)) + wrap64 (x3 * 256)) + x4) := by unfold wrap64; omega
   have ht := tmod_ok hs (show 0 < n by omega)
   exact ⟨_, _, _, rfl, ht.1, fun _ => ht.2, by omega, hj4⟩
theorem new_loop (b : List Int) (hb : b.length ≤ 4096) : ∀ (m j : Nat) (x : Int), j + m = b.length → ∃ g, ∀ k, m < k → spec_l1New.l0 k b x (j : Int) = some (b, 0, g) := by
 intro m
 induction m with
 | zero =>
  intro j x hj
  refine ⟨x, fun k hk => ?_⟩
  obtain ⟨k, rfl⟩ : ∃ q, k = q + 1 := ⟨k - 1, by omega⟩
  rw [spec_l1New.l0, if_neg (by omega)]
 | succ m ih =>
  intro j x hj
  obtain ⟨g, hg⟩ := ih (j + 1) (Go.bits .and .i64 (wrap64 ((wrap64 ((wrap64 (x * 173)) + (wrap64 (rd b (j : Int))))) + 11)) 1073741823) (by omega)
  refine ⟨g, fun k hk => ?_⟩
  obtain ⟨k, rfl⟩ : ∃ q, k = q + 1 := ⟨k - 1, by omega⟩
  rw [spec_l1New.l0, if_pos (by omega), if_pos (by omega)]
  have := hg k (by omega)
  rw [wrap_id (x := (j : Int) + 1) (by omega) (by omega)]
  rw [show ((j : Int) + 1) = ((j + 1 : Nat) : Int) by omega]
  exact this
theorem new_ok (b : List Int) (hb : b.length ≤ 4096) : ∃ g, ∀ k, 4097 ≤ k → spec_l1New.f k b = some (b, 0, g) := by
 obtain ⟨g, hg⟩ := new_loop b hb b.length 0 (wrap64 (314159 + (b.length : Int))) (by omega)
 refine ⟨g, fun k hk => ?_⟩
 unfold spec_l1New.f
 exact hg k (by omega)
theorem curOk0 (b : List Int) : CurOk b 0 := ⟨Int.le_refl _, by omega⟩
theorem odd_ok (b : List Int) (i h : Int) (hb : b.length ≤ 4096) (hc : CurOk b i) : ∃ r j g, spec_l1Odd.f b i h = some (r, j, g) ∧ -9223372036854775808 ≤ r ∧ r ≤ 9223372036854775807 ∧ CurOk b j := by
 obtain ⟨r, j, g, e, h0, h1, _, hj⟩ := below_ok b i h 10 hb hc
 have h2 := h1 (by omega)
 unfold spec_l1Odd.f
 simp only [Option.bind_some]
 rw [e]
 simp only [Option.bind_some]
 rw [if_pos h0, if_pos (by simp; omega)]
 refine ⟨_, _, _, rfl, ?_, ?_, hj⟩
 ·have : r = 0 ∨ r = 1 ∨ r = 2 ∨ r = 3 ∨ r = 4 ∨ r = 5 ∨ r = 6 ∨ r = 7 ∨ r = 8 ∨ r = 9 := by omega
  rcases this with rfl | rfl | rfl | rfl | rfl | rfl | rfl | rfl | rfl | rfl <;> decide
 ·have : r = 0 ∨ r = 1 ∨ r = 2 ∨ r = 3 ∨ r = 4 ∨ r = 5 ∨ r = 6 ∨ r = 7 ∨ r = 8 ∨ r = 9 := by omega
  rcases this with rfl | rfl | rfl | rfl | rfl | rfl | rfl | rfl | rfl | rfl <;> decide
theorem draw2_ok (b : List Int) (i h : Int) (hb : b.length ≤ 4096) (hc : CurOk b i) : ∃ r j g, spec_l2Draw.f b i h = some (r, j, g) ∧ -9223372036854775808 ≤ r ∧ r ≤ 9223372036854775807 ∧ CurOk b j := by
 obtain ⟨q, j, g, e, _, _, _, hj⟩ := below_ok b i h 4 hb hc
 unfold spec_l2Draw.f
 rw [e]
 simp only [Option.bind_some]
 by_cases q0 : q = 0
 ·obtain ⟨r, j2, g2, e2, h0, h1, hj2⟩ := odd_ok b j g hb hj
  rw [if_pos q0, e2]
  exact ⟨r, j2, g2, rfl, h0, h1, hj2⟩
 ·rw [if_neg q0]
  by_cases q1 : q = 1
  ·obtain ⟨r, j2, g2, e2, h0, h1, _, hj2⟩ := below_ok b j g 5 hb hj
   rw [if_pos q1, e2]
   exact ⟨_, j2, g2, rfl, (wrap_span _).1, (wrap_span _).2, hj2⟩
  ·rw [if_neg q1]
   by_cases q2 : q = 2
   ·obtain ⟨r, j2, g2, e2, h0, h1, _, hj2⟩ := below_ok b j g 5 hb hj
    unfold spec_l2Least.f
    rw [if_pos q2]
    simp only [Option.bind_some]
    rw [e2]
    exact ⟨_, j2, g2, rfl, (wrap_span _).1, (wrap_span _).2, hj2⟩
   ·unfold spec_l1From.f
    rw [if_neg q2]
    obtain ⟨r, j2, g2, e2, h0, h1, _, hj2⟩ := below_ok b j g (wrap64 ((wrap64 (30 - -9)) + 1)) hb hj
    rw [e2]
    exact ⟨_, j2, g2, rfl, (wrap_span _).1, (wrap_span _).2, hj2⟩
theorem once_ok (b : List Int) (i h n : Int) (hb : b.length ≤ 4096) (hc : CurOk b i) : ∃ r j g, spec_l1Once.f b i h n = some (r, j, g) ∧ CurOk b j := by
 obtain ⟨r, j, g, e, _, _, _, hj⟩ := below_ok b i h n hb hc
 unfold spec_l1Once.f
 rw [e]
 exact ⟨_, _, _, rfl, hj⟩
theorem from_ok (b : List Int) (i h lo hi : Int) (hb : b.length ≤ 4096) (hc : CurOk b i) (h0 : -1000000 ≤ lo) (h1 : lo ≤ hi) (h2 : hi ≤ 1000000) : ∃ r j g, spec_l1From.f b i h lo hi = some (r, j, g) ∧ lo ≤ r ∧ r ≤ hi ∧ CurOk b j := by
 unfold spec_l1From.f
 rw [wrap_id (x := hi - lo) (by omega) (by omega), wrap_id (x := hi - lo + 1) (by omega) (by omega)]
 obtain ⟨r, j, g, e, r0, r1, _, hj⟩ := below_ok b i h (hi - lo + 1) hb hc
 have := r1 (by omega)
 rw [e]
 refine ⟨_, _, _, rfl, ?_, ?_, hj⟩
 ·show lo ≤ wrap64 (lo + r)
  rw [wrap_id (by omega) (by omega)]
  omega
 ·show wrap64 (lo + r) ≤ hi
  rw [wrap_id (by omega) (by omega)]
  omega
theorem sput_ok (a : List S31) (d s : Int) (ha : a.length ≤ 1048576) : ∃ m ok, m.length ≤ 64 ∧ ∃ K, ∀ k, K ≤ k → spec_Put.f k a d s = some (m, ok) := by
 obtain ⟨m, ok, h, K, e⟩ := smerged_ok a [⟨d, s, 0⟩] ha (by simp)
 refine ⟨m, ok, h.len, K, fun k hk => ?_⟩
 unfold spec_Put.f
 rw [e k hk]
 rfl
theorem drawH_l1 (b : List Int) (hb : b.length ≤ 4096) (base : Int) : ∀ (m : Nat) (l : List S31) (x i h : Int), 64 - x ≤ m → x ≤ 64 → 0 ≤ x → l.length ≤ 64 → CurOk b i → ∃ t j g, (∃ K, ∀ k, K ≤ k → spec_l3Draw.l1 k base l x b i h = some (t, j, g)) ∧ CurOk b j ∧ t.length ≤ 64 := by
 intro m
 induction m with
 | zero =>
  intro l x i h hx hx2 hx0 hl hc
  obtain ⟨r, j, g, e, r0, r1, _, hj⟩ := below_ok b i h 2 hb hc
  have := r1 (by omega)
  refine ⟨l, j, g, ⟨1, fun k hk => ?_⟩, hj, hl⟩
  obtain ⟨k, rfl⟩ : ∃ q, k = q + 1 := ⟨k - 1, by omega⟩
  simp only [spec_l3Draw.l1]
  rw [e, Option.bind_some, if_neg (by rw [wrap_id (by omega) (by omega)]; omega)]
 | succ m ih =>
  intro l x i h hx hx2 hx0 hl hc
  obtain ⟨r, j, g, e, r0, r1, _, hj⟩ := below_ok b i h 2 hb hc
  have := r1 (by omega)
  by_cases hlt : x < 64 - r
  ·obtain ⟨d, j2, g2, e2, _, _, _, hj2⟩ := below_ok b j g 50 hb hj
   obtain ⟨p, ok, hp, K1, e3⟩ := sput_ok l d (wrap64 (base + x)) (by omega)
   obtain ⟨t, j3, g3, ⟨K2, e4⟩, hj3, ht⟩ := ih p (x + 1) j2 g2 (by omega) (by omega) (by omega) hp hj2
   refine ⟨t, j3, g3, ⟨K1 + K2 + 1, fun k hk => ?_⟩, hj3, ht⟩
   obtain ⟨k, rfl⟩ : ∃ q, k = q + 1 := ⟨k - 1, by omega⟩
   simp only [spec_l3Draw.l1]
   rw [e, Option.bind_some, if_pos (by rw [wrap_id (by omega) (by omega)]; omega), e2, Option.bind_some, e3 k (by omega), Option.bind_some, wrap_id (x := x + 1) (by omega) (by omega), e4 k (by omega)]
  ·refine ⟨l, j, g, ⟨1, fun k hk => ?_⟩, hj, hl⟩
   obtain ⟨k, rfl⟩ : ∃ q, k = q + 1 := ⟨k - 1, by omega⟩
   simp only [spec_l3Draw.l1]
   rw [e, Option.bind_some, if_neg (by rw [wrap_id (by omega) (by omega)]; omega)]
theorem drawH_l0 (b : List Int) (hb : b.length ≤ 4096) (base : Int) : ∀ (m : Nat) (l : List S31) (x i h : Int), x ≤ m → m ≤ 60 → l.length ≤ 64 → CurOk b i → ∃ t j g, (∃ K, ∀ k, K ≤ k → spec_l3Draw.l0 k base l x b i h = some (t, j, g)) ∧ CurOk b j ∧ t.length ≤ 64 := by
 intro m
 have stop : ∀ (l : List S31) (x i h : Int), x ≤ 0 → l.length ≤ 64 → CurOk b i → ∃ t j g, (∃ K, ∀ k, K ≤ k → spec_l3Draw.l0 k base l x b i h = some (t, j, g)) ∧ CurOk b j ∧ t.length ≤ 64 := by
  intro l x i h hx hl hc
  obtain ⟨o, j, g, e, hj⟩ := once_ok b i h 40 hb hc
  cases o with
  | false =>
   refine ⟨l, j, g, ⟨1, fun k hk => ?_⟩, hj, hl⟩
   obtain ⟨k, rfl⟩ : ∃ q, k = q + 1 := ⟨k - 1, by omega⟩
   simp only [spec_l3Draw.l0]
   rw [if_neg (by omega), e, Option.bind_some, if_neg (by simp)]
  | true =>
   obtain ⟨t, j2, g2, ⟨K, e2⟩, hj2, ht⟩ := drawH_l1 b hb base 64 [] 0 j g (by omega) (by omega) (by omega) (by simp) hj
   refine ⟨t, j2, g2, ⟨K + 1, fun k hk => ?_⟩, hj2, ht⟩
   obtain ⟨k, rfl⟩ : ∃ q, k = q + 1 := ⟨k - 1, by omega⟩
   simp only [spec_l3Draw.l0]
   rw [if_neg (by omega), e, Option.bind_some, if_pos rfl, e2 k (by omega)]
 induction m with
 | zero => intro l x i h hx _ hl hc; exact stop l x i h (by omega) hl hc
 | succ m ih =>
  intro l x i h hx hm hl hc
  by_cases hx0 : x ≤ 0
  ·exact stop l x i h hx0 hl hc
  ·obtain ⟨o, j, g, e, hj⟩ := once_ok b i h 4 hb hc
   have hw : wrap64 (x - 1) = x - 1 := wrap_id (by omega) (by omega)
   cases o with
   | true =>
    obtain ⟨d, s, p, ok, hp, K1, e2⟩ := sshift_ok l (by omega)
    obtain ⟨t, j3, g3, ⟨K2, e4⟩, hj3, ht⟩ := ih p (x - 1) j g (by omega) (by omega) hp.len hj
    refine ⟨t, j3, g3, ⟨K1 + K2 + 1, fun k hk => ?_⟩, hj3, ht⟩
    obtain ⟨k, rfl⟩ : ∃ q, k = q + 1 := ⟨k - 1, by omega⟩
    simp only [spec_l3Draw.l0]
    rw [if_pos (by omega), e, Option.bind_some, if_pos rfl, e2 k (by omega), Option.bind_some, hw, e4 k (by omega)]
   | false =>
    obtain ⟨d, j2, g2, e2, _, _, _, hj2⟩ := below_ok b j g 12 hb hj
    obtain ⟨o2, j3, g3, e3, hj3⟩ := once_ok b j2 g2 12 hb hj2
    have fin : ∀ (d j4 g4 : Int), CurOk b j4 → ∃ t j g, (∃ K, ∀ k, K ≤ k → spec_l3Draw.j1 k base l x d b j4 g4 = some (t, j, g)) ∧ CurOk b j ∧ t.length ≤ 64 := by
     intro d j4 g4 hj4
     obtain ⟨q, j5, g5, e5, _, _, _, hj5⟩ := below_ok b j4 g4 14 hb hj4
     obtain ⟨p, ok, hp, K1, e6⟩ := sput_ok l d (wrap64 (base + q)) (by omega)
     obtain ⟨t, j7, g7, ⟨K2, e7⟩, hj7, ht⟩ := ih (if ok = true then p else l) (x - 1) j5 g5 (by omega) (by omega) (by split <;> omega) hj5
     refine ⟨t, j7, g7, ⟨K1 + K2 + 1, fun k hk => ?_⟩, hj7, ht⟩
     obtain ⟨k, rfl⟩ : ∃ q, k = q + 1 := ⟨k - 1, by omega⟩
     simp only [spec_l3Draw.j1]
     rw [e5, Option.bind_some, e6 k (by omega), Option.bind_some, hw]
     have e8 := e7 k (by omega)
     cases ok with
     | true =>
      rw [if_pos rfl] at e8
      simp only [if_true]
      exact e8
     | false =>
      rw [if_neg (by simp)] at e8
      simp only [Bool.false_eq_true, if_false]
      exact e8
    cases o2 with
    | true =>
     obtain ⟨z, j4, g4, e4, _, _, hj4⟩ := draw2_ok b j3 g3 hb hj3
     obtain ⟨t, j5, g5, ⟨K, e5⟩, hj5, ht⟩ := fin z j4 g4 hj4
     refine ⟨t, j5, g5, ⟨K + 1, fun k hk => ?_⟩, hj5, ht⟩
     obtain ⟨k, rfl⟩ : ∃ q, k = q + 1 := ⟨k - 1, by omega⟩
     simp only [spec_l3Draw.l0]
     rw [if_pos (by omega), e, Option.bind_some, if_neg (by simp), e2, Option.bind_some, e3, Option.bind_some, if_pos rfl, e4, Option.bind_some, e5 k (by omega)]
    | false =>
     obtain ⟨t, j5, g5, ⟨K, e5⟩, hj5, ht⟩ := fin d j3 g3 hj3
     refine ⟨t, j5, g5, ⟨K + 1, fun k hk => ?_⟩, hj5, ht⟩
     obtain ⟨k, rfl⟩ : ∃ q, k = q + 1 := ⟨k - 1, by omega⟩
     simp only [spec_l3Draw.l0]
     rw [if_pos (by omega), e, Option.bind_some, if_neg (by simp), e2, Option.bind_some, e3, Option.bind_some, if_neg (by simp), e5 k (by omega)]
theorem drawHAny_ok (b : List Int) (i h base : Int) (hb : b.length ≤ 4096) (hc : CurOk b i) : ∃ l j g, (∃ K, ∀ k, K ≤ k → spec_l3DrawAny.f k b i h base = some (l, j, g)) ∧ CurOk b j ∧ l.length ≤ 64 := by
 obtain ⟨n, j, g, e, _, n1, _, hj⟩ := below_ok b i h 10 hb hc
 have := n1 (by omega)
 obtain ⟨l, j2, g2, ⟨K, e2⟩, hj2, hl⟩ := drawH_l0 b hb base 10 [] n j g (by omega) (by omega) (by simp) hj
 have e3 : ∀ k, K ≤ k → spec_l3Draw.f k b i h base = some (l, j2, g2) := by
  intro k hk
  unfold spec_l3Draw.f
  rw [e, Option.bind_some]
  exact e2 k hk
 obtain ⟨o, j3, g3, e4, hj3⟩ := once_ok b j2 g2 6 hb hj2
 have no : ∀ k, 0 < k → spec_l3DrawAny.j0 k l false b j3 g3 = some (l, j3, g3) := by
  intro k hk
  obtain ⟨k, rfl⟩ : ∃ q, k = q + 1 := ⟨k - 1, by omega⟩
  simp [spec_l3DrawAny.j0]
 cases o with
 | false =>
  refine ⟨l, j3, g3, ⟨K + 1, fun k hk => ?_⟩, hj3, hl⟩
  unfold spec_l3DrawAny.f
  rw [e3 k (by omega), Option.bind_some, e4, Option.bind_some, if_neg (by simp), no k (by omega)]
 | true =>
  by_cases h0 : (l.length : Int) > 0
  ·obtain ⟨x, j4, g4, e5, x0, x1, _, hj4⟩ := below_ok b j3 g3 (l.length : Int) hb hj3
   have hx := x1 h0
   obtain ⟨c, j5, g5, e6, _, _, _, hj5⟩ := below_ok b j4 g4 3 hb hj4
   have step : ∀ k, spec_l3DrawAny.j0 (k + 1) l true b j3 g3 = (spec_l1Below.f b j3 g3 (l.length : Int)).bind fun bt499 => ((spec_l1Below.f b bt499.2.1 bt499.2.2 3).bind fun bt502 => (if bt502.1 = 0 then ((spec_l1Below.f b bt502.2.1 bt502.2.2 12).bind fun bt505 => (if 0 ≤ bt499.1 then (if bt499.1 < (l.length : Int) then (some ((l.set (bt499.1 : Int).toNat (⟨bt505.1, (rd_T31 l bt499.1).f1, (rd_T31 l bt499.1).f2⟩ : S31)), bt505.2.1, bt505.2.2)) else (none)) else (none))) else (if bt502.1 = 1 then ((spec_l1Below.f b bt502.2.1 bt502.2.2 14).bind fun bt509 => (if 0 ≤ bt499.1 then (if bt499.1 < (l.length : Int) then (some ((l.set (bt499.1 : Int).toNat (⟨(rd_T31 l bt499.1).f0, bt509.1, (rd_T31 l bt499.1).f2⟩ : S31)), bt509.2.1, bt509.2.2)) else (none)) else (none))) else (if bt502.1 = 2 then ((spec_l1From.f b bt502.2.1 bt502.2.2 (-1) 5).bind fun bt513 => (if 0 ≤ bt499.1 then (if bt499.1 < (l.length : Int) then (some ((l.set (bt499.1 : Int).toNat (⟨(rd_T31 l bt499.1).f0, (rd_T31 l bt499.1).f1, bt513.1⟩ : S31)), bt513.2.1, bt513.2.2)) else (none)) else (none))) else (some (l, bt502.2.1, bt502.2.2)))))) := by
    intro k
    simp only [spec_l3DrawAny.j0, if_true]
   have res : ∃ l' j' g', (∀ k, spec_l3DrawAny.j0 (k + 1) l true b j3 g3 = some (l', j', g')) ∧ CurOk b j' ∧ l'.length ≤ 64 := by
    by_cases c0 : c = 0
    ·obtain ⟨d, j6, g6, e7, _, _, _, hj6⟩ := below_ok b j5 g5 12 hb hj5
     exact ⟨_, j6, g6, fun k => by rw [step k, e5, Option.bind_some, e6, Option.bind_some, if_pos c0, e7, Option.bind_some, if_pos x0, if_pos hx], hj6, by rw [List.length_set]; exact hl⟩
    ·by_cases c1 : c = 1
     ·obtain ⟨d, j6, g6, e7, _, _, _, hj6⟩ := below_ok b j5 g5 14 hb hj5
      exact ⟨_, j6, g6, fun k => by rw [step k, e5, Option.bind_some, e6, Option.bind_some, if_neg c0, if_pos c1, e7, Option.bind_some, if_pos x0, if_pos hx], hj6, by rw [List.length_set]; exact hl⟩
     ·by_cases c2 : c = 2
      ·obtain ⟨d, j6, g6, e7, _, _, hj6⟩ := from_ok b j5 g5 (-1) 5 hb hj5 (by omega) (by omega) (by omega)
       exact ⟨_, j6, g6, fun k => by rw [step k, e5, Option.bind_some, e6, Option.bind_some, if_neg c0, if_neg c1, if_pos c2, e7, Option.bind_some, if_pos x0, if_pos hx], hj6, by rw [List.length_set]; exact hl⟩
      ·exact ⟨l, j5, g5, fun k => by rw [step k, e5, Option.bind_some, e6, Option.bind_some, if_neg c0, if_neg c1, if_neg c2], hj5, hl⟩
   obtain ⟨l', j', g', e7, hj', hl'⟩ := res
   refine ⟨l', j', g', ⟨K + 1, fun k hk => ?_⟩, hj', hl'⟩
   obtain ⟨k, rfl⟩ : ∃ q, k = q + 1 := ⟨k - 1, by omega⟩
   unfold spec_l3DrawAny.f
   rw [e3 _ (by omega), Option.bind_some, e4, Option.bind_some, if_pos rfl]
   simp only
   rw [decide_eq_true h0, e7]
  ·refine ⟨l, j3, g3, ⟨K + 1, fun k hk => ?_⟩, hj3, hl⟩
   unfold spec_l3DrawAny.f
   rw [e3 k (by omega), Option.bind_some, e4, Option.bind_some, if_pos rfl]
   simp only
   rw [decide_eq_false h0, no k (by omega)]
theorem ltOf_ah (x y : S31) : Go.Proofs.ltOf sortCmp x y = ah x y := by
 rw [sort_lt]
 unfold ah
 rw [Bool.eq_iff_iff]
 simp
theorem sortS_perm (l : List S31) : (slices_Sort.f l).Perm l := by
 have h := (Go.Sort.pdq_sorts (Go.Proofs.ltOf sortCmp) sort_swo l.toArray 0 l.length (Go.Lib.bitLen l.length) true true (Nat.zero_le _) (by simp) (Or.inl rfl)).1
 have h3 := h.2.2
 have hs := h.1
 have e1 : ∀ (a : Array S31) (n : Nat), a.size = n → a.extract 0 n = a := fun a n h => by subst h; simp
 rw [e1 _ _ (by rw [hs]; simp), e1 _ _ (by simp)] at h3
 unfold slices_Sort.f
 simpa using h3
theorem sortS_le (l : List S31) : (slices_Sort.f l).Pairwise (fun a b => leT a b = true) := by
 have h := Go.Sort.pdq_sorts (Go.Proofs.ltOf sortCmp) sort_swo l.toArray 0 l.length (Go.Lib.bitLen l.length) true true (Nat.zero_le _) (by simp) (Or.inl rfl)
 have hs := h.1.1
 have h2 := h.2
 rw [List.pairwise_iff_getElem]
 intro i j hi hj hij
 have hsz : (Go.Sort.pdq (Go.Proofs.ltOf sortCmp) l.toArray 0 l.length (Go.Lib.bitLen l.length) true true).size = l.length := by rw [hs]; simp
 unfold slices_Sort.f at hi hj ⊢
 rw [Array.length_toList] at hi hj
 have h3 := h2 i j (Nat.zero_le _) hij (by omega)
 rw [getElem!_pos _ i hi, getElem!_pos _ j hj, ltOf_ah] at h3
 unfold leT
 rw [Array.getElem_toList, Array.getElem_toList, h3]
 rfl
theorem zero_loop (n : Nat) (hn : n ≤ 4611686018427387900) : ∀ (m k : Nat) (A ys : List S31), ys.length = m → A.length + m = n → m < k → impl_Sorted.l0 k (A ++ ys) (n : Int) (A.length : Int) = some (A ++ ys.map stripT) := by
 intro m
 induction m with
 | zero =>
  intro k A ys hy hA hk
  obtain ⟨k, rfl⟩ : ∃ q, k = q + 1 := ⟨k - 1, by omega⟩
  obtain rfl : ys = [] := List.length_eq_zero_iff.1 hy
  simp only [impl_Sorted.l0]
  rw [if_neg (by omega)]
  simp
 | succ m ih =>
  intro k A ys hy hA hk
  obtain ⟨k, rfl⟩ : ∃ q, k = q + 1 := ⟨k - 1, by omega⟩
  obtain ⟨y, ys, rfl⟩ : ∃ y t, ys = y :: t := by
   cases ys with
   | nil => simp at hy
   | cons y t => exact ⟨y, t, rfl⟩
  have hlt : A.length < (A ++ y :: ys).length := by rw [List.length_append, List.length_cons]; omega
  have hr : rd_T31 (A ++ y :: ys) (A.length : Int) = y := by
   rw [rdT_at hlt]
   simp
  simp only [impl_Sorted.l0]
  rw [if_pos (by omega), if_pos (by omega), if_pos (by omega), wrap_id (by omega) (by omega), hr, Int.toNat_natCast, List.set_append_right _ _ (by omega), Nat.sub_self, set_cons_zero]
  have := ih k (A ++ [stripT y]) ys (by simpa using hy) (by simp; omega) (by omega)
  rw [List.append_assoc, List.append_assoc] at this
  rw [show ((A.length : Int) + 1) = ((A ++ [stripT y]).length : Int) by simp]
  exact this
theorem sortS_strip {l : List S31} (h : ndT l) : (slices_Sort.f l).map stripT = sortT l := by
 have hp := sortS_perm l
 refine sortT_of h ?_ (hp.map stripT)
 refine asc_of ?_ ?_
 ·rw [List.pairwise_map]
  refine (sortS_le l).imp ?_
  intro a b hab
  unfold leT at *
  rw [ah_key (a := stripT b) (b := stripT a) (c := b) (d := a) rfl rfl]
  exact hab
 ·rw [strip_f1]
  exact (hp.map S31.f1).nodup_iff.2 h
theorem isorted_ok {l : List S31} (h : OkT l) : ∃ K, ∀ k, K ≤ k → impl_Sorted.f k l = some (sortT l) := by
 obtain ⟨b, K, e, hb⟩ := heapOk_ok l (by have := h.1; omega)
 obtain rfl : b = true := hb.2 h
 have hlen : (slices_Sort.f l).length = l.length := (sortS_perm l).length_eq
 have h64 := h.1
 refine ⟨K + l.length + 1, fun k hk => ?_⟩
 unfold impl_Sorted.f
 rw [(e k (by omega)).2, Option.bind_some, if_pos rfl, (copyT_ok l (by omega)).2, Option.bind_some]
 have := zero_loop l.length (by omega) l.length k [] (slices_Sort.f l) hlen (by simp) (by omega)
 simp only [List.nil_append, List.length_nil] at this
 rw [sortS_strip h.2.1] at this
 exact this
theorem beq3_iff (x y : S31) : (x.f0 == y.f0 && (x.f1 == y.f1 && x.f2 == y.f2)) = true ↔ x = y := by
 cases x
 cases y
 simp
theorem asc_head {x : S31} {t : List S31} (h : Asc (x :: t)) : (∀ y ∈ t, ah x y = true) ∧ Asc t := List.pairwise_cons.1 h
theorem rank_l1 (L : List S31) (hL : L.length ≤ 1000000) : ∀ (m i : Nat) (X Y : List S31), i + m = L.length → Asc (L.drop i) → Asc X → Asc Y → (L.drop i).Perm (X ++ Y) → ∀ k, 2 * m < k → laws_FnRank.l1 k L X Y (i : Int) = some true := by
 intro m
 induction m with
 | zero =>
  intro i X Y hi _ _ _ hp k hk
  obtain ⟨k, rfl⟩ : ∃ q, k = q + 1 := ⟨k - 1, by omega⟩
  rw [List.drop_eq_nil_of_le (by omega)] at hp
  have h0 := hp.length_eq
  simp only [List.length_nil, List.length_append] at h0
  simp only [laws_FnRank.l1]
  rw [if_neg (by omega), if_pos (by omega)]
  have : (Y.length : Int) = 0 := by omega
  simp [this]
 | succ m ih =>
  intro i X Y hi hD hX hY hp k hk
  obtain ⟨k, rfl⟩ : ∃ q, k = q + 2 := ⟨k - 2, by omega⟩
  have hlt : i < L.length := by omega
  rw [List.drop_eq_getElem_cons hlt] at hD hp
  obtain ⟨hz, hD2⟩ := asc_head hD
  have hw : wrap64 ((i : Int) + 1) = ((i + 1 : Nat) : Int) := by
   rw [wrap_id (by omega) (by omega)]
   omega
  have hlen := hp.length_eq
  simp only [List.length_cons, List.length_append, length_drop] at hlen
  have first : ∀ (x : S31) (T : List S31), Asc (x :: T) → (∀ y ∈ x :: T, y ∈ L[i] :: L.drop (i + 1)) → L[i] ∈ x :: T → x = L[i] := by
   intro x T hT hsub hm
   rcases List.mem_cons.1 hm with e | hm
   ·exact e.symm
   ·have h1 := (asc_head hT).1 _ hm
    rcases List.mem_cons.1 (hsub x (by simp)) with e | hx
    ·exact e
    ·have := hz x hx
     rw [ah_asymm h1] at this
     cases this
  have subX : ∀ y ∈ X, y ∈ L[i] :: L.drop (i + 1) := fun y hy => hp.symm.subset (List.mem_append_left _ hy)
  have subY : ∀ y ∈ Y, y ∈ L[i] :: L.drop (i + 1) := fun y hy => hp.symm.subset (List.mem_append_right _ hy)
  have mem : L[i] ∈ X ∨ L[i] ∈ Y := List.mem_append.1 (hp.subset List.mem_cons_self)
  have goY : ∀ k, 2 * m + 1 < k → L[i] ∈ Y → (∀ T, X ≠ L[i] :: T) → laws_FnRank.j3 k L X Y (i : Int) false = some true := by
   intro k hk hmY hX0
   obtain ⟨k, rfl⟩ : ∃ q, k = q + 1 := ⟨k - 1, by omega⟩
   cases Y with
   | nil => cases hmY
   | cons y T =>
    obtain rfl := first y T hY subY hmY
    have hp2 : (L.drop (i + 1)).Perm (X ++ T) := (List.perm_cons L[i]).1 (hp.trans List.perm_middle)
    simp only [laws_FnRank.j3]
    rw [if_neg (by simp), if_pos (by simp), if_pos (by simp), if_pos (by omega), if_pos (by omega), rdT_cons, rdT_at hlt, if_pos ((beq3_iff _ _).2 rfl), if_pos (by rw [List.length_cons]; omega), hw]
    exact ih (i + 1) X T (by omega) hD2 hX (asc_head hY).2 hp2 k (by omega)
  simp only [laws_FnRank.l1]
  rw [if_pos (by omega)]
  cases X with
  | nil =>
   rw [if_neg (by simp)]
   exact goY _ (by omega) (by simpa using mem) (fun T e => by cases e)
  | cons x T =>
   rw [if_pos (by simp), if_pos (by simp), if_pos (by omega), rdT_cons, rdT_at hlt]
   by_cases he : x = L[i]
   ·rw [(beq3_iff _ _).2 he]
    have hp2 : (L.drop (i + 1)).Perm (T ++ Y) := by
     rw [he] at hp
     exact (List.perm_cons L[i]).1 hp
    simp only [laws_FnRank.j3, if_true]
    rw [if_pos (by rw [List.length_cons]; omega), hw]
    exact ih (i + 1) T Y (by omega) hD2 (asc_head hX).2 hY hp2 k (by omega)
   ·rw [Bool.eq_false_iff.mpr (fun h => he ((beq3_iff _ _).1 h))]
    have hmY : L[i] ∈ Y := by
     rcases mem with h | h
     ·exact absurd (first x T hX subX h) he
     ·exact h
    exact goY _ (by omega) hmY (fun T' e => by injection e with e1 _; exact he e1)
theorem rank_l0 (a b m : List S31) : ∀ (r need k : Nat), need * 2 ^ r ≤ 1000000 → r ≤ 1000 → r < k → laws_FnRank.l0 k a b m (need : Int) (r : Int) = laws_FnRank.l0 (k - r) a b m ((need * 2 ^ r : Nat) : Int) 0 := by
 intro r
 induction r with
 | zero => intro need k _ _ _; simp
 | succ r ih =>
  intro need k h1 hr hk
  obtain ⟨k, rfl⟩ : ∃ q, k = q + 1 := ⟨k - 1, by omega⟩
  have e : need * 2 ^ (r + 1) = (need * 2) * 2 ^ r := by rw [Nat.pow_succ, Nat.mul_comm (2 ^ r) 2, Nat.mul_assoc]
  have hp : 1 ≤ 2 ^ r := Nat.one_le_two_pow
  have h2 : need * 2 ≤ 1000000 := Nat.le_trans (Nat.le_mul_of_pos_right _ hp) (by omega)
  have hi := ih (need * 2) k (by omega) (by omega) (by omega)
  simp only [laws_FnRank.l0]
  rw [if_pos (by omega), wrap_id (by omega) (by omega), wrap_id (by omega) (by omega), show ((r + 1 : Nat) : Int) - 1 = (r : Int) by omega, show (need : Int) * 2 = ((need * 2 : Nat) : Int) by omega, hi, e, show k + 1 - (r + 1) = k - r by omega]
theorem okT_merged {a b m : List S31} (h : MergedT a b m true) : OkT m := by
 obtain ⟨ha, hb, hl, hd⟩ := h.yes.1 rfl
 refine ⟨h.len, ?_, h.heap rfl⟩
 have hp := h.keys rfl
 rw [← List.map_append] at hp
 exact nodup_key hp (ndT_append.2 ⟨ha.2.1, hb.2.1, hd⟩)
theorem fnRank_tail {a b m : List S31} (h : MergedT a b m true) : ∃ K, ∀ k, K ≤ k → ((impl_RankOf.f k m).bind fun t => laws_FnRank.l0 k a b m 1 t) = some true := by
 obtain ⟨ha, hb, hl, hd⟩ := h.yes.1 rfl
 have hm := okT_merged h
 obtain ⟨n, hn⟩ := h.heap rfl
 have hbig := hn.big
 have hmlen : m.length = a.length + b.length := by
  have := (h.keys rfl).length_eq
  simpa using this
 obtain ⟨bm, K1, e1, h1⟩ := heapOk_ok m (by omega)
 obtain rfl : bm = true := h1.2 hm
 have er : ∀ k, K1 + n + 1 ≤ k → impl_RankOf.f k m = some (n : Int) := by
  intro k hk
  unfold impl_RankOf.f
  rw [(e1 k (by omega)).2, Option.bind_some, if_pos rfl, rank_hp hn (by omega) k (by omega), Option.bind_some]
 obtain ⟨K2, e2⟩ := isorted_ok hm
 obtain ⟨K3, e3⟩ := isorted_ok ha
 obtain ⟨K4, e4⟩ := isorted_ok hb
 have hp : (sortT m).Perm (sortT a ++ sortT b) := by
  refine (sortT_perm m).trans ?_
  have h0 := h.keys rfl
  rw [← List.map_append] at h0
  refine (strip_key _ _ h0).trans ?_
  rw [List.map_append]
  exact List.Perm.append (sortT_perm a).symm (sortT_perm b).symm
 have e5 := rank_l1 (sortT m) (by rw [sortT_length]; omega) (sortT m).length 0 (sortT a) (sortT b) (by omega) (sortT_asc hm.2.1) (sortT_asc ha.2.1) (sortT_asc hb.2.1) hp
 have hsl : (sortT m).length ≤ 64 := by rw [sortT_length]; omega
 refine ⟨K1 + K2 + K3 + K4 + n + n + 300, fun k hk => ?_⟩
 have h2n : 1 * 2 ^ n ≤ 1000000 := by omega
 have hn64 := hn.rank_le
 rw [er k (by omega), Option.bind_some, show (1 : Int) = ((1 : Nat) : Int) from rfl, rank_l0 a b m n 1 k h2n (by omega) (by omega)]
 obtain ⟨k, hk2⟩ : ∃ q, k - n = q + 2 := ⟨k - n - 2, by omega⟩
 rw [hk2]
 rw [Nat.one_mul] at h2n ⊢
 have hp0 : 1 ≤ 2 ^ n := Nat.one_le_two_pow
 generalize 2 ^ n = pw at hp0 h2n hbig ⊢
 simp only [laws_FnRank.l0]
 rw [if_neg (by omega), if_pos (by rw [wrap_id (by omega) (by omega)]; omega), if_neg (by rw [wrap_id (by omega) (by omega)]; omega), (e1 _ (by omega)).1, Option.bind_some, if_pos rfl, er _ (by omega), Option.bind_some, decide_eq_false (by omega)]
 simp only [laws_FnRank.j1]
 rw [if_neg (by simp), e2 k (by omega), Option.bind_some, e3 k (by omega), Option.bind_some, e4 k (by omega), Option.bind_some]
 exact e5 k (by omega)
theorem FnRank : ∀ (l0 : List Int), l0.length ≤ 9223372036854775807 → (∀ x_ ∈ l0, wfu8 x_) → ∃ k, laws_FnRank.f k l0 = some true := by
 intro l0 hn _
 by_cases hbig : (l0.length : Int) > 4096
 ·refine ⟨0, ?_⟩
  unfold laws_FnRank.f laws_big.f
  simp [hbig]
 ·have hb : l0.length ≤ 4096 := by omega
  obtain ⟨g, e1⟩ := new_ok l0 hb
  obtain ⟨a, j2, g2, ⟨K2, e2⟩, hj2, ha⟩ := drawHAny_ok l0 0 g 0 hb (curOk0 l0)
  obtain ⟨o, j3, g3, e3, hj3⟩ := once_ok l0 j2 g2 8 hb hj2
  obtain ⟨b, j4, g4, ⟨K4, e4⟩, hj4, hb2⟩ := drawHAny_ok l0 j3 g3 (if o = true then 5 else 20) hb hj3
  have ed : ∀ k, 4097 + K2 + K4 ≤ k → spec_DrawMerged.f k l0 = some (a, b) := by
   intro k hk
   unfold spec_DrawMerged.f
   rw [e1 k (by omega), Option.bind_some, e2 k (by omega), Option.bind_some, e3, Option.bind_some]
   have e5 := e4 k (by omega)
   cases o with
   | true =>
    rw [if_pos rfl] at e5
    rw [if_pos rfl, e5]
    rfl
   | false =>
    rw [if_neg (by simp)] at e5
    rw [if_neg (by simp), e5]
    rfl
  obtain ⟨m, ok, hM, K5, e5⟩ := merged_ok a b (by omega) (by omega)
  cases ok with
  | false =>
   refine ⟨4097 + K2 + K4 + K5, ?_⟩
   unfold laws_FnRank.f laws_big.f
   rw [Option.bind_some, decide_eq_false hbig, if_neg (by simp), ed _ (by omega), Option.bind_some, (e5 _ (by omega)).2, Option.bind_some, (e5 _ (by omega)).1, Option.bind_some]
   simp
  | true =>
   obtain ⟨K6, e6⟩ := fnRank_tail hM
   refine ⟨4097 + K2 + K4 + K5 + K6, ?_⟩
   unfold laws_FnRank.f laws_big.f
   rw [Option.bind_some, decide_eq_false hbig, if_neg (by simp), ed _ (by omega), Option.bind_some, (e5 _ (by omega)).2, Option.bind_some, (e5 _ (by omega)).1, Option.bind_some, if_neg (by simp), if_pos rfl]
   exact e6 _ (by omega)
end Go.Proofs.Ytljfflhbabkbgaa.Pure
