/- Texts of the claim of the law FnAnyOrder, made smaller by a program of this session: what the claim does not use is left out. No condition. -/
import Derived.Test.YtljfflhbabkbgaaZAoOpen
import Derived.Test.YtljfflhbabkbgaaZAoPLib
import Derived.Test.YtljfflhbabkbgaaZAoPFnAnyOrderx9
namespace Go.Proofs.Ytljfflhbabkbgaa.Pure
open Go.RowKit Go.Proofs.YtljfflhbabkbgaaOpen Go.Proofs.YtljfflhbabkbgaaPLib Go.Proofs.Ytljfflhbabkbgaa.PFnAnyOrder Go.Proofs.YtljfflhbabkbgaaW.PrintWords Go.Proofs.YtljfflhbabkbgaaW.PrintLast
open List (set_cons_zero map_cons map_nil length_drop length_take)
set_option linter.unusedVariables false
set_option linter.unusedSimpArgs false
/-- Ahead of: by the time, then by the number. -/
def ah (a b : S31) : Bool := decide (a.f0 < b.f0) || (decide (a.f0 = b.f0) && decide (a.f1 < b.f1))
theorem ah_iff {a b : S31} : ah a b = true ↔ a.f0 < b.f0 ∨ (a.f0 = b.f0 ∧ a.f1 < b.f1) := by simp [ah]
theorem ah_trans {a b c : S31} (h : ah a b = true) (k : ah b c = true) : ah a c = true := by
  rw [ah_iff] at *
  omega
theorem ah_asymm {a b : S31} (h : ah a b = true) : ah b a = false := by
  rw [← Bool.not_eq_true]
  rw [ah_iff] at *
  omega
theorem ah_total {a b : S31} (h : a.f1 ≠ b.f1) : ah a b = true ∨ ah b a = true := by
  rw [ah_iff, ah_iff]
  omega
/-- What counts of an element. -/
def keyT (x : S31) : Int × Int := (x.f0, x.f1)
theorem ah_key {a b c d : S31} (h : keyT a = keyT c) (k : keyT b = keyT d) : ah a b = ah c d := by
  unfold keyT at h k
  injection h with h1 h2
  injection k with k1 k2
  unfold ah
  rw [h1, h2, k1, k2]
/-- A root is ahead of the first of a list, where it has one. -/
def ahd (x : S31) (l : List S31) : Prop := ∀ y t, l = y :: t → ah x y = true
/-- A leftist heap and its rank. -/
inductive Hp : List S31 → Nat → Prop
  | nil : Hp [] 0
  | node {x : S31} {l r : List S31} {a b : Nat} : Hp l a → Hp r b → b ≤ a → x.f2 = (l.length : Int) → ahd x l → ahd x r → Hp (x :: (l ++ r)) (b + 1)
theorem Hp.cons {x : S31} {t : List S31} {n : Nat} (h : Hp (x :: t) n) : ∃ l r a b, t = l ++ r ∧ n = b + 1 ∧ Hp l a ∧ Hp r b ∧ b ≤ a ∧ x.f2 = (l.length : Int) ∧ ahd x l ∧ ahd x r := by
  generalize e : x :: t = h0 at h
  cases h with
  | nil => cases e
  | node h1 h2 h3 h4 h5 h6 =>
    injection e with e1 e2
    subst e1
    exact ⟨_, _, _, _, e2, rfl, h1, h2, h3, h4, h5, h6⟩
theorem Hp.one (x : S31) (h : x.f2 = 0) : Hp [x] 1 := Hp.node (l := []) (r := []) Hp.nil Hp.nil (Nat.le_refl 0) h (fun _ _ e => by cases e) (fun _ _ e => by cases e)
theorem Hp.rank_nil {n : Nat} (h : Hp [] n) : n = 0 := by cases h; rfl
/-- The left and the right heap. -/
theorem Hp.parts {x : S31} {t : List S31} {n : Nat} (h : Hp (x :: t) n) : 0 ≤ x.f2 ∧ x.f2 ≤ (t.length : Int) ∧ ∃ a b, n = b + 1 ∧ Hp (t.take x.f2.toNat) a ∧ Hp (t.drop x.f2.toNat) b ∧ b ≤ a ∧ ahd x (t.take x.f2.toNat) ∧ ahd x (t.drop x.f2.toNat) := by
  obtain ⟨l, r, a, b, rfl, rfl, h1, h2, h3, h4, h5, h6⟩ := h.cons
  have e : x.f2.toNat = l.length := by omega
  refine ⟨by omega, by rw [h4, List.length_append]; omega, a, b, rfl, ?_, ?_, h3, ?_, ?_⟩ <;> rw [e] <;> simp [h1, h2, h5, h6]
theorem Hp.uniq : ∀ {h : List S31} {n m : Nat}, Hp h n → Hp h m → n = m := by
  intro h
  generalize hN : h.length = N
  induction N using Nat.strongRecOn generalizing h with
  | _ N ih =>
    intro n m h1 h2
    cases h with
    | nil => rw [h1.rank_nil, h2.rank_nil]
    | cons x t =>
      obtain ⟨_, _, a, b, rfl, _, hb, _⟩ := h1.parts
      obtain ⟨_, _, a', b', rfl, _, hb', _⟩ := h2.parts
      have := ih (t.drop x.f2.toNat).length (by rw [length_drop]; simp at hN; omega) rfl hb hb'
      omega
/-- The root is ahead of all. -/
theorem Hp.least : ∀ {x : S31} {t : List S31} {n : Nat}, Hp (x :: t) n → ∀ y ∈ t, ah x y = true := by
  intro x t
  generalize hN : t.length = N
  induction N using Nat.strongRecOn generalizing x t with
  | _ N ih =>
    intro n h y hy
    obtain ⟨l, r, a, b, rfl, rfl, h1, h2, h3, h4, h5, h6⟩ := h.cons
    have side : ∀ (s : List S31) (c : Nat), s.length ≤ N → Hp s c → ahd x s → y ∈ s → ah x y = true := by
      intro s c hs hH hx hy
      cases s with
      | nil => cases hy
      | cons z s =>
        have e := hx z s rfl
        rcases List.mem_cons.1 hy with rfl | hy
        · exact e
        · exact ah_trans e (ih s.length (by simp at hs; omega) rfl hH y hy)
    rw [List.length_append] at hN
    rcases List.mem_append.1 hy with hy | hy
    · exact side l a (by omega) h1 h5 hy
    · exact side r b (by omega) h2 h6 hy
theorem pow_step (b : Nat) : 2 ^ (b + 1) = 2 * 2 ^ b := by rw [Nat.pow_succ, Nat.mul_comm]
/-- A heap of rank n has at least 2^n - 1 elements. -/
theorem Hp.big : ∀ {h : List S31} {n : Nat}, Hp h n → 2 ^ n ≤ h.length + 1 := by
  intro h n hh
  induction hh with
  | nil => exact Nat.le_refl _
  | @node x l r a b h1 h2 h3 h4 h5 h6 i1 i2 =>
    have : 2 ^ b ≤ 2 ^ a := Nat.pow_le_pow_right (by omega) h3
    rw [pow_step, List.length_cons, List.length_append]
    omega
theorem Hp.rank_le {h : List S31} {n : Nat} (hh : Hp h n) : n ≤ h.length := by
  have h1 := hh.big
  have h2 : n < 2 ^ n := Nat.lt_two_pow_self
  omega
/-- A root over two heaps, the one of the greater rank left. -/
def joinT (x : S31) (l m : List S31) (p q : Nat) : List S31 := if p < q then ⟨x.f0, x.f1, (m.length : Int)⟩ :: (m ++ l) else ⟨x.f0, x.f1, (l.length : Int)⟩ :: (l ++ m)
theorem joinT_hp {x : S31} {l m : List S31} {p q : Nat} (h1 : Hp l p) (h2 : Hp m q) (h3 : ∀ y ∈ l, ah x y = true) (h4 : ∀ y ∈ m, ah x y = true) : ∃ n, Hp (joinT x l m p q) n := by
  have f : ∀ (s : List S31), (∀ y ∈ s, ah x y = true) → ∀ c, ahd ⟨x.f0, x.f1, c⟩ s := by
    rintro s hs c y t rfl
    exact (ah_key (a := ⟨x.f0, x.f1, c⟩) (b := y) (c := x) (d := y) rfl rfl).trans (hs y (by simp))
  unfold joinT
  split
  · exact ⟨_, Hp.node h2 h1 (by omega) rfl (f m h4 _) (f l h3 _)⟩
  · exact ⟨_, Hp.node h1 h2 (by omega) rfl (f l h3 _) (f m h4 _)⟩
theorem joinT_perm (x : S31) (l m : List S31) (p q : Nat) : ((joinT x l m p q).map keyT).Perm (keyT x :: (l.map keyT ++ m.map keyT)) := by
  unfold joinT
  split
  · rw [map_cons, List.map_append]
    exact List.Perm.cons _ List.perm_append_comm
  · rw [map_cons, List.map_append]
    exact List.Perm.refl _
/-- What is ahead of all keys of a list is ahead of a list of the same keys. -/
theorem ah_perm {x : S31} {l m : List S31} (h : (m.map keyT).Perm (l.map keyT)) (k : ∀ y ∈ l, ah x y = true) : ∀ y ∈ m, ah x y = true := by
  intro y hy
  have : keyT y ∈ l.map keyT := h.subset (List.mem_map_of_mem hy)
  obtain ⟨z, hz, e⟩ := List.mem_map.1 this
  exact (ah_key (a := x) (b := y) (c := x) (d := z) rfl e.symm).trans (k z hz)
theorem perm_length {l m : List S31} (h : (m.map keyT).Perm (l.map keyT)) : m.length = l.length := by
  have := h.length_eq
  simpa using this
theorem seq_perm {l m : List S31} (h : (m.map keyT).Perm (l.map keyT)) : (m.map S31.f1).Perm (l.map S31.f1) := by
  have := h.map Prod.snd
  simpa [List.map_map, Function.comp_def, keyT] using this
/-- An element without the number of what lies left. -/
def stripT (x : S31) : S31 := ⟨x.f0, x.f1, 0⟩
def leT (a b : S31) : Bool := !ah b a
theorem leT_trans (a b c : S31) (h : leT a b = true) (k : leT b c = true) : leT a c = true := by
  simp only [leT, Bool.not_eq_true', ← Bool.not_eq_true, ah_iff] at *
  omega
theorem leT_total (a b : S31) : (leT a b || leT b a) = true := by
  rw [Bool.or_eq_true]
  simp only [leT, Bool.not_eq_true', ← Bool.not_eq_true, ah_iff] at *
  omega
/-- All elements in order. -/
def sortT (h : List S31) : List S31 := (h.map stripT).mergeSort leT
theorem sortT_perm (h : List S31) : (sortT h).Perm (h.map stripT) := List.mergeSort_perm _ _
theorem sortT_length (h : List S31) : (sortT h).length = h.length := by
  have := (sortT_perm h).length_eq
  simpa using this
/-- Strictly ascending. -/
def Asc (l : List S31) : Prop := l.Pairwise (fun a b => ah a b = true)
theorem Asc.uniq {l m : List S31} (h : Asc l) (k : Asc m) (p : l.Perm m) : l = m :=
  List.Perm.eq_of_pairwise (le := fun a b => ah a b = true) (fun a b _ _ h1 h2 => by rw [ah_asymm h1] at h2; cases h2) h k p
theorem pairwise_and {α : Type} {R S : α → α → Prop} : ∀ {l : List α}, l.Pairwise R → l.Pairwise S → l.Pairwise (fun a b => R a b ∧ S a b) := by
  intro l
  induction l with
  | nil => intro _ _; exact List.Pairwise.nil
  | cons x t ih =>
    intro h k
    rw [List.pairwise_cons] at *
    exact ⟨fun a ha => ⟨h.1 a ha, k.1 a ha⟩, ih h.2 k.2⟩
theorem nodup_f1 {l : List S31} (h : (l.map S31.f1).Nodup) : l.Pairwise (fun a b => a.f1 ≠ b.f1) := by
  rw [List.Nodup, List.pairwise_map] at h
  exact h
theorem asc_of {l : List S31} (h : l.Pairwise (fun a b => leT a b = true)) (k : (l.map S31.f1).Nodup) : Asc l := by
  refine (pairwise_and h (nodup_f1 k)).imp ?_
  rintro a b ⟨h1, h2⟩
  simp only [leT, Bool.not_eq_true', ← Bool.not_eq_true, ah_iff] at *
  omega
theorem strip_f1 (h : List S31) : (h.map stripT).map S31.f1 = h.map S31.f1 := by
  rw [List.map_map]
  rfl
theorem sortT_asc {h : List S31} (k : (h.map S31.f1).Nodup) : Asc (sortT h) := by
  refine asc_of (List.pairwise_mergeSort leT_trans leT_total _) ?_
  have := (sortT_perm h).map S31.f1
  rw [strip_f1] at this
  exact this.nodup_iff.2 k
theorem strip_key (l m : List S31) (h : (l.map keyT).Perm (m.map keyT)) : (l.map stripT).Perm (m.map stripT) := by
  have := h.map (fun p : Int × Int => (⟨p.1, p.2, 0⟩ : S31))
  rw [List.map_map, List.map_map] at this
  exact this
/-- The one list that is ascending and has the elements. -/
theorem sortT_of {h l : List S31} (k : (h.map S31.f1).Nodup) (ha : Asc l) (hp : l.Perm (h.map stripT)) : l = sortT h :=
  ha.uniq (sortT_asc k) (hp.trans (sortT_perm h).symm)
theorem Asc.filter {l : List S31} (p : S31 → Bool) (h : Asc l) : Asc (l.filter p) := List.Pairwise.filter _ h
theorem nodup_key {l m : List S31} (h : (l.map keyT).Perm (m.map keyT)) (k : (m.map S31.f1).Nodup) : (l.map S31.f1).Nodup := (seq_perm h).nodup_iff.2 k
theorem rdT_cons (x : S31) (t : List S31) : rd_T31 (x :: t) 0 = x := rfl
theorem rdT_at {l : List S31} {j : Nat} (h : j < l.length) : rd_T31 l (j : Int) = l[j] := by
  unfold rd_T31
  rw [Int.toNat_natCast, getD_lt _ h]
theorem within_ok (a lo hi : Int) : impl_within.f a lo hi = some (decide (lo ≤ a) && decide (a ≤ hi)) := by
  unfold impl_within.f
  by_cases h : lo ≤ a <;> simp [h]
theorem cut_head (x : S31) (t : List S31) (h0 : 0 ≤ x.f2) (h2 : x.f2 ≤ 4611686018427387904) : (wrap64 (1 + x.f2)).toNat = x.f2.toNat + 1 ∧ wrap64 (1 + x.f2) = 1 + x.f2 := by
  rw [wrap_id (by omega) (by omega)]
  omega
theorem parts_ok {x : S31} {t : List S31} (h0 : 0 ≤ x.f2) (h1 : x.f2 ≤ (t.length : Int)) (hn : t.length ≤ 4611686018427387904) : impl_parts.f (x :: t) = some (t.take x.f2.toNat, t.drop x.f2.toNat) := by
  obtain ⟨e1, e2⟩ := cut_head x t h0 (by omega)
  unfold impl_parts.f
  rw [rdT_cons, e1, e2, if_pos (by simp), if_pos (by omega), if_pos (by simp; omega), if_pos (by omega)]
  rfl
/-- What the comparison of two elements tells. -/
def cmpT (a b : S31) : Int := if a.f0 < b.f0 then -1 else if b.f0 < a.f0 then 1 else if a.f1 < b.f1 then -1 else if b.f1 < a.f1 then 1 else 0
theorem cmpT_neg (a b : S31) : decide (cmpT a b < 0) = ah a b := by
  rw [Bool.eq_iff_iff, ah_iff, decide_eq_true_iff]
  unfold cmpT
  split
  · simp; omega
  · split
    · simp; omega
    · split
      · simp; omega
      · split <;> simp <;> omega
theorem compare1_ok (a b : Int) : cmp_Compare_int64.f a b = some (if a < b then -1 else if b < a then 1 else 0) := by
  unfold cmp_Compare_int64.f cmp_isNaN_int64.f
  simp only [bne_self_eq_false, Option.bind_some]
  rw [if_neg (by simp), if_neg (by simp)]
  by_cases h : a < b
  · rw [if_pos h, if_pos h]
  · rw [if_neg h, if_neg h]
    by_cases h2 : b < a
    · rw [if_pos (by omega), if_pos h2]
    · rw [if_neg (by omega), if_neg h2]
theorem or_ok (p q : Int) (k : Nat) : cmp_Or_int.f (k + 3) [p, q] = some (if p = 0 then q else p) := by
  unfold cmp_Or_int.f
  have w1 : wrap64 (0 + 1) = 1 := by unfold wrap64; omega
  have w2 : wrap64 (1 + 1) = 2 := by unfold wrap64; omega
  have r0 : rd [p, q] 0 = p := rfl
  have r1 : rd [p, q] 1 = q := rfl
  simp only [cmp_Or_int.l0]
  rw [r0, w1, w2, r1]
  by_cases hp : p = 0
  · by_cases hq : q = 0
    · simp [hp, hq]
    · simp [hp, hq]
  · simp [hp]
theorem compare_ok (a b : S31) (k : Nat) (hk : 3 ≤ k) : impl_Twig_compare.f k a.f0 a.f1 a.f2 b.f0 b.f1 b.f2 = some (cmpT a b) := by
  obtain ⟨k, rfl⟩ : ∃ m, k = m + 3 := ⟨k - 3, by omega⟩
  unfold impl_Twig_compare.f
  rw [compare1_ok, compare1_ok, Option.bind_some, Option.bind_some, or_ok, Option.bind_some]
  unfold cmpT
  congr 1
  by_cases h : a.f0 < b.f0
  · simp [h]
  · by_cases h2 : b.f0 < a.f0 <;> simp [h, h2]
theorem size_ok (l : List S31) : impl_Twig_85.f l = some (l.length : Int) := rfl
/-- The head of a list, where there is one, is behind the root. -/
def okh (x : S31) : List S31 → Bool
  | [] => true
  | y :: _ => ah x y
theorem okh_iff {x : S31} {l : List S31} : okh x l = true ↔ ahd x l := by
  cases l with
  | nil => simp [okh, ahd]
  | cons y t =>
    unfold okh ahd
    constructor
    · intro h z s e
      injection e with e1 _
      subst e1
      exact h
    · intro h
      exact h y t rfl
theorem rank_loop : ∀ (n : Nat) (h : List S31) (c : Int), Hp h n → h.length ≤ 4611686018427387904 → 0 ≤ c → c + n ≤ 4611686018427387904 → ∀ k, n < k → impl_rank.l0 k h c = some (c + n) := by
  intro n
  induction n with
  | zero =>
    intro h c hh hl h0 h1 k hk
    obtain ⟨k, rfl⟩ : ∃ q, k = q + 1 := ⟨k - 1, by omega⟩
    have : h = [] := by
      cases h with
      | nil => rfl
      | cons x t =>
        obtain ⟨_, _, _, _, e, _⟩ := hh.parts
        omega
    subst this
    simp [impl_rank.l0]
  | succ n ih =>
    intro h c hh hl h0 h1 k hk
    obtain ⟨k, rfl⟩ : ∃ q, k = q + 1 := ⟨k - 1, by omega⟩
    cases h with
    | nil => have := hh.rank_nil; omega
    | cons x t =>
      obtain ⟨p0, p1, a, b, e, _, hb, _⟩ := hh.parts
      obtain rfl : n = b := by omega
      rw [List.length_cons] at hl
      simp only [impl_rank.l0]
      rw [if_pos (by simp), parts_ok p0 p1 (by omega), Option.bind_some, wrap_id (by omega) (by omega), ih _ _ hb (by rw [length_drop]; omega) (by omega) (by omega) k (by omega)]
      congr 1
      omega
theorem rank_hp {h : List S31} {n : Nat} (hh : Hp h n) (hn : h.length ≤ 4611686018427387903) : ∀ k, n < k → impl_rank.f k h = some (n : Int) := by
  intro k hk
  unfold impl_rank.f
  have := hh.rank_le
  rw [rank_loop n h 0 hh (by omega) (by omega) (by omega) k hk]
  congr 1
  omega
theorem ne1 (l : List S31) : ¬ ((l.length : Int) + 1 = 0) := by omega
theorem isheap_j0 (k : Nat) (x : S31) (t l r : List S31) (hk : 3 ≤ k) : impl_isHeap.j0 (k + 1) (x :: t) l r false = some (okh x l && okh x r) := by
  simp only [impl_isHeap.j0]
  rw [if_neg (by simp), rdT_cons]
  cases l with
  | nil =>
    cases r with
    | nil => simp [ne1, okh]
    | cons z r =>
      rw [rdT_cons, compare_ok x z k hk]
      simp [ne1, okh, cmpT_neg]
  | cons y l =>
    rw [rdT_cons, compare_ok x y k hk]
    have e := cmpT_neg x y
    cases r with
    | nil =>
      by_cases c : cmpT x y < 0
      · simp [c] at e
        simp [ne1, okh, ← e, c]
      · simp [c] at e
        simp [ne1, okh, ← e, c]
    | cons z r =>
      rw [rdT_cons, compare_ok x z k hk]
      by_cases c : cmpT x y < 0
      · simp [c] at e
        simp [ne1, okh, ← e, c, cmpT_neg]
      · simp [c] at e
        simp [ne1, okh, e, c]
theorem isheap_j1 (k : Nat) (x l r : List S31) : impl_isHeap.j0 (k + 1) x l r true = some false := by
  simp [impl_isHeap.j0]
theorem isheap_ok : ∀ (N : Nat) (h : List S31), h.length ≤ N → N ≤ 4611686018427387900 → ∃ b K, (∀ k, K ≤ k → impl_isHeap.f k h = some b) ∧ (b = true ↔ ∃ n, Hp h n) := by
  intro N
  have nil : ∃ b K, (∀ k, K ≤ k → impl_isHeap.f k [] = some b) ∧ (b = true ↔ ∃ n, Hp [] n) := by
    refine ⟨true, 1, fun k hk => ?_, by simp; exact ⟨0, Hp.nil⟩⟩
    obtain ⟨k, rfl⟩ : ∃ q, k = q + 1 := ⟨k - 1, by omega⟩
    simp [impl_isHeap.f]
  induction N with
  | zero =>
    intro h hl hN
    obtain rfl : h = [] := List.length_eq_zero_iff.1 (by omega)
    exact nil
  | succ N ih =>
    intro h hl hN
    cases h with
    | nil => exact nil
    | cons x t =>
      rw [List.length_cons] at hl
      have hw : wrap64 (((x :: t).length : Int) - 1) = (t.length : Int) := by
        rw [List.length_cons, wrap_id (by omega) (by omega)]
        omega
      by_cases hin : 0 ≤ x.f2 ∧ x.f2 ≤ (t.length : Int)
      · obtain ⟨a, K1, e1, c1⟩ := ih (t.take x.f2.toNat) (by rw [length_take]; omega) (by omega)
        obtain ⟨b, K2, e2, c2⟩ := ih (t.drop x.f2.toNat) (by rw [length_drop]; omega) (by omega)
        have step : ∀ k, K1 + K2 ≤ k → impl_isHeap.f (k + 1) (x :: t) = if a = true then (if b = true then ((impl_rank.f k (t.take x.f2.toNat)).bind fun p => ((impl_rank.f k (t.drop x.f2.toNat)).bind fun q => impl_isHeap.j0 k (x :: t) (t.take x.f2.toNat) (t.drop x.f2.toNat) (decide (p < q)))) else impl_isHeap.j0 k (x :: t) (t.take x.f2.toNat) (t.drop x.f2.toNat) true) else impl_isHeap.j0 k (x :: t) (t.take x.f2.toNat) (t.drop x.f2.toNat) true := by
          intro k hk
          simp only [impl_isHeap.f]
          rw [if_neg (by simp; omega), if_pos (by simp), size_ok, Option.bind_some, hw, rdT_cons, within_ok, Option.bind_some, if_pos (by simp; omega), parts_ok hin.1 hin.2 (by omega), Option.bind_some]
          simp only
          rw [e1 k (by omega), Option.bind_some]
          by_cases ha : a = true
          · rw [if_pos ha, if_pos ha, e2 k (by omega), Option.bind_some]
          · rw [if_neg ha, if_neg ha]
        by_cases ha : a = true
        · by_cases hb : b = true
          · obtain ⟨na, h1⟩ := c1.1 ha
            obtain ⟨nb, h2⟩ := c2.1 hb
            have ha2 := h1.rank_le
            have hb2 := h2.rank_le
            rw [length_take] at ha2
            rw [length_drop] at hb2
            have step2 : ∀ k, K1 + K2 + na + nb + 5 ≤ k → impl_isHeap.f (k + 1) (x :: t) = impl_isHeap.j0 k (x :: t) (t.take x.f2.toNat) (t.drop x.f2.toNat) (decide ((na : Int) < nb)) := by
              intro k hk
              rw [step k (by omega), if_pos ha, if_pos hb, rank_hp h1 (by rw [length_take]; omega) k (by omega), rank_hp h2 (by rw [length_drop]; omega) k (by omega), Option.bind_some, Option.bind_some]
            by_cases hab : na < nb
            · refine ⟨false, K1 + K2 + na + nb + 7, fun k hk => ?_, ?_⟩
              · obtain ⟨k, rfl⟩ : ∃ q, k = q + 2 := ⟨k - 2, by omega⟩
                rw [step2 _ (by omega), decide_eq_true (by omega), isheap_j1]
              · constructor
                · intro h; cases h
                · rintro ⟨n, hn⟩
                  obtain ⟨_, _, p, q, _, hp, hq, hpq, _⟩ := hn.parts
                  have := hp.uniq h1
                  have := hq.uniq h2
                  omega
            · refine ⟨okh x (t.take x.f2.toNat) && okh x (t.drop x.f2.toNat), K1 + K2 + na + nb + 7, fun k hk => ?_, ?_⟩
              · obtain ⟨k, rfl⟩ : ∃ q, k = q + 2 := ⟨k - 2, by omega⟩
                rw [step2 _ (by omega), decide_eq_false (by omega), isheap_j0 _ _ _ _ _ (by omega)]
              · rw [Bool.and_eq_true, okh_iff, okh_iff]
                constructor
                · rintro ⟨g1, g2⟩
                  have := Hp.node (x := x) h1 h2 (by omega) (by rw [length_take]; omega) g1 g2
                  rw [List.take_append_drop] at this
                  exact ⟨_, this⟩
                · rintro ⟨n, hn⟩
                  obtain ⟨_, _, p, q, _, _, _, _, g1, g2⟩ := hn.parts
                  exact ⟨g1, g2⟩
          · refine ⟨false, K1 + K2 + 2, fun k hk => ?_, ?_⟩
            · obtain ⟨k, rfl⟩ : ∃ q, k = q + 2 := ⟨k - 2, by omega⟩
              rw [step _ (by omega), if_pos ha, if_neg hb, isheap_j1]
            · constructor
              · intro h; cases h
              · rintro ⟨n, hn⟩
                obtain ⟨_, _, p, q, _, hp, hq, _⟩ := hn.parts
                exact absurd (c2.2 ⟨_, hq⟩) hb
        · refine ⟨false, K1 + K2 + 2, fun k hk => ?_, ?_⟩
          · obtain ⟨k, rfl⟩ : ∃ q, k = q + 2 := ⟨k - 2, by omega⟩
            rw [step _ (by omega), if_neg ha, isheap_j1]
          · constructor
            · intro h; cases h
            · rintro ⟨n, hn⟩
              obtain ⟨_, _, p, q, _, hp, hq, _⟩ := hn.parts
              exact absurd (c1.2 ⟨_, hp⟩) ha
      · refine ⟨false, 1, fun k hk => ?_, ?_⟩
        · obtain ⟨k, rfl⟩ : ∃ q, k = q + 1 := ⟨k - 1, by omega⟩
          simp only [impl_isHeap.f]
          rw [if_neg (by simp; omega), if_pos (by simp), size_ok, Option.bind_some, hw, rdT_cons, within_ok, Option.bind_some, if_neg (by simp; omega)]
        · constructor
          · intro h; cases h
          · rintro ⟨n, hn⟩
            exact absurd ⟨hn.parts.1, hn.parts.2.1⟩ hin
/-- The place of a number, from i on. -/
def findT (q : Int) : List S31 → Int → Int
  | [], _ => -1
  | x :: t, i => if x.f1 = q then i else findT q t (i + 1)
theorem findT_iff (q : Int) : ∀ (l : List S31) (i : Int), 0 ≤ i → (0 ≤ findT q l i ↔ q ∈ l.map S31.f1) := by
  intro l
  induction l with
  | nil => intro i _; simp [findT]
  | cons x t ih =>
    intro i hi
    unfold findT
    by_cases h : x.f1 = q
    · rw [if_pos h]
      simp [h, hi]
    · rw [if_neg h, ih (i + 1) (by omega)]
      simp [Ne.symm h]
theorem seq_loop (l : List S31) (q : Int) (hl : l.length ≤ 4611686018427387904) : ∀ (m j k : Nat), j + m = l.length → m < k → impl_Twig_83.l0 k l q (l.length : Int) (j : Int) = some (findT q (l.drop j) j) := by
  intro m
  induction m with
  | zero =>
    intro j k hj hk
    obtain ⟨k, rfl⟩ : ∃ q, k = q + 1 := ⟨k - 1, by omega⟩
    simp only [impl_Twig_83.l0]
    rw [if_neg (by omega), List.drop_eq_nil_of_le (by omega)]
    rfl
  | succ m ih =>
    intro j k hj hk
    obtain ⟨k, rfl⟩ : ∃ q, k = q + 1 := ⟨k - 1, by omega⟩
    have hlt : j < l.length := by omega
    simp only [impl_Twig_83.l0]
    rw [if_pos (by omega), if_pos (by omega), if_pos (by omega), rdT_at hlt, wrap_id (by omega) (by omega), show ((j : Int) + 1) = ((j + 1 : Nat) : Int) by omega, ih (j + 1) k (by omega) (by omega), List.drop_eq_getElem_cons hlt]
    unfold impl_seqAt_1.f
    rw [Option.bind_some]
    conv => rhs; unfold findT
    by_cases h : l[j].f1 = q
    · rw [if_pos (by simp [h]), if_pos h]
    · rw [if_neg (by simp [h]), if_neg h]
      rfl
theorem seqAt_ok (l : List S31) (q : Int) (hl : l.length ≤ 4611686018427387904) (k : Nat) (hk : l.length < k) : impl_seqAt.f k l q = some (findT q l 0) := by
  unfold impl_seqAt.f impl_Twig_83.f
  have := seq_loop l q hl l.length 0 k (by omega) hk
  rw [show ((0 : Nat) : Int) = 0 from rfl] at this
  rw [this, Option.bind_some]
  rfl
/-- No number twice. -/
def ndT (l : List S31) : Prop := (l.map S31.f1).Nodup
theorem ndT_snoc {l : List S31} {j : Nat} (h : j < l.length) : ndT (l.take (j + 1)) ↔ ndT (l.take j) ∧ ¬ l[j].f1 ∈ (l.take j).map S31.f1 := by
  unfold ndT
  rw [List.take_succ_eq_append_getElem h, List.map_append, map_cons, map_nil, List.nodup_append]
  constructor
  · rintro ⟨h1, _, h3⟩
    exact ⟨h1, fun hm => h3 _ hm _ (by simp) rfl⟩
  · rintro ⟨h1, h2⟩
    refine ⟨h1, by simp, ?_⟩
    intro a ha b hb e
    simp at hb
    subst hb
    subst e
    exact h2 ha
theorem ndT_take {l : List S31} (h : ndT l) (j : Nat) : ndT (l.take j) := by
  unfold ndT at *
  rw [List.map_take]
  exact List.Pairwise.sublist (List.take_sublist _ _) h
theorem heap_loop (l : List S31) (hl : l.length ≤ 4611686018427387900) : ∀ (m j : Nat), j + m = l.length → ndT (l.take j) → ∃ b K, (∀ k, K ≤ k → impl_HeapOk.l0 k l l (l.length : Int) (j : Int) = some b) ∧ (b = true ↔ ndT l ∧ ∃ n, Hp l n) := by
  intro m
  induction m with
  | zero =>
    intro j hj hnd
    obtain ⟨b, K, e, hb⟩ := isheap_ok _ l (Nat.le_refl _) hl
    refine ⟨b, K + 1, fun k hk => ?_, ?_⟩
    · obtain ⟨k, rfl⟩ : ∃ q, k = q + 1 := ⟨k - 1, by omega⟩
      simp only [impl_HeapOk.l0]
      rw [if_neg (by omega), e k (by omega), Option.bind_some]
    · rw [List.take_of_length_le (by omega)] at hnd
      rw [hb]
      exact ⟨fun h => ⟨hnd, h⟩, fun h => h.2⟩
  | succ m ih =>
    intro j hj hnd
    have hlt : j < l.length := by omega
    have step : ∀ k, l.length < k → impl_HeapOk.l0 (k + 1) l l (l.length : Int) (j : Int) = if 0 ≤ findT l[j].f1 (l.take j) 0 then some false else impl_HeapOk.l0 k l l (l.length : Int) ((j + 1 : Nat) : Int) := by
      intro k hk
      simp only [impl_HeapOk.l0]
      rw [if_pos (by omega), if_pos (by omega), if_pos (by omega), if_pos (by omega), rdT_at hlt, Int.toNat_natCast, seqAt_ok _ _ (by rw [length_take]; omega) k (by rw [length_take]; omega), Option.bind_some, wrap_id (by omega) (by omega)]
      rfl
    by_cases hf : 0 ≤ findT l[j].f1 (l.take j) 0
    · refine ⟨false, l.length + 2, fun k hk => ?_, ?_⟩
      · obtain ⟨k, rfl⟩ : ∃ q, k = q + 1 := ⟨k - 1, by omega⟩
        rw [step k (by omega), if_pos hf]
      · constructor
        · intro h; cases h
        · rintro ⟨h, _⟩
          rw [findT_iff _ _ _ (by omega)] at hf
          exact absurd hf ((ndT_snoc hlt).1 (ndT_take h (j + 1))).2
    · obtain ⟨b, K, e, hb⟩ := ih (j + 1) (by omega) ((ndT_snoc hlt).2 ⟨hnd, by rw [findT_iff _ _ _ (by omega)] at hf; exact hf⟩)
      refine ⟨b, K + l.length + 2, fun k hk => ?_, hb⟩
      obtain ⟨k, rfl⟩ : ∃ q, k = q + 1 := ⟨k - 1, by omega⟩
      rw [step k (by omega), if_neg hf, e k (by omega)]
/-- A heap that the program takes. -/
def OkT (l : List S31) : Prop := l.length ≤ 64 ∧ ndT l ∧ ∃ n, Hp l n
theorem heapOk_ok (l : List S31) (hl : l.length ≤ 4611686018427387900) : ∃ b K, (∀ k, K ≤ k → impl_HeapOk.f k l = some b) ∧ (b = true ↔ OkT l) := by
  by_cases h64 : l.length ≤ 64
  · obtain ⟨b3, K3, e3, h3⟩ := heap_loop l hl l.length 0 (by omega) (by simp [ndT])
    refine ⟨b3, K3, fun k hk => ?_, ?_⟩
    · unfold impl_HeapOk.f
      rw [if_neg (by omega)]
      exact e3 k (by omega)
    · rw [h3]
      exact ⟨fun h => ⟨h64, h⟩, fun h => h.2⟩
  · refine ⟨false, 0, fun k hk => ?_, ?_⟩
    · unfold impl_HeapOk.f
      rw [if_pos (by omega)]
    · constructor
      · intro h; cases h
      · intro h
        exact absurd h.1 h64
theorem cloneT_ok (l : List S31) (hl : l.length < 5000000000000) : impl_Twig_72.f l = some l := by
  unfold impl_Twig_72.f
  rw [Option.bind_some, if_pos (by simp; omega)]
  rfl
theorem joined_ok (x : S31) (l m : List S31) {p q : Nat} (h1 : Hp l p) (h2 : Hp m q) (hl : l.length + m.length ≤ 4000000000000) : ∃ K, ∀ k, K ≤ k → impl_joined.f k x.f0 x.f1 x.f2 l m = some (joinT x l m p q) := by
  have e3 := rank_hp h1 (by omega)
  have e4 := rank_hp h2 (by omega)
  refine ⟨p + q + 1, fun k hk => ?_⟩
  · unfold impl_joined.f joinT
    rw [e3 k (by omega), e4 k (by omega), Option.bind_some, Option.bind_some]
    by_cases h : p < q
    · rw [if_pos (by omega), if_pos h, size_ok, Option.bind_some, Option.bind_some, if_pos (by simp; omega), Option.bind_some, if_pos (by simp; omega)]
      simp
    · rw [if_neg (by omega), if_neg h, size_ok, Option.bind_some, Option.bind_some, if_pos (by simp; omega), Option.bind_some, if_pos (by simp; omega)]
      simp
/-- No number in common. -/
def disT (a b : List S31) : Prop := ∀ x ∈ a, ∀ y ∈ b, x.f1 ≠ y.f1
theorem disT_symm {a b : List S31} (h : disT a b) : disT b a := fun x hx y hy e => h y hy x hx e.symm
theorem keys_parts (x : S31) (t : List S31) (n : Nat) (u : List (Int × Int)) : keyT x :: ((t.take n).map keyT ++ ((t.drop n).map keyT ++ u)) = (x :: t).map keyT ++ u := by
  rw [← List.append_assoc, ← List.map_append, List.take_append_drop]
  rfl
theorem merge_ok : ∀ (N : Nat) (a b : List S31) (p q : Nat), a.length + b.length ≤ N → N ≤ 2000000 → Hp a p → Hp b q → disT a b →
    ∃ m n, Hp m n ∧ (m.map keyT).Perm (a.map keyT ++ b.map keyT) ∧ ∃ K, ∀ k, K ≤ k → impl_merge.f k a b = some m := by
  intro N
  induction N with
  | zero =>
    intro a b p q hl hN h1 h2 hd
    obtain rfl : a = [] := List.length_eq_zero_iff.1 (by omega)
    refine ⟨b, q, h2, List.Perm.refl _, 1, fun k hk => ?_⟩
    obtain ⟨k, rfl⟩ : ∃ q, k = q + 1 := ⟨k - 1, by omega⟩
    simp only [impl_merge.f]
    rw [if_pos (by simp), cloneT_ok b (by omega)]
    rfl
  | succ N ih =>
    intro a b p q hl hN h1 h2 hd
    cases a with
    | nil =>
      refine ⟨b, q, h2, List.Perm.refl _, 1, fun k hk => ?_⟩
      obtain ⟨k, rfl⟩ : ∃ q, k = q + 1 := ⟨k - 1, by omega⟩
      simp only [impl_merge.f]
      rw [if_pos (by simp), cloneT_ok b (by omega)]
      rfl
    | cons x t =>
      rw [List.length_cons] at hl
      cases b with
      | nil =>
        refine ⟨x :: t, p, h1, by simp, 1, fun k hk => ?_⟩
        obtain ⟨k, rfl⟩ : ∃ q, k = q + 1 := ⟨k - 1, by omega⟩
        have c := cloneT_ok (x :: t) (by rw [List.length_cons]; simp at hl; omega)
        · simp only [impl_merge.f]
          rw [if_neg (by simp; omega), if_pos (by simp), c]
          rfl
      | cons y s =>
        rw [List.length_cons] at hl
        have hxy : x.f1 ≠ y.f1 := hd x (by simp) y (by simp)
        have L1 := h1.least
        have L2 := h2.least
        by_cases hah : ah x y = true
        · obtain ⟨p0, p1, pa, pb, rfl, hpa, hpb, hle, _, _⟩ := h1.parts
          have hsub : ∀ z ∈ t.drop x.f2.toNat, z ∈ t := fun z hz => List.mem_of_mem_drop hz
          obtain ⟨m, n, hm, hp, K1, e1⟩ := ih (t.drop x.f2.toNat) (y :: s) pb q (by rw [length_drop, List.length_cons]; omega) (by omega) hpb h2 (fun z hz w hw => hd z (by simp [hsub z hz]) w hw)
          have hp0 := hp
          rw [← List.map_append] at hp
          have hall : ∀ z ∈ t.drop x.f2.toNat ++ y :: s, ah x z = true := by
            intro z hz
            rcases List.mem_append.1 hz with hz | hz
            · exact L1 z (hsub z hz)
            · rcases List.mem_cons.1 hz with rfl | hz
              · exact hah
              · exact ah_trans hah (L2 z hz)
          have hm2 := ah_perm hp hall
          have hl2 : ∀ z ∈ t.take x.f2.toNat, ah x z = true := fun z hz => L1 z (List.mem_of_mem_take hz)
          have hmlen := perm_length hp
          rw [List.length_append, List.length_cons, length_drop] at hmlen
          obtain ⟨n2, hj⟩ := joinT_hp hpa hm hl2 hm2
          obtain ⟨K2, e2⟩ := joined_ok x (t.take x.f2.toNat) m hpa hm (by rw [length_take]; omega)
          refine ⟨joinT x (t.take x.f2.toNat) m pa n, n2, hj, ?_, K1 + K2 + 4, fun k hk => ?_⟩
          · refine (joinT_perm _ _ _ _ _).trans ?_
            rw [← keys_parts x t x.f2.toNat]
            exact List.Perm.cons _ (List.Perm.append_left _ hp0)
          · obtain ⟨k, rfl⟩ : ∃ q, k = q + 1 := ⟨k - 1, by omega⟩
            · have hc : ¬ cmpT y x < 0 := by
                intro hc
                have := cmpT_neg y x
                rw [decide_eq_true hc, ah_asymm hah] at this
                cases this
              simp only [impl_merge.f]
              rw [if_neg (by simp; omega), if_neg (by simp; omega), if_pos (by simp), if_pos (by simp), rdT_cons, rdT_cons, compare_ok y x k (by omega), Option.bind_some, if_neg hc, parts_ok p0 p1 (by omega), Option.bind_some]
              simp only
              rw [e1 k (by omega), Option.bind_some, e2 k (by omega), Option.bind_some]
        · have hya : ah y x = true := (ah_total hxy).resolve_left hah
          obtain ⟨p0, p1, pa, pb, rfl, hpa, hpb, hle, _, _⟩ := h2.parts
          have hsub : ∀ z ∈ s.drop y.f2.toNat, z ∈ s := fun z hz => List.mem_of_mem_drop hz
          obtain ⟨m, n, hm, hp, K1, e1⟩ := ih (s.drop y.f2.toNat) (x :: t) pb p (by rw [length_drop, List.length_cons]; omega) (by omega) hpb h1 (fun z hz w hw => disT_symm hd z (by simp [hsub z hz]) w hw)
          have hp0 := hp
          rw [← List.map_append] at hp
          have hall : ∀ z ∈ s.drop y.f2.toNat ++ x :: t, ah y z = true := by
            intro z hz
            rcases List.mem_append.1 hz with hz | hz
            · exact L2 z (hsub z hz)
            · rcases List.mem_cons.1 hz with rfl | hz
              · exact hya
              · exact ah_trans hya (L1 z hz)
          have hm2 := ah_perm hp hall
          have hl2 : ∀ z ∈ s.take y.f2.toNat, ah y z = true := fun z hz => L2 z (List.mem_of_mem_take hz)
          have hmlen := perm_length hp
          rw [List.length_append, List.length_cons, length_drop] at hmlen
          obtain ⟨n2, hj⟩ := joinT_hp hpa hm hl2 hm2
          obtain ⟨K2, e2⟩ := joined_ok y (s.take y.f2.toNat) m hpa hm (by rw [length_take]; omega)
          refine ⟨joinT y (s.take y.f2.toNat) m pa n, n2, hj, ?_, K1 + K2 + 4, fun k hk => ?_⟩
          · refine (joinT_perm _ _ _ _ _).trans ?_
            refine List.Perm.trans ?_ List.perm_append_comm
            rw [← keys_parts y s y.f2.toNat]
            exact List.Perm.cons _ (List.Perm.append_left _ hp0)
          · obtain ⟨k, rfl⟩ : ∃ q, k = q + 1 := ⟨k - 1, by omega⟩
            · have hc : cmpT y x < 0 := by
                have := cmpT_neg y x
                rw [hya] at this
                exact of_decide_eq_true this
              simp only [impl_merge.f]
              rw [if_neg (by simp; omega), if_neg (by simp; omega), if_pos (by simp), if_pos (by simp), rdT_cons, rdT_cons, compare_ok y x k (by omega), Option.bind_some, if_pos hc, parts_ok p0 p1 (by omega), Option.bind_some]
              simp only
              rw [e1 k (by omega), Option.bind_some, e2 k (by omega), Option.bind_some]
theorem ndT_append {a b : List S31} : ndT (a ++ b) ↔ ndT a ∧ ndT b ∧ disT a b := by
  unfold ndT disT
  rw [List.map_append, List.nodup_append]
  constructor
  · rintro ⟨h1, h2, h3⟩
    exact ⟨h1, h2, fun x hx y hy => h3 _ (List.mem_map_of_mem hx) _ (List.mem_map_of_mem hy)⟩
  · rintro ⟨h1, h2, h3⟩
    refine ⟨h1, h2, fun u hu v hv => ?_⟩
    obtain ⟨x, hx, rfl⟩ := List.mem_map.1 hu
    obtain ⟨y, hy, rfl⟩ := List.mem_map.1 hv
    exact h3 x hx y hy
theorem ndT_cons {x : S31} {t : List S31} (h : ndT (x :: t)) : ndT t ∧ ¬ x.f1 ∈ t.map S31.f1 := by
  unfold ndT at *
  rw [map_cons, List.nodup_cons] at h
  exact ⟨h.2, h.1⟩
theorem ndT_cut {t : List S31} (h : ndT t) (n : Nat) : ndT (t.take n) ∧ ndT (t.drop n) ∧ disT (t.take n) (t.drop n) := by
  rw [← List.take_append_drop n t] at h
  exact ndT_append.1 h
theorem mg_loop (a b : List S31) (ha : a.length ≤ 4611686018427387900) (hb : b.length ≤ 4611686018427387900) : ∀ (m j : Nat), j + m = a.length → ∃ r K, (∀ k, K ≤ k → impl_Merged_1.l0 k a b (a.length : Int) (j : Int) = some r) ∧ -1 ≤ r ∧ (r < 0 ↔ disT (a.drop j) b) := by
  intro m
  induction m with
  | zero =>
    intro j hj
    refine ⟨-1, 1, fun k hk => ?_, by omega, ?_⟩
    · obtain ⟨k, rfl⟩ : ∃ q, k = q + 1 := ⟨k - 1, by omega⟩
      simp only [impl_Merged_1.l0]
      rw [if_neg (by omega)]
    · rw [List.drop_eq_nil_of_le (by omega)]
      constructor
      · intro _ x hx
        cases hx
      · intro _
        omega
  | succ m ih =>
    intro j hj
    have hlt : j < a.length := by omega
    have step : ∀ k, b.length < k → impl_Merged_1.l0 (k + 1) a b (a.length : Int) (j : Int) = if 0 ≤ findT a[j].f1 b 0 then some (j : Int) else impl_Merged_1.l0 k a b (a.length : Int) ((j + 1 : Nat) : Int) := by
      intro k hk
      simp only [impl_Merged_1.l0]
      unfold impl_Merged_1.c
      rw [if_pos (by omega), if_pos (by omega), if_pos (by omega), rdT_at hlt, seqAt_ok _ _ (by omega) k hk, Option.bind_some, Option.bind_some, wrap_id (by omega) (by omega)]
      by_cases h : 0 ≤ findT a[j].f1 b 0
      · rw [if_pos (by simp [h]), if_pos h]
      · rw [if_neg (by simp; omega), if_neg h]
        rfl
    have hmem : 0 ≤ findT a[j].f1 b 0 ↔ ∃ y ∈ b, y.f1 = a[j].f1 := by
      rw [findT_iff _ _ _ (by omega), List.mem_map]
    by_cases hf : 0 ≤ findT a[j].f1 b 0
    · refine ⟨j, b.length + 2, fun k hk => ?_, by omega, ?_⟩
      · obtain ⟨k, rfl⟩ : ∃ q, k = q + 1 := ⟨k - 1, by omega⟩
        rw [step k (by omega), if_pos hf]
      · constructor
        · intro h
          omega
        · intro h
          obtain ⟨y, hy, e⟩ := hmem.1 hf
          exact absurd e.symm (h a[j] (by rw [List.drop_eq_getElem_cons hlt]; exact List.mem_cons_self) y hy)
    · obtain ⟨r, K, e, hr, hi⟩ := ih (j + 1) (by omega)
      refine ⟨r, K + b.length + 2, fun k hk => ?_, hr, ?_⟩
      · obtain ⟨k, rfl⟩ : ∃ q, k = q + 1 := ⟨k - 1, by omega⟩
        rw [step k (by omega), if_neg hf, e k (by omega)]
      · rw [hi, List.drop_eq_getElem_cons hlt]
        constructor
        · intro h x hx y hy
          rcases List.mem_cons.1 hx with rfl | hx
          · intro e
            exact hf (hmem.2 ⟨y, hy, e.symm⟩)
          · exact h x hx y hy
        · intro h x hx y hy
          exact h x (List.mem_cons_of_mem _ hx) y hy
theorem mg_ok (a b : List S31) (ha : a.length ≤ 4611686018427387900) (hb : b.length ≤ 4611686018427387900) : ∃ r K, (∀ k, K ≤ k → impl_Merged_1.f k a b = some r) ∧ (r = false ↔ disT a b) := by
  obtain ⟨r, K, e, hr, hi⟩ := mg_loop a b ha hb a.length 0 (by omega)
  refine ⟨decide (0 ≤ r), K, fun k hk => ?_, ?_⟩
  · unfold impl_Merged_1.f impl_Merged_1.i
    have := e k hk
    rw [show ((0 : Nat) : Int) = 0 from rfl] at this
    rw [this, Option.bind_some]
  · rw [List.drop_zero] at hi
    rw [← hi]
    simp
/-- What the union of two heaps is. -/
structure MergedT (a b m : List S31) (ok : Bool) : Prop where
  yes : ok = true ↔ OkT a ∧ OkT b ∧ a.length + b.length ≤ 64 ∧ disT a b
  heap : ok = true → ∃ n, Hp m n
  keys : ok = true → (m.map keyT).Perm (a.map keyT ++ b.map keyT)
  none : ok = false → m = []
theorem merged_ok (a b : List S31) (ha : a.length ≤ 1048576) (hb : b.length ≤ 1048576) : ∃ m ok, MergedT a b m ok ∧ ∃ K, ∀ k, K ≤ k → impl_Merged.f k a b = some (m, ok) := by
  obtain ⟨b1, K1, e1, h1⟩ := heapOk_ok a (by omega)
  obtain ⟨b2, K2, e2, h2⟩ := heapOk_ok b (by omega)
  have hw : wrap64 ((a.length : Int) + (b.length : Int)) = (a.length : Int) + (b.length : Int) := wrap_id (by omega) (by omega)
  have no : ¬ (OkT a ∧ OkT b ∧ a.length + b.length ≤ 64 ∧ disT a b) → MergedT a b [] false := fun h => ⟨⟨(fun e => by cases e), fun e => absurd e h⟩, (fun e => by cases e), (fun e => by cases e), fun _ => rfl⟩
  cases b1 with
  | false =>
    refine ⟨[], false, no (fun h => by have := h1.2 h.1; cases this), K1, fun k hk => ?_⟩
    · unfold impl_Merged.f
      rw [e1 k hk]
      simp
  | true =>
    cases b2 with
    | false =>
      refine ⟨[], false, no (fun h => by have := h2.2 h.2.1; cases this), K1 + K2, fun k hk => ?_⟩
      · unfold impl_Merged.f
        rw [e1 k (by omega), Option.bind_some, if_pos rfl, e2 k (by omega)]
        simp
    | true =>
      obtain ⟨la, na, pa, hpa⟩ := h1.1 rfl
      obtain ⟨lb, nb, pb, hpb⟩ := h2.1 rfl
      by_cases hlen : a.length + b.length ≤ 64
      · obtain ⟨r, K3, e3, h3⟩ := mg_ok a b (by omega) (by omega)
        by_cases hd : disT a b
        · obtain ⟨m, n, hm, hp, K5, e5⟩ := merge_ok _ a b pa pb (Nat.le_refl _) (by omega) hpa hpb hd
          obtain rfl : r = false := h3.2 hd
          refine ⟨m, true, ⟨⟨fun _ => ⟨h1.1 rfl, h2.1 rfl, hlen, hd⟩, fun _ => rfl⟩, fun _ => ⟨n, hm⟩, fun _ => hp, (fun e => by cases e)⟩, K1 + K2 + K3 + K5, fun k hk => ?_⟩
          · unfold impl_Merged.f
            rw [e1 k (by omega), Option.bind_some, if_pos rfl, e2 k (by omega), Option.bind_some, if_pos rfl, hw, if_neg (by omega), e3 k (by omega), Option.bind_some, if_neg (by simp), e5 k (by omega), Option.bind_some]
        · obtain rfl : r = true := by
            cases r with
            | true => rfl
            | false => exact absurd (h3.1 rfl) hd
          refine ⟨[], false, no (fun h => hd h.2.2.2), K1 + K2 + K3, fun k hk => ?_⟩
          · unfold impl_Merged.f
            rw [e1 k (by omega), Option.bind_some, if_pos rfl, e2 k (by omega), Option.bind_some, if_pos rfl, hw, if_neg (by omega), e3 k (by omega), Option.bind_some, if_pos rfl]
      · refine ⟨[], false, no (fun h => hlen h.2.2.1), K1 + K2, fun k hk => ?_⟩
        · unfold impl_Merged.f
          rw [e1 k (by omega), Option.bind_some, if_pos rfl, e2 k (by omega), Option.bind_some, if_pos rfl, hw, if_pos (by omega)]
theorem put_ok (a : List S31) (d s : Int) (ha : a.length ≤ 1048576) : ∃ m ok, MergedT a [⟨d, s, 0⟩] m ok ∧ ∃ K, ∀ k, K ≤ k → impl_Put.f k a d s = some (m, ok) := by
  obtain ⟨m, ok, h, K, e⟩ := merged_ok a [⟨d, s, 0⟩] ha (by simp)
  refine ⟨m, ok, h, K, fun k hk => ?_⟩
  · unfold impl_Put.f
    rw [e k hk]
    rfl
/-- What a heap without its root is. -/
structure ShiftT (h : List S31) (d s : Int) (m : List S31) (ok : Bool) : Prop where
  yes : ok = true ↔ h ≠ [] ∧ OkT h
  heap : ok = true → ∃ x t n, h = x :: t ∧ d = x.f0 ∧ s = x.f1 ∧ Hp m n ∧ (m.map keyT).Perm (t.map keyT)
  none : ok = false → d = 0 ∧ s = 0 ∧ m = []
theorem ShiftT.len {h m : List S31} {d s : Int} {ok : Bool} (q : ShiftT h d s m ok) : m.length ≤ 64 := by
  cases ok with
  | false => rw [(q.none rfl).2.2]; simp
  | true =>
    have h1 := (q.yes.1 rfl).2.1
    obtain ⟨x, t, n, rfl, _, _, _, hp⟩ := q.heap rfl
    have h2 := hp.length_eq
    simp at h1 h2
    omega
theorem shift_ok (h : List S31) (hl : h.length ≤ 1048576) : ∃ d s m ok, ShiftT h d s m ok ∧ ∃ K, ∀ k, K ≤ k → impl_Shifted.f k h = some (d, s, 0, m, ok) := by
  have no : ¬ (h ≠ [] ∧ OkT h) → ShiftT h 0 0 [] false := fun q => ⟨⟨(fun e => by cases e), fun e => absurd e q⟩, (fun e => by cases e), fun _ => ⟨rfl, rfl, rfl⟩⟩
  cases h with
  | nil =>
    refine ⟨0, 0, [], false, no (fun q => q.1 rfl), 1, fun k hk => ?_⟩
    obtain ⟨k, rfl⟩ : ∃ q, k = q + 1 := ⟨k - 1, by omega⟩
    · unfold impl_Shifted.f
      rw [if_pos (by simp)]
      simp [impl_Shifted.j0]
  | cons x t =>
    rw [List.length_cons] at hl
    obtain ⟨b, K1, e1, h1⟩ := heapOk_ok (x :: t) (by rw [List.length_cons]; omega)
    cases b with
    | false =>
      refine ⟨0, 0, [], false, no (fun q => by have := h1.2 q.2; cases this), K1 + 1, fun k hk => ?_⟩
      obtain ⟨k, rfl⟩ : ∃ q, k = q + 1 := ⟨k - 1, by omega⟩
      · unfold impl_Shifted.f
        rw [if_neg (by simp; omega), e1 _ (by omega), Option.bind_some]
        simp [impl_Shifted.j0]
    | true =>
      obtain ⟨h64, hnd, n, hh⟩ := h1.1 rfl
      obtain ⟨p0, p1, pa, pb, rfl, hpa, hpb, _, _, _⟩ := hh.parts
      obtain ⟨_, _, hdis⟩ := ndT_cut (ndT_cons hnd).1 x.f2.toNat
      obtain ⟨m, q, hm, hp, K2, e2⟩ := merge_ok _ _ _ pa pb (Nat.le_refl _) (by rw [length_take, length_drop]; omega) hpa hpb hdis
      rw [← List.map_append, List.take_append_drop] at hp
      refine ⟨x.f0, x.f1, m, true, ⟨⟨fun _ => ⟨by simp, h64, hnd, _, hh⟩, fun _ => rfl⟩, fun _ => ⟨x, t, q, rfl, rfl, rfl, hm, hp⟩, (fun e => by cases e)⟩, K1 + K2 + 1, fun k hk => ?_⟩
      obtain ⟨k, rfl⟩ : ∃ q, k = q + 1 := ⟨k - 1, by omega⟩
      · unfold impl_Shifted.f
        rw [if_neg (by simp; omega), e1 _ (by omega), Option.bind_some]
        simp only [impl_Shifted.j0]
        rw [if_neg (by simp), parts_ok p0 p1 (by omega), Option.bind_some]
        simp only
        rw [rdT_cons]
        have := e2 k (by omega)
        simp [this]
theorem ltOf_ah (x y : S31) : Go.Proofs.ltOf sortCmp x y = ah x y := by
  rw [sort_lt]
  unfold ah
  rw [Bool.eq_iff_iff]
  simp
theorem sortS_perm (l : List S31) : (slices_Sort.f l).Perm l := by
  have h := (Go.Sort.pdq_sorts (Go.Proofs.ltOf sortCmp) sort_swo l.toArray 0 l.length (Go.Lib.bitLen l.length) true true (Nat.zero_le _) (by simp) (Or.inl rfl)).1
  have h3 := h.2.2
  have hs := h.1
  have e1 : ∀ (a : Array S31) (n : Nat), a.size = n → a.extract 0 n = a := fun a n h => by subst h; simp
  rw [e1 _ _ (by rw [hs]; simp), e1 _ _ (by simp)] at h3
  unfold slices_Sort.f
  simpa using h3
theorem sortS_le (l : List S31) : (slices_Sort.f l).Pairwise (fun a b => leT a b = true) := by
  have h := Go.Sort.pdq_sorts (Go.Proofs.ltOf sortCmp) sort_swo l.toArray 0 l.length (Go.Lib.bitLen l.length) true true (Nat.zero_le _) (by simp) (Or.inl rfl)
  have hs := h.1.1
  have h2 := h.2
  rw [List.pairwise_iff_getElem]
  intro i j hi hj hij
  have hsz : (Go.Sort.pdq (Go.Proofs.ltOf sortCmp) l.toArray 0 l.length (Go.Lib.bitLen l.length) true true).size = l.length := by rw [hs]; simp
  unfold slices_Sort.f at hi hj ⊢
  rw [Array.length_toList] at hi hj
  have h3 := h2 i j (Nat.zero_le _) hij (by omega)
  rw [getElem!_pos _ i hi, getElem!_pos _ j hj, ltOf_ah] at h3
  unfold leT
  rw [Array.getElem_toList, Array.getElem_toList, h3]
  rfl
theorem zero_loop (n : Nat) (hn : n ≤ 4611686018427387900) : ∀ (m k : Nat) (A ys : List S31), ys.length = m → A.length + m = n → m < k → impl_Sorted.l0 k (A ++ ys) (n : Int) (A.length : Int) = some (A ++ ys.map stripT) := by
  intro m
  induction m with
  | zero =>
    intro k A ys hy hA hk
    obtain ⟨k, rfl⟩ : ∃ q, k = q + 1 := ⟨k - 1, by omega⟩
    obtain rfl : ys = [] := List.length_eq_zero_iff.1 hy
    simp only [impl_Sorted.l0]
    rw [if_neg (by omega)]
    simp
  | succ m ih =>
    intro k A ys hy hA hk
    obtain ⟨k, rfl⟩ : ∃ q, k = q + 1 := ⟨k - 1, by omega⟩
    obtain ⟨y, ys, rfl⟩ : ∃ y t, ys = y :: t := by
      cases ys with
      | nil => simp at hy
      | cons y t => exact ⟨y, t, rfl⟩
    have hlt : A.length < (A ++ y :: ys).length := by rw [List.length_append, List.length_cons]; omega
    have hr : rd_T31 (A ++ y :: ys) (A.length : Int) = y := by
      rw [rdT_at hlt]
      simp
    simp only [impl_Sorted.l0]
    rw [if_pos (by omega), if_pos (by omega), if_pos (by omega), wrap_id (by omega) (by omega), hr, Int.toNat_natCast, List.set_append_right _ _ (by omega), Nat.sub_self, set_cons_zero]
    have := ih k (A ++ [stripT y]) ys (by simpa using hy) (by simp; omega) (by omega)
    rw [List.append_assoc, List.append_assoc] at this
    rw [show ((A.length : Int) + 1) = ((A ++ [stripT y]).length : Int) by simp]
    exact this
theorem sortS_strip {l : List S31} (h : ndT l) : (slices_Sort.f l).map stripT = sortT l := by
  have hp := sortS_perm l
  refine sortT_of h ?_ (hp.map stripT)
  refine asc_of ?_ ?_
  · rw [List.pairwise_map]
    refine (sortS_le l).imp ?_
    intro a b hab
    unfold leT at *
    rw [ah_key (a := stripT b) (b := stripT a) (c := b) (d := a) rfl rfl]
    exact hab
  · rw [strip_f1]
    exact (hp.map S31.f1).nodup_iff.2 h
theorem isorted_ok {l : List S31} (h : OkT l) : ∃ K, ∀ k, K ≤ k → impl_Sorted.f k l = some (sortT l) := by
  obtain ⟨b, K, e, hb⟩ := heapOk_ok l (by have := h.1; omega)
  obtain rfl : b = true := hb.2 h
  have hlen : (slices_Sort.f l).length = l.length := (sortS_perm l).length_eq
  have h64 := h.1
  refine ⟨K + l.length + 1, fun k hk => ?_⟩
  unfold impl_Sorted.f
  rw [e k (by omega), Option.bind_some, if_pos rfl, cloneT_ok l (by omega), Option.bind_some]
  have := zero_loop l.length (by omega) l.length k [] (slices_Sort.f l) hlen (by simp) (by omega)
  simp only [List.nil_append, List.length_nil] at this
  rw [sortS_strip h.2.1] at this
  exact this
theorem rdI_at {l : List Int} {j : Nat} (h : j < l.length) : rd l (j : Int) = l[j] := by
  unfold rd
  rw [Int.toNat_natCast, getD_lt _ h]
theorem and24 (n : Int) : 0 ≤ Go.bits .and .u64 n 16777215 ∧ Go.bits .and .u64 n 16777215 ≤ 16777215 := by
  have h24 : (BitVec.ofInt 64 16777215).toNat = 2 ^ 24 - 1 := by decide
  have key : (BitVec.ofInt 64 n &&& BitVec.ofInt 64 16777215).toNat = (BitVec.ofInt 64 n).toNat % 2 ^ 24 := by
    rw [BitVec.toNat_and, h24, Nat.and_two_pow_sub_one_eq_mod]
  have e : Go.bits .and .u64 n 16777215 = IntKind.u64.wrap ((BitVec.ofInt 64 n &&& BitVec.ofInt 64 16777215).toNat : Nat) := rfl
  rw [e, key]
  have hlt : (BitVec.ofInt 64 n).toNat % 2 ^ 24 < 2 ^ 24 := Nat.mod_lt _ (by decide)
  generalize (BitVec.ofInt 64 n).toNat % 2 ^ 24 = q at hlt
  have : IntKind.u64.wrap (q : Int) = (q : Int) := by
    show (q : Int) % 18446744073709551616 = q
    omega
  rw [this]
  omega
/-- A place in the bytes of a throw. -/
def DiceOk (b : List Int) (i : Int) : Prop := 0 ≤ i ∧ i ≤ (b.length : Int)
theorem tmod_ok {x n : Int} (hx : 0 ≤ x) (hn : 0 < n) : 0 ≤ Int.tmod x n ∧ Int.tmod x n < n := by
  rw [Int.tmod_eq_emod_of_nonneg hx]
  exact ⟨Int.emod_nonneg x (by omega), Int.emod_lt_of_pos x hn⟩
theorem dice_ok (b : List Int) (i h n : Int) (hb : b.length ≤ 4096) (hy : ∀ x ∈ b, 0 ≤ x ∧ x ≤ 255) (hc : DiceOk b i) (hn : 0 < n) : ∃ r j g, laws_dice_below.f b i h n = some (r, j, g) ∧ 0 ≤ r ∧ r < n ∧ DiceOk b j := by
  obtain ⟨h0, h1⟩ := hc
  unfold laws_dice_below.f
  generalize IntKind.u64.wrap ((IntKind.u64.wrap (h * 6364136223846793005)) + 1442695040888963407) = g
  obtain ⟨a0, a1⟩ := and24 (g / 8589934592)
  generalize Go.bits .and .u64 (g / 8589934592) 16777215 = q at a0 a1
  have hq : wrap64 q = q := wrap_id (by omega) (by omega)
  by_cases hl : i < (b.length : Int)
  · rw [if_pos hl, if_pos h0, if_neg (by omega)]
    obtain ⟨j, rfl⟩ : ∃ j : Nat, i = (j : Int) := ⟨i.toNat, by omega⟩
    have hj : j < b.length := by omega
    obtain ⟨y0, y1⟩ := hy _ (List.getElem_mem hj)
    rw [rdI_at hj, hq, wrap_id (x := b[j]) (by omega) (by omega), wrap_id (x := q + b[j]) (by omega) (by omega), wrap_id (x := (j : Int) + 1) (by omega) (by omega)]
    obtain ⟨t0, t1⟩ := tmod_ok (x := q + b[j]) (n := n) (by omega) hn
    exact ⟨_, _, _, rfl, t0, t1, by unfold DiceOk; omega⟩
  · rw [if_neg hl, if_neg (by omega), hq]
    obtain ⟨t0, t1⟩ := tmod_ok (x := q) (n := n) (by omega) hn
    exact ⟨_, _, _, rfl, t0, t1, h0, h1⟩
theorem roll_loop (b : List Int) (hb : b.length ≤ 4096) : ∀ (m j : Nat) (g : Int), j + m = b.length → ∃ g', ∀ k, m < k → laws_roll.l0 k b (j : Int) b 0 g = some (b, 0, g') := by
  intro m
  induction m with
  | zero =>
    intro j g hj
    refine ⟨g, fun k hk => ?_⟩
    obtain ⟨k, rfl⟩ : ∃ q, k = q + 1 := ⟨k - 1, by omega⟩
    simp only [laws_roll.l0]
    rw [if_neg (by omega)]
  | succ m ih =>
    intro j g hj
    obtain ⟨g', e⟩ := ih (j + 1) (IntKind.u64.wrap ((IntKind.u64.wrap ((IntKind.u64.wrap (g * 1099511628211)) + (IntKind.u64.wrap (rd b (j : Int))))) + 3)) (by omega)
    refine ⟨g', fun k hk => ?_⟩
    obtain ⟨k, rfl⟩ : ∃ q, k = q + 1 := ⟨k - 1, by omega⟩
    simp only [laws_roll.l0]
    rw [if_pos (by omega), if_pos (by omega), wrap_id (by omega) (by omega)]
    exact e k (by omega)
theorem roll_ok (b : List Int) (s : Int) (hb : b.length ≤ 4096) : ∃ g, ∀ k, b.length < k → laws_roll.f k b s = some (b, 0, g) := by
  unfold laws_roll.f
  exact roll_loop b hb b.length 0 _ (by omega)
theorem seqs_of {h : List S31} {dues os : List Int} (hp : (h.map keyT).Perm (os.map (fun o => (rd dues o, o)))) : (h.map S31.f1).Perm os := by
  have := hp.map Prod.snd
  rw [List.map_map, List.map_map] at this
  have e : os.map (Prod.snd ∘ fun o => (rd dues o, o)) = os := by
    have : (Prod.snd ∘ fun o => (rd dues o, o)) = (id : Int → Int) := rfl
    rw [this, List.map_id]
  rw [e] at this
  exact this
/-- The heap has, for the numbers of 'os', the dues that the list tells. -/
theorem heaped_loop (dues order : List Int) (hd : ∀ o ∈ order, 0 ≤ o ∧ o < (dues.length : Int)) (hn : order.Nodup) (h64 : order.length ≤ 64) :
    ∀ (m j : Nat) (h : List S31), j + m = order.length → OkT h → (h.map keyT).Perm ((order.take j).map (fun o => (rd dues o, o))) →
      ∃ h2, OkT h2 ∧ (h2.map keyT).Perm (order.map (fun o => (rd dues o, o))) ∧ ∃ K, ∀ k, K ≤ k → laws_heaped.l0 k dues order h true (j : Int) = some (h2, true) := by
  intro m
  induction m with
  | zero =>
    intro j h hj hok hp
    rw [List.take_of_length_le (by omega)] at hp
    refine ⟨h, hok, hp, 1, fun k hk => ?_⟩
    obtain ⟨k, rfl⟩ : ∃ q, k = q + 1 := ⟨k - 1, by omega⟩
    simp only [laws_heaped.l0]
    rw [if_neg (by omega)]
  | succ m ih =>
    intro j h hj hok hp
    have hlt : j < order.length := by omega
    obtain ⟨o0, o1⟩ := hd _ (List.getElem_mem hlt)
    have hlen := hp.length_eq
    rw [List.length_map, List.length_map, length_take] at hlen
    obtain ⟨m2, ok, hM, K1, e1⟩ := put_ok h (rd dues order[j]) order[j] (by omega)
    have hseq := seqs_of (h := h) hp
    have hnot : ¬ order[j] ∈ order.take j := by
      intro hm
      obtain ⟨p, hp1, hp2⟩ := List.getElem_of_mem hm
      rw [length_take] at hp1
      rw [List.getElem_take] at hp2
      have := (List.pairwise_iff_getElem.1 hn) p j (by omega) hlt (by omega)
      exact this hp2
    have hone : OkT [⟨rd dues order[j], order[j], 0⟩] := ⟨by simp, by simp [ndT], 1, Hp.one _ rfl⟩
    have hdis : disT h [⟨rd dues order[j], order[j], 0⟩] := by
      intro x hx y hy e
      obtain rfl := List.mem_singleton.1 hy
      have h1 : x.f1 ∈ h.map S31.f1 := List.mem_map_of_mem hx
      have h2 := hseq.mem_iff.1 h1
      rw [e] at h2
      exact hnot h2
    obtain rfl : ok = true := hM.yes.2 ⟨hok, hone, by simp; omega, hdis⟩
    obtain ⟨n2, hh2⟩ := hM.heap rfl
    have hk2 := hM.keys rfl
    have hp2 : (m2.map keyT).Perm ((order.take (j + 1)).map (fun o => (rd dues o, o))) := by
      refine hk2.trans ?_
      rw [List.take_succ_eq_append_getElem hlt, List.map_append]
      exact List.Perm.append_right _ hp
    have hok2 : OkT m2 := by
      refine ⟨?_, ?_, n2, hh2⟩
      · have := hp2.length_eq
        rw [List.length_map, List.length_map, length_take] at this
        omega
      · have h1 := seqs_of (h := m2) hp2
        exact h1.nodup_iff.2 (hn.sublist (List.take_sublist _ _))
    obtain ⟨h3, q1, q2, K2, e2⟩ := ih (j + 1) m2 (by omega) hok2 hp2
    refine ⟨h3, q1, q2, K1 + K2 + 1, fun k hk => ?_⟩
    obtain ⟨k, rfl⟩ : ∃ q, k = q + 1 := ⟨k - 1, by omega⟩
    simp only [laws_heaped.l0]
    rw [if_pos (by omega), if_pos (by omega), rdI_at hlt, if_pos o0, if_pos o1, e1 k (by omega), Option.bind_some, wrap_id (by omega) (by omega)]
    rw [if_pos trivial]
    exact e2 k (by omega)
/-- What is left after the first round of taking out. -/
theorem down_loop (dues : List Int) (S : List S31) (n : Nat) (hS : S.length = n) (h64 : n ≤ 64) (hA : Asc S) (hz : ∀ x ∈ S, x.f2 = 0 ∧ 0 ≤ x.f1 ∧ x.f1 < (dues.length : Int) ∧ rd dues x.f1 = x.f0) :
    ∀ (m i : Nat) (h : List S31), i + m = n → OkT h → sortT h = S.drop i → ∃ K, ∀ k, K ≤ k → laws_FnAnyOrder.l2 k (n : Int) dues h S (i : Int) = some true := by
  intro m
  induction m with
  | zero =>
    intro i h hi hok hs
    rw [List.drop_eq_nil_of_le (by omega)] at hs
    have h0 := sortT_length h
    rw [hs] at h0
    obtain rfl : h = [] := List.length_eq_zero_iff.1 h0.symm
    obtain ⟨d, s, m2, ok, hM, K, e⟩ := shift_ok [] (by simp)
    obtain rfl : ok = false := by
      cases ok with
      | false => rfl
      | true => exact absurd rfl (hM.yes.1 rfl).1
    refine ⟨K + 1, fun k hk => ?_⟩
    obtain ⟨k, rfl⟩ : ∃ q, k = q + 1 := ⟨k - 1, by omega⟩
    simp only [laws_FnAnyOrder.l2]
    rw [if_neg (by omega), e k (by omega), Option.bind_some]
    rfl
  | succ m ih =>
    intro i h hi hok hs
    have hlt : i < S.length := by omega
    have h0 := sortT_length h
    rw [hs, length_drop] at h0
    obtain ⟨d, s, m2, ok, hM, K1, e1⟩ := shift_ok h (by have := hok.1; omega)
    have hne : h ≠ [] := by
      intro e
      rw [e] at h0
      simp at h0
      omega
    obtain rfl : ok = true := hM.yes.2 ⟨hne, hok⟩
    obtain ⟨x, t, q, rfl, rfl, rfl, hm2, hp2⟩ := hM.heap rfl
    obtain ⟨g64, gnd, n0, gh⟩ := hok
    have hleast := gh.least
    have hsort : sortT (x :: t) = stripT x :: sortT m2 := by
      refine (sortT_of gnd ?_ ?_).symm
      · refine List.pairwise_cons.2 ⟨?_, sortT_asc ?_⟩
        · intro y hy
          have h1 := (sortT_perm m2).mem_iff.1 hy
          obtain ⟨z, hz1, rfl⟩ := List.mem_map.1 h1
          have h2 := ah_perm hp2 hleast z hz1
          rw [ah_key (a := stripT x) (b := stripT z) (c := x) (d := z) rfl rfl]
          exact h2
        · exact nodup_key hp2 (ndT_cons gnd).1
      · exact List.Perm.cons _ ((sortT_perm m2).trans (strip_key m2 t hp2))
    rw [hsort, List.drop_eq_getElem_cons hlt] at hs
    obtain ⟨hx, hrest⟩ := List.cons.inj hs
    have hok2 : OkT m2 := by
      refine ⟨?_, nodup_key hp2 (ndT_cons gnd).1, q, hm2⟩
      have := hp2.length_eq
      rw [List.length_map, List.length_map] at this
      simp at g64
      omega
    obtain ⟨K2, e2⟩ := ih (i + 1) m2 (by omega) hok2 hrest
    have hr := rdT_at hlt
    have c1 : (i : Int) < (n : Int) := by omega
    have c2 : (0 : Int) ≤ (i : Int) := Int.natCast_nonneg i
    have c3 : (i : Int) < (S.length : Int) := Int.ofNat_lt.2 hlt
    have hw : wrap64 ((i : Int) + 1) = ((i + 1 : Nat) : Int) := by rw [wrap_id (by omega) (by omega)]; omega
    have cj : ∀ j, i = j + 1 → wrap64 ((i : Int) - 1) = (j : Int) ∧ (0 : Int) ≤ (j : Int) ∧ (j : Int) < (S.length : Int) ∧ j < S.length := by
      intro j e
      rw [wrap_id (by omega) (by omega)]
      omega
    have ca : ∀ (j : Nat) (e : i = j + 1) (hj : j < S.length), ah S[j] S[i] = true := by
      intro j e hj
      exact List.pairwise_iff_getElem.1 hA j i hj hlt (by omega)
    have ci : (i : Int) > 0 → ∃ j, i = j + 1 := fun h => ⟨i - 1, by omega⟩
    have f0 : x.f0 = S[i].f0 := by rw [← hx]; rfl
    have f1 : x.f1 = S[i].f1 := by rw [← hx]; rfl
    refine ⟨K1 + K2 + 1, fun k hk => ?_⟩
    obtain ⟨k, rfl⟩ : ∃ q, k = q + 1 := ⟨k - 1, by omega⟩
    have e3 := e2 k (by omega)
    have e1' := e1 k (by omega)
    obtain ⟨z0, z1, z2, z3⟩ := hz _ (List.getElem_mem hlt)
    simp only [laws_FnAnyOrder.l2]
    rw [if_pos c1, e1', Option.bind_some]
    simp only [if_true]
    rw [if_pos c2, if_pos c3, hr, f0, f1, z0, if_neg (by simp), if_pos z1, if_pos z2, if_pos z3, hw]
    by_cases hi0 : (i : Int) > 0
    · obtain ⟨j, hj⟩ := ci hi0
      obtain ⟨w1, w2, w3, w4⟩ := cj j hj
      have hah := ah_iff.1 (ca j hj w4)
      have hr2 : rd_T31 S (j : Int) = S[j] := rdT_at w4
      rw [if_pos hi0, w1, if_pos w2, if_pos w3, hr2]
      rcases hah with q | ⟨q, q'⟩
      · rw [if_neg (Int.not_lt.2 (Int.le_of_lt q)), if_neg (fun e => by rw [e] at q; exact Int.lt_irrefl _ q)]
        exact e3
      · rw [if_neg (by rw [q]; exact Int.lt_irrefl _), if_pos q.symm, if_neg (Int.not_le.2 q')]
        exact e3
    · rw [if_neg hi0]
      exact e3
/-- The numbers below n. -/
def upto (n : Nat) : List Int := (List.range n).map Int.ofNat
theorem upto_length (n : Nat) : (upto n).length = n := by simp [upto]
theorem upto_mem {n : Nat} {o : Int} : o ∈ upto n ↔ 0 ≤ o ∧ o < (n : Int) := by
  unfold upto
  rw [List.mem_map]
  constructor
  · rintro ⟨a, ha, rfl⟩
    rw [List.mem_range] at ha
    exact ⟨Int.natCast_nonneg a, Int.ofNat_lt.2 ha⟩
  · rintro ⟨h0, h1⟩
    exact ⟨o.toNat, List.mem_range.2 (by omega), Int.toNat_of_nonneg h0⟩
theorem upto_nodup (n : Nat) : (upto n).Nodup := by
  unfold upto
  rw [List.Nodup, List.pairwise_map]
  exact (List.nodup_range (n := n)).imp (fun h e => h (Int.ofNat.inj e))
theorem upto_snoc (n : Nat) : upto n ++ [(n : Int)] = upto (n + 1) := by
  unfold upto
  rw [List.range_succ, List.map_append]
  rfl
theorem swap_perm (l : List Int) (i j : Nat) (hi : i < l.length) (hj : j < l.length) : ((l.set i l[j]).set j l[i]).Perm l := List.set_set_perm hi hj
theorem order_tail (dues order : List Int) (n : Nat) (hn : n ≤ 19) (hd : dues.length = n) (hp : order.Perm (upto n)) (i : Int) (hi : i ≤ 0) (b : List Int) (s1 s2 : Int) :
    ∃ K, ∀ k, K ≤ k → laws_FnAnyOrder.l1 k (n : Int) dues order i b s1 s2 = some true := by
  have hol : order.length = n := by rw [hp.length_eq, upto_length]
  obtain ⟨h2, hok, hk2, K1, e1⟩ := heaped_loop dues order (fun o ho => by rw [hd]; exact upto_mem.1 (hp.mem_iff.1 ho)) (hp.nodup_iff.2 (upto_nodup n)) (by omega) order.length 0 [] (by omega) ⟨by simp, by simp [ndT], 0, Hp.nil⟩ (by simp)
  have hlen : h2.length = n := by
    have := hk2.length_eq
    rw [List.length_map, List.length_map] at this
    omega
  obtain ⟨b2, K2, e2, hb2⟩ := heapOk_ok h2 (by omega)
  obtain rfl : b2 = true := hb2.2 hok
  obtain ⟨K3, e3⟩ := isorted_ok hok
  have hz : ∀ x ∈ sortT h2, x.f2 = 0 ∧ 0 ≤ x.f1 ∧ x.f1 < (dues.length : Int) ∧ rd dues x.f1 = x.f0 := by
    intro x hx
    obtain ⟨z, hz, rfl⟩ := List.mem_map.1 ((sortT_perm h2).mem_iff.1 hx)
    obtain ⟨o, ho, e⟩ := List.mem_map.1 (hk2.mem_iff.1 (List.mem_map_of_mem (f := keyT) hz))
    have h0 : rd dues o = z.f0 := congrArg Prod.fst e
    have h1 : o = z.f1 := congrArg Prod.snd e
    subst h1
    have := upto_mem.1 (hp.mem_iff.1 ho)
    exact ⟨rfl, this.1, by rw [hd]; exact this.2, h0⟩
  obtain ⟨K4, e4⟩ := down_loop dues (sortT h2) n (by rw [sortT_length, hlen]) (by omega) (sortT_asc hok.2.1) hz n 0 h2 (by omega) hok rfl
  refine ⟨K1 + K2 + K3 + K4 + 2, fun k hk => ?_⟩
  obtain ⟨k, rfl⟩ : ∃ q, k = q + 2 := ⟨k - 2, by omega⟩
  have e1' : laws_heaped.f (k + 1) dues order = some (h2, true) := e1 (k + 1) (by omega)
  have hne : ((h2.length : Int) != (n : Int)) = false := by
    rw [hlen]
    simp
  have hsl : ((sortT h2).length : Int) = (n : Int) := by rw [sortT_length, hlen]
  have e4' := e4 k (by omega)
  rw [show ((0 : Nat) : Int) = 0 from rfl] at e4'
  rw [laws_FnAnyOrder.l1, if_neg (by omega), e1', Option.bind_some]
  simp only [if_true]
  rw [e2 (k + 1) (by omega), Option.bind_some, if_pos rfl, hne, laws_FnAnyOrder.j2, if_neg (by simp), e3 k (by omega), Option.bind_some, if_pos hsl]
  exact e4'
theorem order_swap (dues b : List Int) (n : Nat) (hn : n ≤ 19) (hd : dues.length = n) (hb : b.length ≤ 4096) (hy : ∀ x ∈ b, 0 ≤ x ∧ x ≤ 255) :
    ∀ (m : Nat) (order : List Int) (s1 s2 : Int), m ≤ n → order.Perm (upto n) → DiceOk b s1 → ∃ K, ∀ k, K ≤ k → laws_FnAnyOrder.l1 k (n : Int) dues order ((m : Int) - 1) b s1 s2 = some true := by
  intro m
  induction m with
  | zero =>
    intro order s1 s2 hm hp hs
    exact order_tail dues order n hn hd hp _ (by omega) b s1 s2
  | succ m ih =>
    intro order s1 s2 hm hp hs
    by_cases h0 : m = 0
    · exact order_tail dues order n hn hd hp _ (by omega) b s1 s2
    · have hol : order.length = n := by rw [hp.length_eq, upto_length]
      obtain ⟨r, j, g, e, r0, r1, hj⟩ := dice_ok b s1 s2 ((m : Int) + 1) hb hy hs (by omega)
      obtain ⟨q, rfl⟩ : ∃ q : Nat, r = (q : Int) := ⟨r.toNat, by omega⟩
      have hmo : m < order.length := by omega
      have hqo : q < order.length := by omega
      obtain ⟨K, e2⟩ := ih ((order.set m order[q]).set q order[m]) j g (by omega) ((swap_perm order m q hmo hqo).trans hp) hj
      refine ⟨K + 1, fun k hk => ?_⟩
      obtain ⟨k, rfl⟩ : ∃ q, k = q + 1 := ⟨k - 1, by omega⟩
      have e3 := e2 k (by omega)
      have hw : wrap64 ((m : Int) + 1) = (m : Int) + 1 := wrap_id (by omega) (by omega)
      have hw2 : wrap64 ((m : Int) - 1) = (m : Int) - 1 := wrap_id (by omega) (by omega)
      have hc : (((m + 1 : Nat) : Int) - 1) = (m : Int) := by omega
      rw [hc, laws_FnAnyOrder.l1, if_pos (by omega), hw, e, Option.bind_some]
      simp only
      rw [if_pos (by omega), if_pos (by omega), if_pos (by omega), if_pos (by omega), Int.toNat_natCast, Int.toNat_natCast, rdI_at hqo, rdI_at hmo, hw2]
      exact e3
theorem order_fill (b : List Int) (n : Nat) (hn : n ≤ 19) (hb : b.length ≤ 4096) (hy : ∀ x ∈ b, 0 ≤ x ∧ x ≤ 255) :
    ∀ (m j : Nat) (dues : List Int) (s1 s2 : Int), j + m = n → dues.length = j → DiceOk b s1 → ∃ K, ∀ k, K ≤ k → laws_FnAnyOrder.l0 k (n : Int) dues (upto j) (j : Int) b s1 s2 = some true := by
  intro m
  induction m with
  | zero =>
    intro j dues s1 s2 hj hd hs
    obtain rfl : j = n := by omega
    obtain ⟨K, e⟩ := order_swap dues b j hn hd hb hy j (upto j) s1 s2 (Nat.le_refl _) (List.Perm.refl _) hs
    refine ⟨K + 1, fun k hk => ?_⟩
    obtain ⟨k, rfl⟩ : ∃ q, k = q + 1 := ⟨k - 1, by omega⟩
    rw [laws_FnAnyOrder.l0, if_neg (by omega), wrap_id (by omega) (by omega)]
    exact e k (by omega)
  | succ m ih =>
    intro j dues s1 s2 hj hd hs
    obtain ⟨r, i, g, e, r0, r1, hi⟩ := dice_ok b s1 s2 9 hb hy hs (by omega)
    obtain ⟨K, e2⟩ := ih (j + 1) (dues ++ [r]) i g (by omega) (by simp [hd]) hi
    refine ⟨K + 1, fun k hk => ?_⟩
    obtain ⟨k, rfl⟩ : ∃ q, k = q + 1 := ⟨k - 1, by omega⟩
    have e3 := e2 k (by omega)
    rw [← upto_snoc] at e3
    rw [laws_FnAnyOrder.l0, if_pos (by omega), e, Option.bind_some]
    rw [if_pos (by omega), if_pos (by rw [upto_length]; omega), wrap_id (by omega) (by omega)]
    exact e3
theorem FnAnyOrder : ∀ (l0 : List Int), l0.length ≤ 9223372036854775807 → (∀ x_ ∈ l0, wfu8 x_) → ∃ k, laws_FnAnyOrder.f k l0 = some true := by
  intro l0 _ hw
  by_cases hbig : (l0.length : Int) > 4096
  · refine ⟨0, ?_⟩
    unfold laws_FnAnyOrder.f laws_big.f
    simp [hbig]
  · have hb : l0.length ≤ 4096 := by omega
    have hy : ∀ x ∈ l0, 0 ≤ x ∧ x ≤ 255 := by
      intro x hx
      have h : (decide ((0 : Int) ≤ x) && decide (x ≤ 255)) = true := hw x hx
      rw [Bool.and_eq_true, decide_eq_true_iff, decide_eq_true_iff] at h
      exact h
    obtain ⟨g, e1⟩ := roll_ok l0 3 hb
    obtain ⟨r, j, g2, e2, r0, r1, hj⟩ := dice_ok l0 0 g 20 hb hy ⟨by omega, by omega⟩ (by omega)
    obtain ⟨n, rfl⟩ : ∃ n : Nat, r = (n : Int) := ⟨r.toNat, by omega⟩
    obtain ⟨K, e3⟩ := order_fill l0 n (by omega) hb hy n 0 [] j g2 (by omega) rfl hj
    refine ⟨l0.length + 1 + K, ?_⟩
    unfold laws_FnAnyOrder.f laws_big.f
    rw [Option.bind_some, decide_eq_false hbig, if_neg (by simp), e1 _ (by omega), Option.bind_some]
    simp only
    rw [e2, Option.bind_some]
    exact e3 _ (by omega)
end Go.Proofs.Ytljfflhbabkbgaa.Pure
