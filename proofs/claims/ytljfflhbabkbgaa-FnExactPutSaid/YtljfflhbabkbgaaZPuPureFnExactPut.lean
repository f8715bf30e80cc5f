/- Texts of the claim of the law FnExactPut, made smaller by a program of this session: what the claim does not use is left out. No condition. -/
import Derived.Test.YtljfflhbabkbgaaZPuOpen
import Derived.Test.YtljfflhbabkbgaaZPuPLib
import Derived.Test.YtljfflhbabkbgaaZPuPFnExactPutx11
namespace Go.Proofs.Ytljfflhbabkbgaa.Pure
open Go.RowKit Go.Proofs.YtljfflhbabkbgaaOpen Go.Proofs.YtljfflhbabkbgaaPLib Go.Proofs.Ytljfflhbabkbgaa.PFnExactPut Go.Proofs.YtljfflhbabkbgaaW.PrintWords Go.Proofs.YtljfflhbabkbgaaW.PrintLast
open List (map_cons map_nil length_drop length_take)
set_option linter.unusedVariables false
set_option linter.unusedSimpArgs false
/-- Ahead of: by the time, then by the number. -/
def ah (a b : S31) : Bool := decide (a.f0 < b.f0) || (decide (a.f0 = b.f0) && decide (a.f1 < b.f1))
theorem ah_iff {a b : S31} : ah a b = true ↔ a.f0 < b.f0 ∨ (a.f0 = b.f0 ∧ a.f1 < b.f1) := by simp [ah]
theorem ah_trans {a b c : S31} (h : ah a b = true) (k : ah b c = true) : ah a c = true := by
  rw [ah_iff] at *
  omega
theorem ah_asymm {a b : S31} (h : ah a b = true) : ah b a = false := by
  rw [← Bool.not_eq_true]
  rw [ah_iff] at *
  omega
theorem ah_total {a b : S31} (h : a.f1 ≠ b.f1) : ah a b = true ∨ ah b a = true := by
  rw [ah_iff, ah_iff]
  omega
/-- What counts of an element. -/
def keyT (x : S31) : Int × Int := (x.f0, x.f1)
theorem ah_key {a b c d : S31} (h : keyT a = keyT c) (k : keyT b = keyT d) : ah a b = ah c d := by
  unfold keyT at h k
  injection h with h1 h2
  injection k with k1 k2
  unfold ah
  rw [h1, h2, k1, k2]
/-- A root is ahead of the first of a list, where it has one. -/
def ahd (x : S31) (l : List S31) : Prop := ∀ y t, l = y :: t → ah x y = true
/-- A leftist heap and its rank. -/
inductive Hp : List S31 → Nat → Prop
  | nil : Hp [] 0
  | node {x : S31} {l r : List S31} {a b : Nat} : Hp l a → Hp r b → b ≤ a → x.f2 = (l.length : Int) → ahd x l → ahd x r → Hp (x :: (l ++ r)) (b + 1)
theorem Hp.cons {x : S31} {t : List S31} {n : Nat} (h : Hp (x :: t) n) : ∃ l r a b, t = l ++ r ∧ n = b + 1 ∧ Hp l a ∧ Hp r b ∧ b ≤ a ∧ x.f2 = (l.length : Int) ∧ ahd x l ∧ ahd x r := by
  generalize e : x :: t = h0 at h
  cases h with
  | nil => cases e
  | node h1 h2 h3 h4 h5 h6 =>
    injection e with e1 e2
    subst e1
    exact ⟨_, _, _, _, e2, rfl, h1, h2, h3, h4, h5, h6⟩
theorem Hp.one (x : S31) (h : x.f2 = 0) : Hp [x] 1 := Hp.node (l := []) (r := []) Hp.nil Hp.nil (Nat.le_refl 0) h (fun _ _ e => by cases e) (fun _ _ e => by cases e)
theorem Hp.rank_nil {n : Nat} (h : Hp [] n) : n = 0 := by cases h; rfl
/-- The left and the right heap. -/
theorem Hp.parts {x : S31} {t : List S31} {n : Nat} (h : Hp (x :: t) n) : 0 ≤ x.f2 ∧ x.f2 ≤ (t.length : Int) ∧ ∃ a b, n = b + 1 ∧ Hp (t.take x.f2.toNat) a ∧ Hp (t.drop x.f2.toNat) b ∧ b ≤ a ∧ ahd x (t.take x.f2.toNat) ∧ ahd x (t.drop x.f2.toNat) := by
  obtain ⟨l, r, a, b, rfl, rfl, h1, h2, h3, h4, h5, h6⟩ := h.cons
  have e : x.f2.toNat = l.length := by omega
  refine ⟨by omega, by rw [h4, List.length_append]; omega, a, b, rfl, ?_, ?_, h3, ?_, ?_⟩ <;> rw [e] <;> simp [h1, h2, h5, h6]
theorem Hp.uniq : ∀ {h : List S31} {n m : Nat}, Hp h n → Hp h m → n = m := by
  intro h
  generalize hN : h.length = N
  induction N using Nat.strongRecOn generalizing h with
  | _ N ih =>
    intro n m h1 h2
    cases h with
    | nil => rw [h1.rank_nil, h2.rank_nil]
    | cons x t =>
      obtain ⟨_, _, a, b, rfl, _, hb, _⟩ := h1.parts
      obtain ⟨_, _, a', b', rfl, _, hb', _⟩ := h2.parts
      have := ih (t.drop x.f2.toNat).length (by rw [length_drop]; simp at hN; omega) rfl hb hb'
      omega
/-- The root is ahead of all. -/
theorem Hp.least : ∀ {x : S31} {t : List S31} {n : Nat}, Hp (x :: t) n → ∀ y ∈ t, ah x y = true := by
  intro x t
  generalize hN : t.length = N
  induction N using Nat.strongRecOn generalizing x t with
  | _ N ih =>
    intro n h y hy
    obtain ⟨l, r, a, b, rfl, rfl, h1, h2, h3, h4, h5, h6⟩ := h.cons
    have side : ∀ (s : List S31) (c : Nat), s.length ≤ N → Hp s c → ahd x s → y ∈ s → ah x y = true := by
      intro s c hs hH hx hy
      cases s with
      | nil => cases hy
      | cons z s =>
        have e := hx z s rfl
        rcases List.mem_cons.1 hy with rfl | hy
        · exact e
        · exact ah_trans e (ih s.length (by simp at hs; omega) rfl hH y hy)
    rw [List.length_append] at hN
    rcases List.mem_append.1 hy with hy | hy
    · exact side l a (by omega) h1 h5 hy
    · exact side r b (by omega) h2 h6 hy
theorem pow_step (b : Nat) : 2 ^ (b + 1) = 2 * 2 ^ b := by rw [Nat.pow_succ, Nat.mul_comm]
/-- A heap of rank n has at least 2^n - 1 elements. -/
theorem Hp.big : ∀ {h : List S31} {n : Nat}, Hp h n → 2 ^ n ≤ h.length + 1 := by
  intro h n hh
  induction hh with
  | nil => exact Nat.le_refl _
  | @node x l r a b h1 h2 h3 h4 h5 h6 i1 i2 =>
    have : 2 ^ b ≤ 2 ^ a := Nat.pow_le_pow_right (by omega) h3
    rw [pow_step, List.length_cons, List.length_append]
    omega
theorem Hp.rank_le {h : List S31} {n : Nat} (hh : Hp h n) : n ≤ h.length := by
  have h1 := hh.big
  have h2 : n < 2 ^ n := Nat.lt_two_pow_self
  omega
/-- A root over two heaps, the one of the greater rank left. -/
def joinT (x : S31) (l m : List S31) (p q : Nat) : List S31 := if p < q then ⟨x.f0, x.f1, (m.length : Int)⟩ :: (m ++ l) else ⟨x.f0, x.f1, (l.length : Int)⟩ :: (l ++ m)
theorem joinT_hp {x : S31} {l m : List S31} {p q : Nat} (h1 : Hp l p) (h2 : Hp m q) (h3 : ∀ y ∈ l, ah x y = true) (h4 : ∀ y ∈ m, ah x y = true) : ∃ n, Hp (joinT x l m p q) n := by
  have f : ∀ (s : List S31), (∀ y ∈ s, ah x y = true) → ∀ c, ahd ⟨x.f0, x.f1, c⟩ s := by
    rintro s hs c y t rfl
    exact (ah_key (a := ⟨x.f0, x.f1, c⟩) (b := y) (c := x) (d := y) rfl rfl).trans (hs y (by simp))
  unfold joinT
  split
  · exact ⟨_, Hp.node h2 h1 (by omega) rfl (f m h4 _) (f l h3 _)⟩
  · exact ⟨_, Hp.node h1 h2 (by omega) rfl (f l h3 _) (f m h4 _)⟩
theorem joinT_perm (x : S31) (l m : List S31) (p q : Nat) : ((joinT x l m p q).map keyT).Perm (keyT x :: (l.map keyT ++ m.map keyT)) := by
  unfold joinT
  split
  · rw [map_cons, List.map_append]
    exact List.Perm.cons _ List.perm_append_comm
  · rw [map_cons, List.map_append]
    exact List.Perm.refl _
/-- What is ahead of all keys of a list is ahead of a list of the same keys. -/
theorem ah_perm {x : S31} {l m : List S31} (h : (m.map keyT).Perm (l.map keyT)) (k : ∀ y ∈ l, ah x y = true) : ∀ y ∈ m, ah x y = true := by
  intro y hy
  have : keyT y ∈ l.map keyT := h.subset (List.mem_map_of_mem hy)
  obtain ⟨z, hz, e⟩ := List.mem_map.1 this
  exact (ah_key (a := x) (b := y) (c := x) (d := z) rfl e.symm).trans (k z hz)
theorem perm_length {l m : List S31} (h : (m.map keyT).Perm (l.map keyT)) : m.length = l.length := by
  have := h.length_eq
  simpa using this
theorem rdT_cons (x : S31) (t : List S31) : rd_T31 (x :: t) 0 = x := rfl
theorem rdT_at {l : List S31} {j : Nat} (h : j < l.length) : rd_T31 l (j : Int) = l[j] := by
  unfold rd_T31
  rw [Int.toNat_natCast, getD_lt _ h]
theorem l1In_ok (a lo hi : Int) : spec_l1In.f a lo hi = some (decide (lo ≤ a) && decide (a ≤ hi)) := by
  unfold spec_l1In.f
  by_cases h : lo ≤ a <;> simp [h]
theorem within_ok (a lo hi : Int) : impl_within.f a lo hi = some (decide (lo ≤ a) && decide (a ≤ hi)) := by
  unfold impl_within.f
  by_cases h : lo ≤ a <;> simp [h]
theorem cut_head (x : S31) (t : List S31) (h0 : 0 ≤ x.f2) (h2 : x.f2 ≤ 4611686018427387904) : (wrap64 (1 + x.f2)).toNat = x.f2.toNat + 1 ∧ wrap64 (1 + x.f2) = 1 + x.f2 := by
  rw [wrap_id (by omega) (by omega)]
  omega
theorem parts_ok {x : S31} {t : List S31} (h0 : 0 ≤ x.f2) (h1 : x.f2 ≤ (t.length : Int)) (hn : t.length ≤ 4611686018427387904) : impl_parts.f (x :: t) = some (t.take x.f2.toNat, t.drop x.f2.toNat) := by
  obtain ⟨e1, e2⟩ := cut_head x t h0 (by omega)
  unfold impl_parts.f
  rw [rdT_cons, e1, e2, if_pos (by simp), if_pos (by omega), if_pos (by simp; omega), if_pos (by omega)]
  rfl
theorem sparts_ok {x : S31} {t : List S31} (h0 : 0 ≤ x.f2) (h1 : x.f2 ≤ (t.length : Int)) (hn : t.length ≤ 4611686018427387904) : spec_l3Parts.f (x :: t) = some (t.take x.f2.toNat, t.drop x.f2.toNat, true) := by
  obtain ⟨e1, e2⟩ := cut_head x t h0 (by omega)
  unfold spec_l3Parts.f
  rw [rdT_cons, e1, e2, if_pos (by simp), l1In_ok, Option.bind_some, if_pos (by
    rw [List.length_cons, wrap_id (by omega) (by omega)]
    simp
    omega), if_pos (by omega), if_pos (by simp; omega), if_pos (by omega)]
  rfl
theorem sparts_no {x : S31} {t : List S31} (h : ¬ (0 ≤ x.f2 ∧ x.f2 ≤ (t.length : Int))) (hn : t.length ≤ 4611686018427387904) : spec_l3Parts.f (x :: t) = some ([], [], false) := by
  unfold spec_l3Parts.f
  rw [rdT_cons, if_pos (by simp), l1In_ok, Option.bind_some, if_neg (by
    rw [List.length_cons, wrap_id (by omega) (by omega)]
    simp
    omega)]
theorem sahead_ok (a b : S31) : spec_l3Ahead.f a.f0 a.f1 a.f2 b.f0 b.f1 b.f2 = some (ah a b) := by
  unfold spec_l3Ahead.f ah
  by_cases h : a.f0 < b.f0
  · simp [h]
  · by_cases e : a.f0 = b.f0 <;> simp [h, e]
/-- What the comparison of two elements tells. -/
def cmpT (a b : S31) : Int := if a.f0 < b.f0 then -1 else if b.f0 < a.f0 then 1 else if a.f1 < b.f1 then -1 else if b.f1 < a.f1 then 1 else 0
theorem cmpT_neg (a b : S31) : decide (cmpT a b < 0) = ah a b := by
  rw [Bool.eq_iff_iff, ah_iff, decide_eq_true_iff]
  unfold cmpT
  split
  · simp; omega
  · split
    · simp; omega
    · split
      · simp; omega
      · split <;> simp <;> omega
theorem compare1_ok (a b : Int) : cmp_Compare_int64.f a b = some (if a < b then -1 else if b < a then 1 else 0) := by
  unfold cmp_Compare_int64.f cmp_isNaN_int64.f
  simp only [bne_self_eq_false, Option.bind_some]
  rw [if_neg (by simp), if_neg (by simp)]
  by_cases h : a < b
  · rw [if_pos h, if_pos h]
  · rw [if_neg h, if_neg h]
    by_cases h2 : b < a
    · rw [if_pos (by omega), if_pos h2]
    · rw [if_neg (by omega), if_neg h2]
theorem or_ok (p q : Int) (k : Nat) : cmp_Or_int.f (k + 3) [p, q] = some (if p = 0 then q else p) := by
  unfold cmp_Or_int.f
  have w1 : wrap64 (0 + 1) = 1 := by unfold wrap64; omega
  have w2 : wrap64 (1 + 1) = 2 := by unfold wrap64; omega
  have r0 : rd [p, q] 0 = p := rfl
  have r1 : rd [p, q] 1 = q := rfl
  simp only [cmp_Or_int.l0]
  rw [r0, w1, w2, r1]
  by_cases hp : p = 0
  · by_cases hq : q = 0
    · simp [hp, hq]
    · simp [hp, hq]
  · simp [hp]
theorem compare_ok (a b : S31) (k : Nat) (hk : 3 ≤ k) : impl_Twig_compare.f k a.f0 a.f1 a.f2 b.f0 b.f1 b.f2 = some (cmpT a b) := by
  obtain ⟨k, rfl⟩ : ∃ m, k = m + 3 := ⟨k - 3, by omega⟩
  unfold impl_Twig_compare.f
  rw [compare1_ok, compare1_ok, Option.bind_some, Option.bind_some, or_ok, Option.bind_some]
  unfold cmpT
  congr 1
  by_cases h : a.f0 < b.f0
  · simp [h]
  · by_cases h2 : b.f0 < a.f0 <;> simp [h, h2]
theorem size_ok (l : List S31) : impl_Twig_85.f l = some (l.length : Int) := rfl
/-- The head of a list, where there is one, is behind the root. -/
def okh (x : S31) : List S31 → Bool
  | [] => true
  | y :: _ => ah x y
theorem okh_iff {x : S31} {l : List S31} : okh x l = true ↔ ahd x l := by
  cases l with
  | nil => simp [okh, ahd]
  | cons y t =>
    unfold okh ahd
    constructor
    · intro h z s e
      injection e with e1 _
      subst e1
      exact h
    · intro h
      exact h y t rfl
theorem srank_cons (k : Nat) (x : S31) (t : List S31) (h0 : 0 ≤ x.f2) (h1 : x.f2 ≤ (t.length : Int)) (hn : t.length ≤ 4611686018427387904) :
    spec_l3Rank.f (k + 1) (x :: t) = spec_l3Rank.j0 k (t.take x.f2.toNat) (t.drop x.f2.toNat) (!(okh x (t.take x.f2.toNat) && okh x (t.drop x.f2.toNat))) := by
  simp only [spec_l3Rank.f]
  rw [sparts_ok h0 h1 hn, Option.bind_some, if_neg (by simp; omega)]
  generalize t.take x.f2.toNat = l
  generalize t.drop x.f2.toNat = r
  rw [rdT_cons, if_pos rfl]
  cases l with
  | nil =>
    cases r with
    | nil => simp [okh]
    | cons z r =>
      simp [okh, rdT_cons, sahead_ok]
  | cons y l =>
    rw [rdT_cons, sahead_ok]
    cases r with
    | nil => cases e : ah x y <;> simp [okh, e]
    | cons z r =>
      rw [rdT_cons, sahead_ok]
      cases e : ah x y <;> simp [okh, e]
theorem srank_ok : ∀ (N : Nat) (h : List S31), h.length ≤ N → N ≤ 4611686018427387904 → ∃ r K, (∀ k, K ≤ k → spec_l3Rank.f k h = some r) ∧ ((r = -1 ∧ ∀ n, ¬ Hp h n) ∨ ∃ n : Nat, r = (n : Int) ∧ Hp h n) := by
  intro N
  induction N with
  | zero =>
    intro h hl hN
    obtain rfl : h = [] := List.length_eq_zero_iff.1 (by omega)
    refine ⟨0, 1, fun k hk => ?_, .inr ⟨0, rfl, Hp.nil⟩⟩
    obtain ⟨k, rfl⟩ : ∃ q, k = q + 1 := ⟨k - 1, by omega⟩
    simp [spec_l3Rank.f]
  | succ N ih =>
    intro h hl hN
    cases h with
    | nil =>
      refine ⟨0, 1, fun k hk => ?_, .inr ⟨0, rfl, Hp.nil⟩⟩
      obtain ⟨k, rfl⟩ : ∃ q, k = q + 1 := ⟨k - 1, by omega⟩
      simp [spec_l3Rank.f]
    | cons x t =>
      rw [List.length_cons] at hl
      by_cases hin : 0 ≤ x.f2 ∧ x.f2 ≤ (t.length : Int)
      · have hs := fun k => srank_cons k x t hin.1 hin.2 (by omega)
        cases hb : (okh x (t.take x.f2.toNat) && okh x (t.drop x.f2.toNat)) with
        | false =>
          refine ⟨-1, 2, fun k hk => ?_, .inl ⟨rfl, fun n hn => ?_⟩⟩
          · obtain ⟨k, rfl⟩ : ∃ q, k = q + 2 := ⟨k - 2, by omega⟩
            rw [hs, hb]
            simp [spec_l3Rank.j0]
          · obtain ⟨_, _, _, _, _, _, _, _, h5, h6⟩ := hn.parts
            rw [okh_iff.2 h5, okh_iff.2 h6] at hb
            cases hb
        | true =>
          obtain ⟨a, K1, e1, c1⟩ := ih (t.take x.f2.toNat) (by rw [length_take]; omega) (by omega)
          obtain ⟨b, K2, e2, c2⟩ := ih (t.drop x.f2.toNat) (by rw [length_drop]; omega) (by omega)
          rw [Bool.and_eq_true] at hb
          have step : ∀ k, K1 + K2 + 2 ≤ k → spec_l3Rank.f k (x :: t) = if a < 0 then some (-1) else (if b < 0 then some (-1) else (if a < b then some (-1) else some (wrap64 (b + 1)))) := by
            intro k hk
            obtain ⟨k, rfl⟩ : ∃ q, k = q + 2 := ⟨k - 2, by omega⟩
            rw [hs, hb.1, hb.2]
            simp only [spec_l3Rank.j0]
            rw [if_neg (by simp), e1 k (by omega), e2 k (by omega), Option.bind_some, Option.bind_some]
          rcases c1 with ⟨rfl, c1⟩ | ⟨na, rfl, c1⟩
          · refine ⟨-1, K1 + K2 + 2, fun k hk => by rw [step k hk, if_pos (by omega)], .inl ⟨rfl, fun n hn => ?_⟩⟩
            obtain ⟨_, _, p, q, _, hp, _⟩ := hn.parts
            exact c1 p hp
          · rcases c2 with ⟨rfl, c2⟩ | ⟨nb, rfl, c2⟩
            · refine ⟨-1, K1 + K2 + 2, fun k hk => by rw [step k hk, if_neg (by omega), if_pos (by omega)], .inl ⟨rfl, fun n hn => ?_⟩⟩
              obtain ⟨_, _, p, q, _, _, hq, _⟩ := hn.parts
              exact c2 q hq
            · by_cases hab : na < nb
              · refine ⟨-1, K1 + K2 + 2, fun k hk => by rw [step k hk, if_neg (by omega), if_neg (by omega), if_pos (by omega)], .inl ⟨rfl, fun n hn => ?_⟩⟩
                obtain ⟨_, _, p, q, _, hp, hq, hpq, _⟩ := hn.parts
                have := hp.uniq c1
                have := hq.uniq c2
                omega
              · have hr := c2.rank_le
                rw [length_drop] at hr
                refine ⟨(nb : Int) + 1, K1 + K2 + 2, fun k hk => by rw [step k hk, if_neg (by omega), if_neg (by omega), if_neg (by omega), wrap_id (by omega) (by omega)], .inr ⟨nb + 1, by omega, ?_⟩⟩
                have := Hp.node (x := x) c1 c2 (by omega) (by rw [length_take]; omega) (okh_iff.1 hb.1) (okh_iff.1 hb.2)
                rwa [List.take_append_drop] at this
      · refine ⟨-1, 2, fun k hk => ?_, .inl ⟨rfl, fun n hn => hin ⟨hn.parts.1, hn.parts.2.1⟩⟩⟩
        obtain ⟨k, rfl⟩ : ∃ q, k = q + 2 := ⟨k - 2, by omega⟩
        simp only [spec_l3Rank.f]
        rw [sparts_no hin (by omega), Option.bind_some, if_neg (by simp; omega), if_neg (by simp)]
        simp [spec_l3Rank.j0]
theorem srank_hp {h : List S31} {n : Nat} (hh : Hp h n) (hn : h.length ≤ 4611686018427387904) : ∃ K, ∀ k, K ≤ k → spec_l3Rank.f k h = some (n : Int) := by
  obtain ⟨r, K, e, c⟩ := srank_ok _ h (Nat.le_refl _) hn
  rcases c with ⟨_, c⟩ | ⟨m, rfl, c⟩
  · exact absurd hh (c n)
  · rw [hh.uniq c]
    exact ⟨K, e⟩
theorem rank_loop : ∀ (n : Nat) (h : List S31) (c : Int), Hp h n → h.length ≤ 4611686018427387904 → 0 ≤ c → c + n ≤ 4611686018427387904 → ∀ k, n < k → impl_rank.l0 k h c = some (c + n) := by
  intro n
  induction n with
  | zero =>
    intro h c hh hl h0 h1 k hk
    obtain ⟨k, rfl⟩ : ∃ q, k = q + 1 := ⟨k - 1, by omega⟩
    have : h = [] := by
      cases h with
      | nil => rfl
      | cons x t =>
        obtain ⟨_, _, _, _, e, _⟩ := hh.parts
        omega
    subst this
    simp [impl_rank.l0]
  | succ n ih =>
    intro h c hh hl h0 h1 k hk
    obtain ⟨k, rfl⟩ : ∃ q, k = q + 1 := ⟨k - 1, by omega⟩
    cases h with
    | nil => have := hh.rank_nil; omega
    | cons x t =>
      obtain ⟨p0, p1, a, b, e, _, hb, _⟩ := hh.parts
      obtain rfl : n = b := by omega
      rw [List.length_cons] at hl
      simp only [impl_rank.l0]
      rw [if_pos (by simp), parts_ok p0 p1 (by omega), Option.bind_some, wrap_id (by omega) (by omega), ih _ _ hb (by rw [length_drop]; omega) (by omega) (by omega) k (by omega)]
      congr 1
      omega
theorem rank_hp {h : List S31} {n : Nat} (hh : Hp h n) (hn : h.length ≤ 4611686018427387903) : ∀ k, n < k → impl_rank.f k h = some (n : Int) := by
  intro k hk
  unfold impl_rank.f
  have := hh.rank_le
  rw [rank_loop n h 0 hh (by omega) (by omega) (by omega) k hk]
  congr 1
  omega
theorem ne1 (l : List S31) : ¬ ((l.length : Int) + 1 = 0) := by omega
theorem isheap_j0 (k : Nat) (x : S31) (t l r : List S31) (hk : 3 ≤ k) : impl_isHeap.j0 (k + 1) (x :: t) l r false = some (okh x l && okh x r) := by
  simp only [impl_isHeap.j0]
  rw [if_neg (by simp), rdT_cons]
  cases l with
  | nil =>
    cases r with
    | nil => simp [ne1, okh]
    | cons z r =>
      rw [rdT_cons, compare_ok x z k hk]
      simp [ne1, okh, cmpT_neg]
  | cons y l =>
    rw [rdT_cons, compare_ok x y k hk]
    have e := cmpT_neg x y
    cases r with
    | nil =>
      by_cases c : cmpT x y < 0
      · simp [c] at e
        simp [ne1, okh, ← e, c]
      · simp [c] at e
        simp [ne1, okh, ← e, c]
    | cons z r =>
      rw [rdT_cons, compare_ok x z k hk]
      by_cases c : cmpT x y < 0
      · simp [c] at e
        simp [ne1, okh, ← e, c, cmpT_neg]
      · simp [c] at e
        simp [ne1, okh, e, c]
theorem isheap_j1 (k : Nat) (x l r : List S31) : impl_isHeap.j0 (k + 1) x l r true = some false := by
  simp [impl_isHeap.j0]
theorem isheap_ok : ∀ (N : Nat) (h : List S31), h.length ≤ N → N ≤ 4611686018427387900 → ∃ b K, (∀ k, K ≤ k → impl_isHeap.f k h = some b) ∧ (b = true ↔ ∃ n, Hp h n) := by
  intro N
  have nil : ∃ b K, (∀ k, K ≤ k → impl_isHeap.f k [] = some b) ∧ (b = true ↔ ∃ n, Hp [] n) := by
    refine ⟨true, 1, fun k hk => ?_, by simp; exact ⟨0, Hp.nil⟩⟩
    obtain ⟨k, rfl⟩ : ∃ q, k = q + 1 := ⟨k - 1, by omega⟩
    simp [impl_isHeap.f]
  induction N with
  | zero =>
    intro h hl hN
    obtain rfl : h = [] := List.length_eq_zero_iff.1 (by omega)
    exact nil
  | succ N ih =>
    intro h hl hN
    cases h with
    | nil => exact nil
    | cons x t =>
      rw [List.length_cons] at hl
      have hw : wrap64 (((x :: t).length : Int) - 1) = (t.length : Int) := by
        rw [List.length_cons, wrap_id (by omega) (by omega)]
        omega
      by_cases hin : 0 ≤ x.f2 ∧ x.f2 ≤ (t.length : Int)
      · obtain ⟨a, K1, e1, c1⟩ := ih (t.take x.f2.toNat) (by rw [length_take]; omega) (by omega)
        obtain ⟨b, K2, e2, c2⟩ := ih (t.drop x.f2.toNat) (by rw [length_drop]; omega) (by omega)
        have step : ∀ k, K1 + K2 ≤ k → impl_isHeap.f (k + 1) (x :: t) = if a = true then (if b = true then ((impl_rank.f k (t.take x.f2.toNat)).bind fun p => ((impl_rank.f k (t.drop x.f2.toNat)).bind fun q => impl_isHeap.j0 k (x :: t) (t.take x.f2.toNat) (t.drop x.f2.toNat) (decide (p < q)))) else impl_isHeap.j0 k (x :: t) (t.take x.f2.toNat) (t.drop x.f2.toNat) true) else impl_isHeap.j0 k (x :: t) (t.take x.f2.toNat) (t.drop x.f2.toNat) true := by
          intro k hk
          simp only [impl_isHeap.f]
          rw [if_neg (by simp; omega), if_pos (by simp), size_ok, Option.bind_some, hw, rdT_cons, within_ok, Option.bind_some, if_pos (by simp; omega), parts_ok hin.1 hin.2 (by omega), Option.bind_some]
          simp only
          rw [e1 k (by omega), Option.bind_some]
          by_cases ha : a = true
          · rw [if_pos ha, if_pos ha, e2 k (by omega), Option.bind_some]
          · rw [if_neg ha, if_neg ha]
        by_cases ha : a = true
        · by_cases hb : b = true
          · obtain ⟨na, h1⟩ := c1.1 ha
            obtain ⟨nb, h2⟩ := c2.1 hb
            have ha2 := h1.rank_le
            have hb2 := h2.rank_le
            rw [length_take] at ha2
            rw [length_drop] at hb2
            have step2 : ∀ k, K1 + K2 + na + nb + 5 ≤ k → impl_isHeap.f (k + 1) (x :: t) = impl_isHeap.j0 k (x :: t) (t.take x.f2.toNat) (t.drop x.f2.toNat) (decide ((na : Int) < nb)) := by
              intro k hk
              rw [step k (by omega), if_pos ha, if_pos hb, rank_hp h1 (by rw [length_take]; omega) k (by omega), rank_hp h2 (by rw [length_drop]; omega) k (by omega), Option.bind_some, Option.bind_some]
            by_cases hab : na < nb
            · refine ⟨false, K1 + K2 + na + nb + 7, fun k hk => ?_, ?_⟩
              · obtain ⟨k, rfl⟩ : ∃ q, k = q + 2 := ⟨k - 2, by omega⟩
                rw [step2 _ (by omega), decide_eq_true (by omega), isheap_j1]
              · constructor
                · intro h; cases h
                · rintro ⟨n, hn⟩
                  obtain ⟨_, _, p, q, _, hp, hq, hpq, _⟩ := hn.parts
                  have := hp.uniq h1
                  have := hq.uniq h2
                  omega
            · refine ⟨okh x (t.take x.f2.toNat) && okh x (t.drop x.f2.toNat), K1 + K2 + na + nb + 7, fun k hk => ?_, ?_⟩
              · obtain ⟨k, rfl⟩ : ∃ q, k = q + 2 := ⟨k - 2, by omega⟩
                rw [step2 _ (by omega), decide_eq_false (by omega), isheap_j0 _ _ _ _ _ (by omega)]
              · rw [Bool.and_eq_true, okh_iff, okh_iff]
                constructor
                · rintro ⟨g1, g2⟩
                  have := Hp.node (x := x) h1 h2 (by omega) (by rw [length_take]; omega) g1 g2
                  rw [List.take_append_drop] at this
                  exact ⟨_, this⟩
                · rintro ⟨n, hn⟩
                  obtain ⟨_, _, p, q, _, _, _, _, g1, g2⟩ := hn.parts
                  exact ⟨g1, g2⟩
          · refine ⟨false, K1 + K2 + 2, fun k hk => ?_, ?_⟩
            · obtain ⟨k, rfl⟩ : ∃ q, k = q + 2 := ⟨k - 2, by omega⟩
              rw [step _ (by omega), if_pos ha, if_neg hb, isheap_j1]
            · constructor
              · intro h; cases h
              · rintro ⟨n, hn⟩
                obtain ⟨_, _, p, q, _, hp, hq, _⟩ := hn.parts
                exact absurd (c2.2 ⟨_, hq⟩) hb
        · refine ⟨false, K1 + K2 + 2, fun k hk => ?_, ?_⟩
          · obtain ⟨k, rfl⟩ : ∃ q, k = q + 2 := ⟨k - 2, by omega⟩
            rw [step _ (by omega), if_neg ha, isheap_j1]
          · constructor
            · intro h; cases h
            · rintro ⟨n, hn⟩
              obtain ⟨_, _, p, q, _, hp, hq, _⟩ := hn.parts
              exact absurd (c1.2 ⟨_, hp⟩) ha
      · refine ⟨false, 1, fun k hk => ?_, ?_⟩
        · obtain ⟨k, rfl⟩ : ∃ q, k = q + 1 := ⟨k - 1, by omega⟩
          simp only [impl_isHeap.f]
          rw [if_neg (by simp; omega), if_pos (by simp), size_ok, Option.bind_some, hw, rdT_cons, within_ok, Option.bind_some, if_neg (by simp; omega)]
        · constructor
          · intro h; cases h
          · rintro ⟨n, hn⟩
            exact absurd ⟨hn.parts.1, hn.parts.2.1⟩ hin
/-- The place of a number, from i on. -/
def findT (q : Int) : List S31 → Int → Int
  | [], _ => -1
  | x :: t, i => if x.f1 = q then i else findT q t (i + 1)
theorem findT_iff (q : Int) : ∀ (l : List S31) (i : Int), 0 ≤ i → (0 ≤ findT q l i ↔ q ∈ l.map S31.f1) := by
  intro l
  induction l with
  | nil => intro i _; simp [findT]
  | cons x t ih =>
    intro i hi
    unfold findT
    by_cases h : x.f1 = q
    · rw [if_pos h]
      simp [h, hi]
    · rw [if_neg h, ih (i + 1) (by omega)]
      simp [Ne.symm h]
theorem seq_loop (l : List S31) (q : Int) (hl : l.length ≤ 4611686018427387904) : ∀ (m j k : Nat), j + m = l.length → m < k → impl_Twig_83.l0 k l q (l.length : Int) (j : Int) = some (findT q (l.drop j) j) := by
  intro m
  induction m with
  | zero =>
    intro j k hj hk
    obtain ⟨k, rfl⟩ : ∃ q, k = q + 1 := ⟨k - 1, by omega⟩
    simp only [impl_Twig_83.l0]
    rw [if_neg (by omega), List.drop_eq_nil_of_le (by omega)]
    rfl
  | succ m ih =>
    intro j k hj hk
    obtain ⟨k, rfl⟩ : ∃ q, k = q + 1 := ⟨k - 1, by omega⟩
    have hlt : j < l.length := by omega
    simp only [impl_Twig_83.l0]
    rw [if_pos (by omega), if_pos (by omega), if_pos (by omega), rdT_at hlt, wrap_id (by omega) (by omega), show ((j : Int) + 1) = ((j + 1 : Nat) : Int) by omega, ih (j + 1) k (by omega) (by omega), List.drop_eq_getElem_cons hlt]
    unfold impl_seqAt_1.f
    rw [Option.bind_some]
    conv => rhs; unfold findT
    by_cases h : l[j].f1 = q
    · rw [if_pos (by simp [h]), if_pos h]
    · rw [if_neg (by simp [h]), if_neg h]
      rfl
theorem seqAt_ok (l : List S31) (q : Int) (hl : l.length ≤ 4611686018427387904) (k : Nat) (hk : l.length < k) : impl_seqAt.f k l q = some (findT q l 0) := by
  unfold impl_seqAt.f impl_Twig_83.f
  have := seq_loop l q hl l.length 0 k (by omega) hk
  rw [show ((0 : Nat) : Int) = 0 from rfl] at this
  rw [this, Option.bind_some]
  rfl
/-- No number twice. -/
def ndT (l : List S31) : Prop := (l.map S31.f1).Nodup
theorem ndT_snoc {l : List S31} {j : Nat} (h : j < l.length) : ndT (l.take (j + 1)) ↔ ndT (l.take j) ∧ ¬ l[j].f1 ∈ (l.take j).map S31.f1 := by
  unfold ndT
  rw [List.take_succ_eq_append_getElem h, List.map_append, map_cons, map_nil, List.nodup_append]
  constructor
  · rintro ⟨h1, _, h3⟩
    exact ⟨h1, fun hm => h3 _ hm _ (by simp) rfl⟩
  · rintro ⟨h1, h2⟩
    refine ⟨h1, by simp, ?_⟩
    intro a ha b hb e
    simp at hb
    subst hb
    subst e
    exact h2 ha
theorem ndT_take {l : List S31} (h : ndT l) (j : Nat) : ndT (l.take j) := by
  unfold ndT at *
  rw [List.map_take]
  exact List.Pairwise.sublist (List.take_sublist _ _) h
theorem heap_loop (l : List S31) (hl : l.length ≤ 4611686018427387900) : ∀ (m j : Nat), j + m = l.length → ndT (l.take j) → ∃ b K, (∀ k, K ≤ k → impl_HeapOk.l0 k l l (l.length : Int) (j : Int) = some b) ∧ (b = true ↔ ndT l ∧ ∃ n, Hp l n) := by
  intro m
  induction m with
  | zero =>
    intro j hj hnd
    obtain ⟨b, K, e, hb⟩ := isheap_ok _ l (Nat.le_refl _) hl
    refine ⟨b, K + 1, fun k hk => ?_, ?_⟩
    · obtain ⟨k, rfl⟩ : ∃ q, k = q + 1 := ⟨k - 1, by omega⟩
      simp only [impl_HeapOk.l0]
      rw [if_neg (by omega), e k (by omega), Option.bind_some]
    · rw [List.take_of_length_le (by omega)] at hnd
      rw [hb]
      exact ⟨fun h => ⟨hnd, h⟩, fun h => h.2⟩
  | succ m ih =>
    intro j hj hnd
    have hlt : j < l.length := by omega
    have step : ∀ k, l.length < k → impl_HeapOk.l0 (k + 1) l l (l.length : Int) (j : Int) = if 0 ≤ findT l[j].f1 (l.take j) 0 then some false else impl_HeapOk.l0 k l l (l.length : Int) ((j + 1 : Nat) : Int) := by
      intro k hk
      simp only [impl_HeapOk.l0]
      rw [if_pos (by omega), if_pos (by omega), if_pos (by omega), if_pos (by omega), rdT_at hlt, Int.toNat_natCast, seqAt_ok _ _ (by rw [length_take]; omega) k (by rw [length_take]; omega), Option.bind_some, wrap_id (by omega) (by omega)]
      rfl
    by_cases hf : 0 ≤ findT l[j].f1 (l.take j) 0
    · refine ⟨false, l.length + 2, fun k hk => ?_, ?_⟩
      · obtain ⟨k, rfl⟩ : ∃ q, k = q + 1 := ⟨k - 1, by omega⟩
        rw [step k (by omega), if_pos hf]
      · constructor
        · intro h; cases h
        · rintro ⟨h, _⟩
          rw [findT_iff _ _ _ (by omega)] at hf
          exact absurd hf ((ndT_snoc hlt).1 (ndT_take h (j + 1))).2
    · obtain ⟨b, K, e, hb⟩ := ih (j + 1) (by omega) ((ndT_snoc hlt).2 ⟨hnd, by rw [findT_iff _ _ _ (by omega)] at hf; exact hf⟩)
      refine ⟨b, K + l.length + 2, fun k hk => ?_, hb⟩
      obtain ⟨k, rfl⟩ : ∃ q, k = q + 1 := ⟨k - 1, by omega⟩
      rw [step k (by omega), if_neg hf, e k (by omega)]
theorem twice_in (l : List S31) (hl : l.length ≤ 4611686018427387900) (i : Nat) (hi : i < l.length) : ∀ (m p k : Nat), p + m = i → spec_l3Twice.l1 (k + m + 1) l (i : Int) (p : Int) = if l[i].f1 ∈ ((l.take i).drop p).map S31.f1 then some true else spec_l3Twice.l0 k l ((i + 1 : Nat) : Int) := by
  intro m
  induction m with
  | zero =>
    intro p k hp
    rw [spec_l3Twice.l1, if_neg (by omega), List.drop_eq_nil_of_le (by rw [length_take]; omega), if_neg (by simp), wrap_id (by omega) (by omega)]
    rfl
  | succ m ih =>
    intro p k hp
    have hlt : p < (l.take i).length := by rw [length_take]; omega
    rw [spec_l3Twice.l1, if_pos (by omega), if_pos (by omega), if_pos (by omega), if_pos (by omega), if_pos (by omega), rdT_at hi, rdT_at (show p < l.length by omega), wrap_id (by omega) (by omega), show ((p : Int) + 1) = ((p + 1 : Nat) : Int) by omega, show k + (m + 1) = k + m + 1 by omega, ih (p + 1) k (by omega), List.drop_eq_getElem_cons hlt, map_cons, List.getElem_take]
    by_cases h : l[i].f1 = l[p].f1
    · rw [if_pos h, if_pos (by rw [h]; simp)]
    · rw [if_neg h]
      simp only [List.mem_cons, h, false_or]
theorem twice_out (l : List S31) (hl : l.length ≤ 4611686018427387900) : ∀ (m i : Nat), i + m = l.length → ndT (l.take i) → ∃ b K, (∀ k, K ≤ k → spec_l3Twice.l0 k l (i : Int) = some b) ∧ (b = false ↔ ndT l) := by
  intro m
  induction m with
  | zero =>
    intro i hi hnd
    refine ⟨false, 1, fun k hk => ?_, ?_⟩
    · obtain ⟨k, rfl⟩ : ∃ q, k = q + 1 := ⟨k - 1, by omega⟩
      rw [spec_l3Twice.l0, if_neg (by omega)]
    · rw [List.take_of_length_le (by omega)] at hnd
      simp [hnd]
  | succ m ih =>
    intro i hi hnd
    have hlt : i < l.length := by omega
    have step : ∀ k, spec_l3Twice.l0 (k + i + 2) l (i : Int) = if l[i].f1 ∈ (l.take i).map S31.f1 then some true else spec_l3Twice.l0 k l ((i + 1 : Nat) : Int) := by
      intro k
      have := twice_in l hl i hlt i 0 k (by omega)
      rw [List.drop_zero] at this
      rw [spec_l3Twice.l0, if_pos (by omega)]
      exact this
    by_cases hm : l[i].f1 ∈ (l.take i).map S31.f1
    · refine ⟨true, i + 2, fun k hk => ?_, ?_⟩
      · obtain ⟨k, rfl⟩ : ∃ q, k = q + i + 2 := ⟨k - i - 2, by omega⟩
        rw [step, if_pos hm]
      · constructor
        · intro h; cases h
        · intro h
          exact absurd hm ((ndT_snoc hlt).1 (ndT_take h (i + 1))).2
    · obtain ⟨b, K, e, hb⟩ := ih (i + 1) (by omega) ((ndT_snoc hlt).2 ⟨hnd, hm⟩)
      refine ⟨b, K + i + 2, fun k hk => ?_, hb⟩
      obtain ⟨k, rfl⟩ : ∃ q, k = q + i + 2 := ⟨k - i - 2, by omega⟩
      rw [step, if_neg hm, e k (by omega)]
/-- A heap that the program takes. -/
def OkT (l : List S31) : Prop := l.length ≤ 64 ∧ ndT l ∧ ∃ n, Hp l n
theorem twice_ok (l : List S31) (hl : l.length ≤ 4611686018427387900) : ∃ b K, (∀ k, K ≤ k → spec_l3Twice.f k l = some b) ∧ (b = false ↔ ndT l) := by
  obtain ⟨b, K, e, hb⟩ := twice_out l hl l.length 0 (by omega) (by simp [ndT])
  exact ⟨b, K, fun k hk => e k hk, hb⟩
theorem heapOk_ok (l : List S31) (hl : l.length ≤ 4611686018427387900) : ∃ b K, (∀ k, K ≤ k → spec_HeapOk.f k l = some b ∧ impl_HeapOk.f k l = some b) ∧ (b = true ↔ OkT l) := by
  by_cases h64 : l.length ≤ 64
  · obtain ⟨b1, K1, e1, h1⟩ := twice_ok l hl
    obtain ⟨r, K2, e2, h2⟩ := srank_ok _ l (Nat.le_refl _) (by omega)
    obtain ⟨b3, K3, e3, h3⟩ := heap_loop l hl l.length 0 (by omega) (by simp [ndT])
    refine ⟨b3, K1 + K2 + K3, fun k hk => ⟨?_, ?_⟩, ?_⟩
    · unfold spec_HeapOk.f
      rw [if_pos (by omega), e1 k (by omega), Option.bind_some]
      cases b1 with
      | true =>
        rw [if_pos rfl]
        congr 1
        cases b3 with
        | false => rfl
        | true => exact absurd (h1.2 (h3.1 rfl).1) (by simp)
      | false =>
        rw [if_neg (by simp), e2 k (by omega), Option.bind_some]
        congr 1
        rcases h2 with ⟨rfl, hn⟩ | ⟨n, rfl, hn⟩
        · cases b3 with
          | false => rfl
          | true =>
            obtain ⟨_, n, hh⟩ := h3.1 rfl
            exact absurd hh (hn n)
        · rw [decide_eq_true (by omega)]
          exact (h3.2 ⟨h1.1 rfl, n, hn⟩).symm
    · unfold impl_HeapOk.f
      rw [if_neg (by omega)]
      exact e3 k (by omega)
    · rw [h3]
      exact ⟨fun h => ⟨h64, h⟩, fun h => h.2⟩
  · refine ⟨false, 0, fun k hk => ⟨?_, ?_⟩, ?_⟩
    · unfold spec_HeapOk.f
      rw [if_neg (by omega)]
    · unfold impl_HeapOk.f
      rw [if_pos (by omega)]
    · constructor
      · intro h; cases h
      · intro h
        exact absurd h.1 h64
theorem copyT_ok (l : List S31) (hl : l.length < 5000000000000) : spec_l3Copy.f l = some l ∧ impl_Twig_72.f l = some l := by
  constructor
  · unfold spec_l3Copy.f
    rw [Option.bind_some, if_pos (by simp; omega)]
    rfl
  · unfold impl_Twig_72.f
    rw [Option.bind_some, if_pos (by simp; omega)]
    rfl
theorem joined_ok (x : S31) (l m : List S31) {p q : Nat} (h1 : Hp l p) (h2 : Hp m q) (hl : l.length + m.length ≤ 4000000000000) : ∃ K, ∀ k, K ≤ k → spec_l3Join.f k x.f0 x.f1 x.f2 l m = some (joinT x l m p q) ∧ impl_joined.f k x.f0 x.f1 x.f2 l m = some (joinT x l m p q) := by
  obtain ⟨K1, e1⟩ := srank_hp h1 (by omega)
  obtain ⟨K2, e2⟩ := srank_hp h2 (by omega)
  have e3 := rank_hp h1 (by omega)
  have e4 := rank_hp h2 (by omega)
  refine ⟨K1 + K2 + p + q + 1, fun k hk => ⟨?_, ?_⟩⟩
  · unfold spec_l3Join.f joinT
    rw [e1 k (by omega), e2 k (by omega), Option.bind_some, Option.bind_some]
    by_cases h : p < q
    · rw [if_pos (by omega), if_pos h, Option.bind_some, if_pos (by simp; omega), Option.bind_some, if_pos (by simp; omega)]
      simp
    · rw [if_neg (by omega), if_neg h, Option.bind_some, if_pos (by simp; omega), Option.bind_some, if_pos (by simp; omega)]
      simp
  · unfold impl_joined.f joinT
    rw [e3 k (by omega), e4 k (by omega), Option.bind_some, Option.bind_some]
    by_cases h : p < q
    · rw [if_pos (by omega), if_pos h, size_ok, Option.bind_some, Option.bind_some, if_pos (by simp; omega), Option.bind_some, if_pos (by simp; omega)]
      simp
    · rw [if_neg (by omega), if_neg h, size_ok, Option.bind_some, Option.bind_some, if_pos (by simp; omega), Option.bind_some, if_pos (by simp; omega)]
      simp
/-- No number in common. -/
def disT (a b : List S31) : Prop := ∀ x ∈ a, ∀ y ∈ b, x.f1 ≠ y.f1
theorem disT_symm {a b : List S31} (h : disT a b) : disT b a := fun x hx y hy e => h y hy x hx e.symm
theorem keys_parts (x : S31) (t : List S31) (n : Nat) (u : List (Int × Int)) : keyT x :: ((t.take n).map keyT ++ ((t.drop n).map keyT ++ u)) = (x :: t).map keyT ++ u := by
  rw [← List.append_assoc, ← List.map_append, List.take_append_drop]
  rfl
theorem merge_ok : ∀ (N : Nat) (a b : List S31) (p q : Nat), a.length + b.length ≤ N → N ≤ 2000000 → Hp a p → Hp b q → disT a b →
    ∃ m n, Hp m n ∧ (m.map keyT).Perm (a.map keyT ++ b.map keyT) ∧ ∃ K, ∀ k, K ≤ k → spec_l3Merge.f k a b = some m ∧ impl_merge.f k a b = some m := by
  intro N
  induction N with
  | zero =>
    intro a b p q hl hN h1 h2 hd
    obtain rfl : a = [] := List.length_eq_zero_iff.1 (by omega)
    refine ⟨b, q, h2, List.Perm.refl _, 1, fun k hk => ?_⟩
    obtain ⟨k, rfl⟩ : ∃ q, k = q + 1 := ⟨k - 1, by omega⟩
    simp only [spec_l3Merge.f, impl_merge.f]
    rw [if_pos (by simp), if_pos (by simp), (copyT_ok b (by omega)).1, (copyT_ok b (by omega)).2]
    exact ⟨rfl, rfl⟩
  | succ N ih =>
    intro a b p q hl hN h1 h2 hd
    cases a with
    | nil =>
      refine ⟨b, q, h2, List.Perm.refl _, 1, fun k hk => ?_⟩
      obtain ⟨k, rfl⟩ : ∃ q, k = q + 1 := ⟨k - 1, by omega⟩
      simp only [spec_l3Merge.f, impl_merge.f]
      rw [if_pos (by simp), if_pos (by simp), (copyT_ok b (by omega)).1, (copyT_ok b (by omega)).2]
      exact ⟨rfl, rfl⟩
    | cons x t =>
      rw [List.length_cons] at hl
      cases b with
      | nil =>
        refine ⟨x :: t, p, h1, by simp, 1, fun k hk => ?_⟩
        obtain ⟨k, rfl⟩ : ∃ q, k = q + 1 := ⟨k - 1, by omega⟩
        have c := copyT_ok (x :: t) (by rw [List.length_cons]; simp at hl; omega)
        constructor
        · simp only [spec_l3Merge.f]
          rw [if_neg (by simp; omega), if_pos (by simp), c.1]
          rfl
        · simp only [impl_merge.f]
          rw [if_neg (by simp; omega), if_pos (by simp), c.2]
          rfl
      | cons y s =>
        rw [List.length_cons] at hl
        have hxy : x.f1 ≠ y.f1 := hd x (by simp) y (by simp)
        have L1 := h1.least
        have L2 := h2.least
        by_cases hah : ah x y = true
        · obtain ⟨p0, p1, pa, pb, rfl, hpa, hpb, hle, _, _⟩ := h1.parts
          have hsub : ∀ z ∈ t.drop x.f2.toNat, z ∈ t := fun z hz => List.mem_of_mem_drop hz
          obtain ⟨m, n, hm, hp, K1, e1⟩ := ih (t.drop x.f2.toNat) (y :: s) pb q (by rw [length_drop, List.length_cons]; omega) (by omega) hpb h2 (fun z hz w hw => hd z (by simp [hsub z hz]) w hw)
          have hp0 := hp
          rw [← List.map_append] at hp
          have hall : ∀ z ∈ t.drop x.f2.toNat ++ y :: s, ah x z = true := by
            intro z hz
            rcases List.mem_append.1 hz with hz | hz
            · exact L1 z (hsub z hz)
            · rcases List.mem_cons.1 hz with rfl | hz
              · exact hah
              · exact ah_trans hah (L2 z hz)
          have hm2 := ah_perm hp hall
          have hl2 : ∀ z ∈ t.take x.f2.toNat, ah x z = true := fun z hz => L1 z (List.mem_of_mem_take hz)
          have hmlen := perm_length hp
          rw [List.length_append, List.length_cons, length_drop] at hmlen
          obtain ⟨n2, hj⟩ := joinT_hp hpa hm hl2 hm2
          obtain ⟨K2, e2⟩ := joined_ok x (t.take x.f2.toNat) m hpa hm (by rw [length_take]; omega)
          refine ⟨joinT x (t.take x.f2.toNat) m pa n, n2, hj, ?_, K1 + K2 + 4, fun k hk => ?_⟩
          · refine (joinT_perm _ _ _ _ _).trans ?_
            rw [← keys_parts x t x.f2.toNat]
            exact List.Perm.cons _ (List.Perm.append_left _ hp0)
          · obtain ⟨k, rfl⟩ : ∃ q, k = q + 1 := ⟨k - 1, by omega⟩
            constructor
            · simp only [spec_l3Merge.f]
              rw [if_neg (by simp; omega), if_neg (by simp; omega), if_pos (by simp), if_pos (by simp), rdT_cons, rdT_cons, sahead_ok, Option.bind_some, if_pos hah, sparts_ok p0 p1 (by omega), Option.bind_some]
              simp only
              rw [(e1 k (by omega)).1, Option.bind_some, (e2 k (by omega)).1, Option.bind_some]
            · have hc : ¬ cmpT y x < 0 := by
                intro hc
                have := cmpT_neg y x
                rw [decide_eq_true hc, ah_asymm hah] at this
                cases this
              simp only [impl_merge.f]
              rw [if_neg (by simp; omega), if_neg (by simp; omega), if_pos (by simp), if_pos (by simp), rdT_cons, rdT_cons, compare_ok y x k (by omega), Option.bind_some, if_neg hc, parts_ok p0 p1 (by omega), Option.bind_some]
              simp only
              rw [(e1 k (by omega)).2, Option.bind_some, (e2 k (by omega)).2, Option.bind_some]
        · have hya : ah y x = true := (ah_total hxy).resolve_left hah
          obtain ⟨p0, p1, pa, pb, rfl, hpa, hpb, hle, _, _⟩ := h2.parts
          have hsub : ∀ z ∈ s.drop y.f2.toNat, z ∈ s := fun z hz => List.mem_of_mem_drop hz
          obtain ⟨m, n, hm, hp, K1, e1⟩ := ih (s.drop y.f2.toNat) (x :: t) pb p (by rw [length_drop, List.length_cons]; omega) (by omega) hpb h1 (fun z hz w hw => disT_symm hd z (by simp [hsub z hz]) w hw)
          have hp0 := hp
          rw [← List.map_append] at hp
          have hall : ∀ z ∈ s.drop y.f2.toNat ++ x :: t, ah y z = true := by
            intro z hz
            rcases List.mem_append.1 hz with hz | hz
            · exact L2 z (hsub z hz)
            · rcases List.mem_cons.1 hz with rfl | hz
              · exact hya
              · exact ah_trans hya (L1 z hz)
          have hm2 := ah_perm hp hall
          have hl2 : ∀ z ∈ s.take y.f2.toNat, ah y z = true := fun z hz => L2 z (List.mem_of_mem_take hz)
          have hmlen := perm_length hp
          rw [List.length_append, List.length_cons, length_drop] at hmlen
          obtain ⟨n2, hj⟩ := joinT_hp hpa hm hl2 hm2
          obtain ⟨K2, e2⟩ := joined_ok y (s.take y.f2.toNat) m hpa hm (by rw [length_take]; omega)
          refine ⟨joinT y (s.take y.f2.toNat) m pa n, n2, hj, ?_, K1 + K2 + 4, fun k hk => ?_⟩
          · refine (joinT_perm _ _ _ _ _).trans ?_
            refine List.Perm.trans ?_ List.perm_append_comm
            rw [← keys_parts y s y.f2.toNat]
            exact List.Perm.cons _ (List.Perm.append_left _ hp0)
          · obtain ⟨k, rfl⟩ : ∃ q, k = q + 1 := ⟨k - 1, by omega⟩
            constructor
            · simp only [spec_l3Merge.f]
              rw [if_neg (by simp; omega), if_neg (by simp; omega), if_pos (by simp), if_pos (by simp), rdT_cons, rdT_cons, sahead_ok, Option.bind_some, if_neg hah, sparts_ok p0 p1 (by omega), Option.bind_some]
              simp only
              rw [(e1 k (by omega)).1, Option.bind_some, (e2 k (by omega)).1, Option.bind_some]
            · have hc : cmpT y x < 0 := by
                have := cmpT_neg y x
                rw [hya] at this
                exact of_decide_eq_true this
              simp only [impl_merge.f]
              rw [if_neg (by simp; omega), if_neg (by simp; omega), if_pos (by simp), if_pos (by simp), rdT_cons, rdT_cons, compare_ok y x k (by omega), Option.bind_some, if_pos hc, parts_ok p0 p1 (by omega), Option.bind_some]
              simp only
              rw [(e1 k (by omega)).2, Option.bind_some, (e2 k (by omega)).2, Option.bind_some]
theorem ndT_append {a b : List S31} : ndT (a ++ b) ↔ ndT a ∧ ndT b ∧ disT a b := by
  unfold ndT disT
  rw [List.map_append, List.nodup_append]
  constructor
  · rintro ⟨h1, h2, h3⟩
    exact ⟨h1, h2, fun x hx y hy => h3 _ (List.mem_map_of_mem hx) _ (List.mem_map_of_mem hy)⟩
  · rintro ⟨h1, h2, h3⟩
    refine ⟨h1, h2, fun u hu v hv => ?_⟩
    obtain ⟨x, hx, rfl⟩ := List.mem_map.1 hu
    obtain ⟨y, hy, rfl⟩ := List.mem_map.1 hv
    exact h3 x hx y hy
theorem mg_loop (a b : List S31) (ha : a.length ≤ 4611686018427387900) (hb : b.length ≤ 4611686018427387900) : ∀ (m j : Nat), j + m = a.length → ∃ r K, (∀ k, K ≤ k → impl_Merged_1.l0 k a b (a.length : Int) (j : Int) = some r) ∧ -1 ≤ r ∧ (r < 0 ↔ disT (a.drop j) b) := by
  intro m
  induction m with
  | zero =>
    intro j hj
    refine ⟨-1, 1, fun k hk => ?_, by omega, ?_⟩
    · obtain ⟨k, rfl⟩ : ∃ q, k = q + 1 := ⟨k - 1, by omega⟩
      simp only [impl_Merged_1.l0]
      rw [if_neg (by omega)]
    · rw [List.drop_eq_nil_of_le (by omega)]
      constructor
      · intro _ x hx
        cases hx
      · intro _
        omega
  | succ m ih =>
    intro j hj
    have hlt : j < a.length := by omega
    have step : ∀ k, b.length < k → impl_Merged_1.l0 (k + 1) a b (a.length : Int) (j : Int) = if 0 ≤ findT a[j].f1 b 0 then some (j : Int) else impl_Merged_1.l0 k a b (a.length : Int) ((j + 1 : Nat) : Int) := by
      intro k hk
      simp only [impl_Merged_1.l0]
      unfold impl_Merged_1.c
      rw [if_pos (by omega), if_pos (by omega), if_pos (by omega), rdT_at hlt, seqAt_ok _ _ (by omega) k hk, Option.bind_some, Option.bind_some, wrap_id (by omega) (by omega)]
      by_cases h : 0 ≤ findT a[j].f1 b 0
      · rw [if_pos (by simp [h]), if_pos h]
      · rw [if_neg (by simp; omega), if_neg h]
        rfl
    have hmem : 0 ≤ findT a[j].f1 b 0 ↔ ∃ y ∈ b, y.f1 = a[j].f1 := by
      rw [findT_iff _ _ _ (by omega), List.mem_map]
    by_cases hf : 0 ≤ findT a[j].f1 b 0
    · refine ⟨j, b.length + 2, fun k hk => ?_, by omega, ?_⟩
      · obtain ⟨k, rfl⟩ : ∃ q, k = q + 1 := ⟨k - 1, by omega⟩
        rw [step k (by omega), if_pos hf]
      · constructor
        · intro h
          omega
        · intro h
          obtain ⟨y, hy, e⟩ := hmem.1 hf
          exact absurd e.symm (h a[j] (by rw [List.drop_eq_getElem_cons hlt]; exact List.mem_cons_self) y hy)
    · obtain ⟨r, K, e, hr, hi⟩ := ih (j + 1) (by omega)
      refine ⟨r, K + b.length + 2, fun k hk => ?_, hr, ?_⟩
      · obtain ⟨k, rfl⟩ : ∃ q, k = q + 1 := ⟨k - 1, by omega⟩
        rw [step k (by omega), if_neg hf, e k (by omega)]
      · rw [hi, List.drop_eq_getElem_cons hlt]
        constructor
        · intro h x hx y hy
          rcases List.mem_cons.1 hx with rfl | hx
          · intro e
            exact hf (hmem.2 ⟨y, hy, e.symm⟩)
          · exact h x hx y hy
        · intro h x hx y hy
          exact h x (List.mem_cons_of_mem _ hx) y hy
theorem mg_ok (a b : List S31) (ha : a.length ≤ 4611686018427387900) (hb : b.length ≤ 4611686018427387900) : ∃ r K, (∀ k, K ≤ k → impl_Merged_1.f k a b = some r) ∧ (r = false ↔ disT a b) := by
  obtain ⟨r, K, e, hr, hi⟩ := mg_loop a b ha hb a.length 0 (by omega)
  refine ⟨decide (0 ≤ r), K, fun k hk => ?_, ?_⟩
  · unfold impl_Merged_1.f impl_Merged_1.i
    have := e k hk
    rw [show ((0 : Nat) : Int) = 0 from rfl] at this
    rw [this, Option.bind_some]
  · rw [List.drop_zero] at hi
    rw [← hi]
    simp
/-- What the union of two heaps is. -/
structure MergedT (a b m : List S31) (ok : Bool) : Prop where
  yes : ok = true ↔ OkT a ∧ OkT b ∧ a.length + b.length ≤ 64 ∧ disT a b
  heap : ok = true → ∃ n, Hp m n
  keys : ok = true → (m.map keyT).Perm (a.map keyT ++ b.map keyT)
  none : ok = false → m = []
theorem merged_ok (a b : List S31) (ha : a.length ≤ 1048576) (hb : b.length ≤ 1048576) : ∃ m ok, MergedT a b m ok ∧ ∃ K, ∀ k, K ≤ k → spec_Merged.f k a b = some (m, ok) ∧ impl_Merged.f k a b = some (m, ok) := by
  obtain ⟨b1, K1, e1, h1⟩ := heapOk_ok a (by omega)
  obtain ⟨b2, K2, e2, h2⟩ := heapOk_ok b (by omega)
  have hw : wrap64 ((a.length : Int) + (b.length : Int)) = (a.length : Int) + (b.length : Int) := wrap_id (by omega) (by omega)
  have no : ¬ (OkT a ∧ OkT b ∧ a.length + b.length ≤ 64 ∧ disT a b) → MergedT a b [] false := fun h => ⟨⟨(fun e => by cases e), fun e => absurd e h⟩, (fun e => by cases e), (fun e => by cases e), fun _ => rfl⟩
  cases b1 with
  | false =>
    refine ⟨[], false, no (fun h => by have := h1.2 h.1; cases this), K1, fun k hk => ⟨?_, ?_⟩⟩
    · unfold spec_Merged.f
      rw [(e1 k hk).1]
      simp
    · unfold impl_Merged.f
      rw [(e1 k hk).2]
      simp
  | true =>
    cases b2 with
    | false =>
      refine ⟨[], false, no (fun h => by have := h2.2 h.2.1; cases this), K1 + K2, fun k hk => ⟨?_, ?_⟩⟩
      · unfold spec_Merged.f
        rw [(e1 k (by omega)).1, Option.bind_some, if_pos rfl, (e2 k (by omega)).1]
        simp
      · unfold impl_Merged.f
        rw [(e1 k (by omega)).2, Option.bind_some, if_pos rfl, (e2 k (by omega)).2]
        simp
    | true =>
      obtain ⟨la, na, pa, hpa⟩ := h1.1 rfl
      obtain ⟨lb, nb, pb, hpb⟩ := h2.1 rfl
      by_cases hlen : a.length + b.length ≤ 64
      · obtain ⟨r, K3, e3, h3⟩ := mg_ok a b (by omega) (by omega)
        obtain ⟨t, K4, e4, h4⟩ := twice_ok (a ++ b) (by rw [List.length_append]; omega)
        have hc := (copyT_ok a (by omega)).1
        by_cases hd : disT a b
        · obtain ⟨m, n, hm, hp, K5, e5⟩ := merge_ok _ a b pa pb (Nat.le_refl _) (by omega) hpa hpb hd
          obtain rfl : r = false := h3.2 hd
          obtain rfl : t = false := h4.2 (ndT_append.2 ⟨na, nb, hd⟩)
          refine ⟨m, true, ⟨⟨fun _ => ⟨h1.1 rfl, h2.1 rfl, hlen, hd⟩, fun _ => rfl⟩, fun _ => ⟨n, hm⟩, fun _ => hp, (fun e => by cases e)⟩, K1 + K2 + K3 + K4 + K5, fun k hk => ⟨?_, ?_⟩⟩
          · unfold spec_Merged.f
            rw [(e1 k (by omega)).1, Option.bind_some, if_pos rfl, (e2 k (by omega)).1, Option.bind_some, if_pos rfl, hw, if_neg (by omega), hc, Option.bind_some, if_pos (by omega), e4 k (by omega), Option.bind_some, if_neg (by simp), (e5 k (by omega)).1, Option.bind_some]
          · unfold impl_Merged.f
            rw [(e1 k (by omega)).2, Option.bind_some, if_pos rfl, (e2 k (by omega)).2, Option.bind_some, if_pos rfl, hw, if_neg (by omega), e3 k (by omega), Option.bind_some, if_neg (by simp), (e5 k (by omega)).2, Option.bind_some]
        · obtain rfl : r = true := by
            cases r with
            | true => rfl
            | false => exact absurd (h3.1 rfl) hd
          obtain rfl : t = true := by
            cases t with
            | true => rfl
            | false => exact absurd (ndT_append.1 (h4.1 rfl)).2.2 hd
          refine ⟨[], false, no (fun h => hd h.2.2.2), K1 + K2 + K3 + K4, fun k hk => ⟨?_, ?_⟩⟩
          · unfold spec_Merged.f
            rw [(e1 k (by omega)).1, Option.bind_some, if_pos rfl, (e2 k (by omega)).1, Option.bind_some, if_pos rfl, hw, if_neg (by omega), hc, Option.bind_some, if_pos (by omega), e4 k (by omega), Option.bind_some, if_pos rfl]
          · unfold impl_Merged.f
            rw [(e1 k (by omega)).2, Option.bind_some, if_pos rfl, (e2 k (by omega)).2, Option.bind_some, if_pos rfl, hw, if_neg (by omega), e3 k (by omega), Option.bind_some, if_pos rfl]
      · refine ⟨[], false, no (fun h => hlen h.2.2.1), K1 + K2, fun k hk => ⟨?_, ?_⟩⟩
        · unfold spec_Merged.f
          rw [(e1 k (by omega)).1, Option.bind_some, if_pos rfl, (e2 k (by omega)).1, Option.bind_some, if_pos rfl, hw, if_pos (by omega)]
        · unfold impl_Merged.f
          rw [(e1 k (by omega)).2, Option.bind_some, if_pos rfl, (e2 k (by omega)).2, Option.bind_some, if_pos rfl, hw, if_pos (by omega)]
theorem MergedT.len {a b m : List S31} {ok : Bool} (h : MergedT a b m ok) : m.length ≤ 64 := by
  cases ok with
  | false => rw [h.none rfl]; simp
  | true =>
    have h1 := (h.yes.1 rfl).2.2.1
    have h2 := (h.keys rfl).length_eq
    simp at h2
    omega
theorem put_ok (a : List S31) (d s : Int) (ha : a.length ≤ 1048576) : ∃ m ok, MergedT a [⟨d, s, 0⟩] m ok ∧ ∃ K, ∀ k, K ≤ k → spec_Put.f k a d s = some (m, ok) ∧ impl_Put.f k a d s = some (m, ok) := by
  obtain ⟨m, ok, h, K, e⟩ := merged_ok a [⟨d, s, 0⟩] ha (by simp)
  refine ⟨m, ok, h, K, fun k hk => ⟨?_, ?_⟩⟩
  · unfold spec_Put.f
    rw [(e k hk).1]
    rfl
  · unfold impl_Put.f
    rw [(e k hk).2]
    rfl
theorem sz_TwigS (l : List S69) (left : Int) (hl : 0 ≤ left) (hl2 : left ≤ 1048576) (hn : l.length ≤ 9223372036854775807) : laws_szTwigS.f l left = some (if (l.length : Int) ≤ left then left - (l.length : Int) else -1) := by
  unfold laws_szTwigS.f
  rw [wrap_id (by omega) (by omega)]
  by_cases h : (l.length : Int) ≤ left
  · rw [if_neg (by omega), if_pos h]
  · rw [if_pos (by omega), if_neg h]
/-- An element of the statements as one of the program. -/
def ofTwigS (x : S69) : S31 := ⟨x.f0, x.f1, x.f2⟩
theorem to_TwigS (l : List S69) (hn : l.length ≤ 1048576) : ∃ K, ∀ k, K ≤ k → laws_toTwigS.f k l = some (l.map ofTwigS) := by
  obtain ⟨K, e⟩ := ev_copy (fun k a b i => laws_toTwigS.l0 k a b i) ofTwigS z69 (fun k x0 x3 i => by
    show laws_toTwigS.l0 (k + 1) x0 x3 i = _
    simp only [laws_toTwigS.l0, laws_toTwig.f, Option.bind_some]
    rfl) l z31 (by omega)
  refine ⟨K, fun k hk => ?_⟩
  unfold laws_toTwigS.f
  rw [if_pos (by omega), if_pos (by omega), Int.toNat_natCast]
  exact e k hk
theorem eq_TwigS (l : List S31) (hn : l.length ≤ 4611686018427387904) : ∃ K, ∀ k, K ≤ k → laws_eqTwigS.f k l l = some true := by
  obtain ⟨K, e⟩ := ev_same (fun k a b i => laws_eqTwigS.l0 k a b i) l (fun k i h0 h1 => by
    show laws_eqTwigS.l0 (k + 1) l l i = laws_eqTwigS.l0 k l l (wrap64 (i + 1))
    generalize hw : laws_eqTwigS.l0 k l l (wrap64 (i + 1)) = R
    rw [laws_eqTwigS.l0, hw]
    simp [laws_eqTwig.f, h0, h1]) (fun k i h => by
    show laws_eqTwigS.l0 (k + 1) l l i = _
    rw [laws_eqTwigS.l0, if_neg h]) hn
  refine ⟨K, fun k hk => ?_⟩
  unfold laws_eqTwigS.f
  rw [if_pos rfl]
  exact e k hk
/-- The mark of an element. -/
def mkTwigS (c : Int) : S31 := ⟨c, wrap64 (c + 1), wrap64 ((wrap64 (c + 1)) + 1)⟩
def nxTwigS (c : Int) : Int := wrap64 ((wrap64 ((wrap64 (c + 1)) + 1)) + 1)
theorem nxTwigS_add (c : Int) (h0 : 0 ≤ c) (h1 : c ≤ 4611686018427387904) : nxTwigS c = c + 3 := by
  unfold nxTwigS wrap64
  omega
theorem mark_TwigS (l : List S31) (c : Int) (hc0 : 0 ≤ c) (hc : c ≤ 1000000000) (hn : l.length ≤ 2000000) : ∃ K, ∀ k, K ≤ k → laws_markTwigS.f k l c = some (c + 3 * (l.length : Int), marks mkTwigS nxTwigS l.length c) := by
  obtain ⟨K, e⟩ := ev_mark (fun k x0 c i => laws_markTwigS.l0 k x0 c i) mkTwigS nxTwigS (fun k x0 c i => by
    show laws_markTwigS.l0 (k + 1) x0 c i = _
    rw [laws_markTwigS.l0]
    by_cases h : i < (x0.length : Int)
    · by_cases h0 : 0 ≤ i
      · have hr : ∀ v, rd_T31 (x0.set i.toNat v) i = v := fun v => by
          unfold rd_T31
          rw [getD_lt _ (by rw [List.length_set]; omega), List.getElem_set_self]
        rw [if_pos h, if_pos h0, if_pos h, if_pos h0]
        try simp only [Option.bind_some, hr, List.set_set]
        rfl
      · rw [if_pos h, if_neg h0, if_pos h, if_neg h0]
    · rw [if_neg h, if_neg h]) l c (by omega)
  refine ⟨K, fun k hk => ?_⟩
  unfold laws_markTwigS.f
  rw [← endOf_add nxTwigS 3 (by omega) (by omega) (fun c h0 h1 => nxTwigS_add c h0 h1) l.length c (by omega) (by omega)]
  exact e k hk
theorem held_TwigS (n : Nat) (c : Int) (hc0 : 0 ≤ c) (hc : c ≤ 1000000000) (hn : n ≤ 2000000) : ∃ K, ∀ k, K ≤ k → laws_heldTwigS.f k (marks mkTwigS nxTwigS n c) c = some (c + 3 * (n : Int)) := by
  obtain ⟨K, e⟩ := ev_held (fun k x0 c i => laws_heldTwigS.l0 k x0 c i) mkTwigS nxTwigS z31 (fun k x0 c i h0 h1 he => by
    show laws_heldTwigS.l0 (k + 1) x0 c i = _
    have hr : rd_T31 x0 i = mkTwigS c := he
    rw [laws_heldTwigS.l0, if_pos h1, if_pos h0, hr]
    unfold mkTwigS nxTwigS
    simp) (fun k x0 c i h => by
    show laws_heldTwigS.l0 (k + 1) x0 c i = _
    rw [laws_heldTwigS.l0, if_neg h]) n c (by omega)
  refine ⟨K, fun k hk => ?_⟩
  unfold laws_heldTwigS.f
  rw [← endOf_add nxTwigS 3 (by omega) (by omega) (fun c h0 h1 => nxTwigS_add c h0 h1) n c (by omega) (by omega)]
  exact e k hk
theorem FnExactPut : ∀ (l0 : List (S69)) (a1 : Int) (a2 : Int), l0.length ≤ 9223372036854775807 → (∀ x_ ∈ l0, (wf64 x_.f0 ∧ wf64 x_.f1 ∧ wf64 x_.f2)) → wf64 a1 → wf64 a2 → ∃ k, laws_FnExactPut.f k l0 a1 a2 = some true := by
  intro l x1 x2 hn _ _ _
  by_cases h : l.length ≤ 1048576
  · have hX : (l.map ofTwigS).length = l.length := List.length_map ..
    obtain ⟨m, ok, hM, K0, e0⟩ := put_ok (l.map ofTwigS) x1 x2 (by omega)
    have hm := hM.len
    obtain ⟨K, q⟩ := both (to_TwigS l h) (both (⟨K0, e0⟩) (both (eq_TwigS (l.map ofTwigS) (by omega)) (both (mark_TwigS (l.map ofTwigS) 1 (by omega) (by omega) (by omega)) (both (eq_TwigS m (by omega)) (both (mark_TwigS m 1 (by omega) (by omega) (by omega)) (held_TwigS m.length 1 (by omega) (by omega) (by omega)))))))
    have a0 := q K (by omega)
    have a1 := q (K + 1) (by omega)
    have a2 := q (K + 2) (by omega)
    have a3 := q (K + 3) (by omega)
    have z1 : ¬ (1048576 - (l.length : Int) < 0) := by omega
    have z2 : ¬ (1 + 3 * ((l.map ofTwigS).length : Int) < 0) := by omega
    have z3 : ¬ (1 + 3 * (m.length : Int) < 0) := by omega
    refine ⟨K + 3, ?_⟩
    clear q hX hm hM e0
    unfold laws_FnExactPut.f
    rw [sz_TwigS l 1048576 (by omega) (by omega) hn, if_pos (by omega)]
    simp only [Option.bind_some, z1, if_false]
    simp only [Option.bind_some, if_false, a0, a1, a2, a3, if_true, bne_self_eq_false, laws_FnExactPut.j0, laws_FnExactPut.j1, laws_FnExactPut.j2, Bool.false_eq_true, z2, z3]
  · refine ⟨0, ?_⟩
    unfold laws_FnExactPut.f
    rw [sz_TwigS l 1048576 (by omega) (by omega) hn, if_neg (by omega)]
    simp
end Go.Proofs.Ytljfflhbabkbgaa.Pure
