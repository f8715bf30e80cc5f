/- RankOf of the program and of the reference return the same for all elements, and the elements stay as they were; no condition. -/
import Derived.Test.YtljfflhbabkbgaaOpen
import Derived.Test.YtljfflhbabkbgaaPLib
import Derived.Test.YtljfflhbabkbgaaPFnExactRankOfx7
namespace Go.Proofs.Ytljfflhbabkbgaa.Pure
open Go.RowKit Go.Proofs.YtljfflhbabkbgaaOpen Go.Proofs.YtljfflhbabkbgaaPLib Go.Proofs.Ytljfflhbabkbgaa.PFnExactRankOf Go.Proofs.YtljfflhbabkbgaaW.PrintWords Go.Proofs.YtljfflhbabkbgaaW.PrintLast
set_option linter.unusedVariables false
set_option linter.unusedSimpArgs false

/-- Ahead of: by the time, then by the number. -/
def ah (a b : S31) : Bool := decide (a.f0 < b.f0) || (decide (a.f0 = b.f0) && decide (a.f1 < b.f1))
theorem ah_iff {a b : S31} : ah a b = true ↔ a.f0 < b.f0 ∨ (a.f0 = b.f0 ∧ a.f1 < b.f1) := by simp [ah]
theorem ah_trans {a b c : S31} (h : ah a b = true) (k : ah b c = true) : ah a c = true := by
  rw [ah_iff] at *
  omega
theorem ah_irrefl (a : S31) : ah a a = false := by
  rw [← Bool.not_eq_true, ah_iff]
  omega
theorem ah_asymm {a b : S31} (h : ah a b = true) : ah b a = false := by
  rw [← Bool.not_eq_true]
  rw [ah_iff] at *
  omega
theorem ah_total {a b : S31} (h : a.f1 ≠ b.f1) : ah a b = true ∨ ah b a = true := by
  rw [ah_iff, ah_iff]
  omega
/-- What counts of an element. -/
def keyT (x : S31) : Int × Int := (x.f0, x.f1)
theorem ah_key {a b c d : S31} (h : keyT a = keyT c) (k : keyT b = keyT d) : ah a b = ah c d := by
  unfold keyT at h k
  injection h with h1 h2
  injection k with k1 k2
  unfold ah
  rw [h1, h2, k1, k2]
/-- A root is ahead of the first of a list, where it has one. -/
def ahd (x : S31) (l : List S31) : Prop := ∀ y t, l = y :: t → ah x y = true
/-- A leftist heap and its rank. -/
inductive Hp : List S31 → Nat → Prop
  | nil : Hp [] 0
  | node {x : S31} {l r : List S31} {a b : Nat} : Hp l a → Hp r b → b ≤ a → x.f2 = (l.length : Int) → ahd x l → ahd x r → Hp (x :: (l ++ r)) (b + 1)
theorem Hp.cons {x : S31} {t : List S31} {n : Nat} (h : Hp (x :: t) n) : ∃ l r a b, t = l ++ r ∧ n = b + 1 ∧ Hp l a ∧ Hp r b ∧ b ≤ a ∧ x.f2 = (l.length : Int) ∧ ahd x l ∧ ahd x r := by
  generalize e : x :: t = h0 at h
  cases h with
  | nil => cases e
  | node h1 h2 h3 h4 h5 h6 =>
    injection e with e1 e2
    subst e1
    exact ⟨_, _, _, _, e2, rfl, h1, h2, h3, h4, h5, h6⟩
theorem Hp.one (x : S31) (h : x.f2 = 0) : Hp [x] 1 := Hp.node (l := []) (r := []) Hp.nil Hp.nil (Nat.le_refl 0) h (fun _ _ e => by cases e) (fun _ _ e => by cases e)
theorem Hp.rank_nil {n : Nat} (h : Hp [] n) : n = 0 := by cases h; rfl
/-- The left and the right heap. -/
theorem Hp.parts {x : S31} {t : List S31} {n : Nat} (h : Hp (x :: t) n) : 0 ≤ x.f2 ∧ x.f2 ≤ (t.length : Int) ∧ ∃ a b, n = b + 1 ∧ Hp (t.take x.f2.toNat) a ∧ Hp (t.drop x.f2.toNat) b ∧ b ≤ a ∧ ahd x (t.take x.f2.toNat) ∧ ahd x (t.drop x.f2.toNat) := by
  obtain ⟨l, r, a, b, rfl, rfl, h1, h2, h3, h4, h5, h6⟩ := h.cons
  have e : x.f2.toNat = l.length := by omega
  refine ⟨by omega, by rw [h4, List.length_append]; omega, a, b, rfl, ?_, ?_, h3, ?_, ?_⟩ <;> rw [e] <;> simp [h1, h2, h5, h6]
theorem Hp.uniq : ∀ {h : List S31} {n m : Nat}, Hp h n → Hp h m → n = m := by
  intro h
  generalize hN : h.length = N
  induction N using Nat.strongRecOn generalizing h with
  | _ N ih =>
    intro n m h1 h2
    cases h with
    | nil => rw [h1.rank_nil, h2.rank_nil]
    | cons x t =>
      obtain ⟨_, _, a, b, rfl, _, hb, _⟩ := h1.parts
      obtain ⟨_, _, a', b', rfl, _, hb', _⟩ := h2.parts
      have := ih (t.drop x.f2.toNat).length (by rw [List.length_drop]; simp at hN; omega) rfl hb hb'
      omega
/-- The root is ahead of all. -/
theorem Hp.least : ∀ {x : S31} {t : List S31} {n : Nat}, Hp (x :: t) n → ∀ y ∈ t, ah x y = true := by
  intro x t
  generalize hN : t.length = N
  induction N using Nat.strongRecOn generalizing x t with
  | _ N ih =>
    intro n h y hy
    obtain ⟨l, r, a, b, rfl, rfl, h1, h2, h3, h4, h5, h6⟩ := h.cons
    have side : ∀ (s : List S31) (c : Nat), s.length ≤ N → Hp s c → ahd x s → y ∈ s → ah x y = true := by
      intro s c hs hH hx hy
      cases s with
      | nil => cases hy
      | cons z s =>
        have e := hx z s rfl
        rcases List.mem_cons.1 hy with rfl | hy
        · exact e
        · exact ah_trans e (ih s.length (by simp at hs; omega) rfl hH y hy)
    rw [List.length_append] at hN
    rcases List.mem_append.1 hy with hy | hy
    · exact side l a (by omega) h1 h5 hy
    · exact side r b (by omega) h2 h6 hy
theorem pow_step (b : Nat) : 2 ^ (b + 1) = 2 * 2 ^ b := by rw [Nat.pow_succ, Nat.mul_comm]
/-- A heap of rank n has at least 2^n - 1 elements. -/
theorem Hp.big : ∀ {h : List S31} {n : Nat}, Hp h n → 2 ^ n ≤ h.length + 1 := by
  intro h n hh
  induction hh with
  | nil => exact Nat.le_refl _
  | @node x l r a b h1 h2 h3 h4 h5 h6 i1 i2 =>
    have : 2 ^ b ≤ 2 ^ a := Nat.pow_le_pow_right (by omega) h3
    rw [pow_step, List.length_cons, List.length_append]
    omega
theorem Hp.rank_le {h : List S31} {n : Nat} (hh : Hp h n) : n ≤ h.length := by
  have h1 := hh.big
  have h2 : n < 2 ^ n := Nat.lt_two_pow_self
  omega
/-- A root over two heaps, the one of the greater rank left. -/
def joinT (x : S31) (l m : List S31) (p q : Nat) : List S31 := if p < q then ⟨x.f0, x.f1, (m.length : Int)⟩ :: (m ++ l) else ⟨x.f0, x.f1, (l.length : Int)⟩ :: (l ++ m)
theorem joinT_hp {x : S31} {l m : List S31} {p q : Nat} (h1 : Hp l p) (h2 : Hp m q) (h3 : ∀ y ∈ l, ah x y = true) (h4 : ∀ y ∈ m, ah x y = true) : ∃ n, Hp (joinT x l m p q) n := by
  have f : ∀ (s : List S31), (∀ y ∈ s, ah x y = true) → ∀ c, ahd ⟨x.f0, x.f1, c⟩ s := by
    rintro s hs c y t rfl
    exact (ah_key (a := ⟨x.f0, x.f1, c⟩) (b := y) (c := x) (d := y) rfl rfl).trans (hs y (by simp))
  unfold joinT
  split
  · exact ⟨_, Hp.node h2 h1 (by omega) rfl (f m h4 _) (f l h3 _)⟩
  · exact ⟨_, Hp.node h1 h2 (by omega) rfl (f l h3 _) (f m h4 _)⟩
theorem joinT_perm (x : S31) (l m : List S31) (p q : Nat) : ((joinT x l m p q).map keyT).Perm (keyT x :: (l.map keyT ++ m.map keyT)) := by
  unfold joinT
  split
  · rw [List.map_cons, List.map_append]
    exact List.Perm.cons _ List.perm_append_comm
  · rw [List.map_cons, List.map_append]
    exact List.Perm.refl _
theorem joinT_length (x : S31) (l m : List S31) (p q : Nat) : (joinT x l m p q).length = l.length + m.length + 1 := by
  unfold joinT
  split <;> simp <;> omega
/-- What is ahead of all keys of a list is ahead of a list of the same keys. -/
theorem ah_perm {x : S31} {l m : List S31} (h : (m.map keyT).Perm (l.map keyT)) (k : ∀ y ∈ l, ah x y = true) : ∀ y ∈ m, ah x y = true := by
  intro y hy
  have : keyT y ∈ l.map keyT := h.subset (List.mem_map_of_mem hy)
  obtain ⟨z, hz, e⟩ := List.mem_map.1 this
  exact (ah_key (a := x) (b := y) (c := x) (d := z) rfl e.symm).trans (k z hz)
theorem perm_length {l m : List S31} (h : (m.map keyT).Perm (l.map keyT)) : m.length = l.length := by
  have := h.length_eq
  simpa using this
theorem seq_perm {l m : List S31} (h : (m.map keyT).Perm (l.map keyT)) : (m.map S31.f1).Perm (l.map S31.f1) := by
  have := h.map Prod.snd
  simpa [List.map_map, Function.comp_def, keyT] using this
theorem rdT_cons (x : S31) (t : List S31) : rd_T31 (x :: t) 0 = x := rfl
theorem rdT_at {l : List S31} {j : Nat} (h : j < l.length) : rd_T31 l (j : Int) = l[j] := by
  unfold rd_T31
  rw [Int.toNat_natCast, getD_lt _ h]
theorem l1In_ok (a lo hi : Int) : spec_l1In.f a lo hi = some (decide (lo ≤ a) && decide (a ≤ hi)) := by
  unfold spec_l1In.f
  by_cases h : lo ≤ a <;> simp [h]
theorem within_ok (a lo hi : Int) : impl_within.f a lo hi = some (decide (lo ≤ a) && decide (a ≤ hi)) := by
  unfold impl_within.f
  by_cases h : lo ≤ a <;> simp [h]
theorem cut_head (x : S31) (t : List S31) (h0 : 0 ≤ x.f2) (h2 : x.f2 ≤ 4611686018427387904) : (wrap64 (1 + x.f2)).toNat = x.f2.toNat + 1 ∧ wrap64 (1 + x.f2) = 1 + x.f2 := by
  rw [wrap_id (by omega) (by omega)]
  omega
theorem parts_ok {x : S31} {t : List S31} (h0 : 0 ≤ x.f2) (h1 : x.f2 ≤ (t.length : Int)) (hn : t.length ≤ 4611686018427387904) : impl_parts.f (x :: t) = some (t.take x.f2.toNat, t.drop x.f2.toNat) := by
  obtain ⟨e1, e2⟩ := cut_head x t h0 (by omega)
  unfold impl_parts.f
  rw [rdT_cons, e1, e2, if_pos (by simp), if_pos (by omega), if_pos (by simp; omega), if_pos (by omega)]
  rfl
theorem sparts_ok {x : S31} {t : List S31} (h0 : 0 ≤ x.f2) (h1 : x.f2 ≤ (t.length : Int)) (hn : t.length ≤ 4611686018427387904) : spec_l3Parts.f (x :: t) = some (t.take x.f2.toNat, t.drop x.f2.toNat, true) := by
  obtain ⟨e1, e2⟩ := cut_head x t h0 (by omega)
  unfold spec_l3Parts.f
  rw [rdT_cons, e1, e2, if_pos (by simp), l1In_ok, Option.bind_some, if_pos (by
    rw [List.length_cons, wrap_id (by omega) (by omega)]
    simp
    omega), if_pos (by omega), if_pos (by simp; omega), if_pos (by omega)]
  rfl
theorem sparts_no {x : S31} {t : List S31} (h : ¬ (0 ≤ x.f2 ∧ x.f2 ≤ (t.length : Int))) (hn : t.length ≤ 4611686018427387904) : spec_l3Parts.f (x :: t) = some ([], [], false) := by
  unfold spec_l3Parts.f
  rw [rdT_cons, if_pos (by simp), l1In_ok, Option.bind_some, if_neg (by
    rw [List.length_cons, wrap_id (by omega) (by omega)]
    simp
    omega)]
theorem sahead_ok (a b : S31) : spec_l3Ahead.f a.f0 a.f1 a.f2 b.f0 b.f1 b.f2 = some (ah a b) := by
  unfold spec_l3Ahead.f ah
  by_cases h : a.f0 < b.f0
  · simp [h]
  · by_cases e : a.f0 = b.f0 <;> simp [h, e]
/-- What the comparison of two elements tells. -/
def cmpT (a b : S31) : Int := if a.f0 < b.f0 then -1 else if b.f0 < a.f0 then 1 else if a.f1 < b.f1 then -1 else if b.f1 < a.f1 then 1 else 0
theorem cmpT_neg (a b : S31) : decide (cmpT a b < 0) = ah a b := by
  rw [Bool.eq_iff_iff, ah_iff, decide_eq_true_iff]
  unfold cmpT
  split
  · simp; omega
  · split
    · simp; omega
    · split
      · simp; omega
      · split <;> simp <;> omega
theorem compare1_ok (a b : Int) : cmp_Compare_int64.f a b = some (if a < b then -1 else if b < a then 1 else 0) := by
  unfold cmp_Compare_int64.f cmp_isNaN_int64.f
  simp only [bne_self_eq_false, Option.bind_some]
  rw [if_neg (by simp), if_neg (by simp)]
  by_cases h : a < b
  · rw [if_pos h, if_pos h]
  · rw [if_neg h, if_neg h]
    by_cases h2 : b < a
    · rw [if_pos (by omega), if_pos h2]
    · rw [if_neg (by omega), if_neg h2]
theorem or_ok (p q : Int) (k : Nat) : cmp_Or_int.f (k + 3) [p, q] = some (if p = 0 then q else p) := by
  unfold cmp_Or_int.f
  have w1 : wrap64 (0 + 1) = 1 := by unfold wrap64; omega
  have w2 : wrap64 (1 + 1) = 2 := by unfold wrap64; omega
  have r0 : rd [p, q] 0 = p := rfl
  have r1 : rd [p, q] 1 = q := rfl
  simp only [cmp_Or_int.l0]
  rw [r0, w1, w2, r1]
  by_cases hp : p = 0
  · by_cases hq : q = 0
    · simp [hp, hq]
    · simp [hp, hq]
  · simp [hp]
theorem compare_ok (a b : S31) (k : Nat) (hk : 3 ≤ k) : impl_Twig_compare.f k a.f0 a.f1 a.f2 b.f0 b.f1 b.f2 = some (cmpT a b) := by
  obtain ⟨k, rfl⟩ : ∃ m, k = m + 3 := ⟨k - 3, by omega⟩
  unfold impl_Twig_compare.f
  rw [compare1_ok, compare1_ok, Option.bind_some, Option.bind_some, or_ok, Option.bind_some]
  unfold cmpT
  congr 1
  by_cases h : a.f0 < b.f0
  · simp [h]
  · by_cases h2 : b.f0 < a.f0 <;> simp [h, h2]
theorem size_ok (l : List S31) : impl_Twig_85.f l = some (l.length : Int) := rfl
/-- The head of a list, where there is one, is behind the root. -/
def okh (x : S31) : List S31 → Bool
  | [] => true
  | y :: _ => ah x y
theorem okh_iff {x : S31} {l : List S31} : okh x l = true ↔ ahd x l := by
  cases l with
  | nil => simp [okh, ahd]
  | cons y t =>
    unfold okh ahd
    constructor
    · intro h z s e
      injection e with e1 _
      subst e1
      exact h
    · intro h
      exact h y t rfl
theorem srank_cons (k : Nat) (x : S31) (t : List S31) (h0 : 0 ≤ x.f2) (h1 : x.f2 ≤ (t.length : Int)) (hn : t.length ≤ 4611686018427387904) :
    spec_l3Rank.f (k + 1) (x :: t) = spec_l3Rank.j0 k (t.take x.f2.toNat) (t.drop x.f2.toNat) (!(okh x (t.take x.f2.toNat) && okh x (t.drop x.f2.toNat))) := by
  simp only [spec_l3Rank.f]
  rw [sparts_ok h0 h1 hn, Option.bind_some, if_neg (by simp; omega)]
  generalize t.take x.f2.toNat = l
  generalize t.drop x.f2.toNat = r
  rw [rdT_cons, if_pos rfl]
  cases l with
  | nil =>
    cases r with
    | nil => simp [okh]
    | cons z r =>
      simp [okh, rdT_cons, sahead_ok]
  | cons y l =>
    rw [rdT_cons, sahead_ok]
    cases r with
    | nil => cases e : ah x y <;> simp [okh, e]
    | cons z r =>
      rw [rdT_cons, sahead_ok]
      cases e : ah x y <;> simp [okh, e]
theorem srank_ok : ∀ (N : Nat) (h : List S31), h.length ≤ N → N ≤ 4611686018427387904 → ∃ r K, (∀ k, K ≤ k → spec_l3Rank.f k h = some r) ∧ ((r = -1 ∧ ∀ n, ¬ Hp h n) ∨ ∃ n : Nat, r = (n : Int) ∧ Hp h n) := by
  intro N
  induction N with
  | zero =>
    intro h hl hN
    obtain rfl : h = [] := List.length_eq_zero_iff.1 (by omega)
    refine ⟨0, 1, fun k hk => ?_, .inr ⟨0, rfl, Hp.nil⟩⟩
    obtain ⟨k, rfl⟩ : ∃ q, k = q + 1 := ⟨k - 1, by omega⟩
    simp [spec_l3Rank.f]
  | succ N ih =>
    intro h hl hN
    cases h with
    | nil =>
      refine ⟨0, 1, fun k hk => ?_, .inr ⟨0, rfl, Hp.nil⟩⟩
      obtain ⟨k, rfl⟩ : ∃ q, k = q + 1 := ⟨k - 1, by omega⟩
      simp [spec_l3Rank.f]
    | cons x t =>
      rw [List.length_cons] at hl
      by_cases hin : 0 ≤ x.f2 ∧ x.f2 ≤ (t.length : Int)
      · have hs := fun k => srank_cons k x t hin.1 hin.2 (by omega)
        cases hb : (okh x (t.take x.f2.toNat) && okh x (t.drop x.f2.toNat)) with
        | false =>
          refine ⟨-1, 2, fun k hk => ?_, .inl ⟨rfl, fun n hn => ?_⟩⟩
          · obtain ⟨k, rfl⟩ : ∃ q, k = q + 2 := ⟨k - 2, by omega⟩
            rw [hs, hb]
            simp [spec_l3Rank.j0]
          · obtain ⟨_, _, _, _, _, _, _, _, h5, h6⟩ := hn.parts
            rw [okh_iff.2 h5, okh_iff.2 h6] at hb
            cases hb
        | true =>
          obtain ⟨a, K1, e1, c1⟩ := ih (t.take x.f2.toNat) (by rw [List.length_take]; omega) (by omega)
          obtain ⟨b, K2, e2, c2⟩ := ih (t.drop x.f2.toNat) (by rw [List.length_drop]; omega) (by omega)
          rw [Bool.and_eq_true] at hb
          have step : ∀ k, K1 + K2 + 2 ≤ k → spec_l3Rank.f k (x :: t) = if a < 0 then some (-1) else (if b < 0 then some (-1) else (if a < b then some (-1) else some (wrap64 (b + 1)))) := by
            intro k hk
            obtain ⟨k, rfl⟩ : ∃ q, k = q + 2 := ⟨k - 2, by omega⟩
            rw [hs, hb.1, hb.2]
            simp only [spec_l3Rank.j0]
            rw [if_neg (by simp), e1 k (by omega), e2 k (by omega), Option.bind_some, Option.bind_some]
          rcases c1 with ⟨rfl, c1⟩ | ⟨na, rfl, c1⟩
          · refine ⟨-1, K1 + K2 + 2, fun k hk => by rw [step k hk, if_pos (by omega)], .inl ⟨rfl, fun n hn => ?_⟩⟩
            obtain ⟨_, _, p, q, _, hp, _⟩ := hn.parts
            exact c1 p hp
          · rcases c2 with ⟨rfl, c2⟩ | ⟨nb, rfl, c2⟩
            · refine ⟨-1, K1 + K2 + 2, fun k hk => by rw [step k hk, if_neg (by omega), if_pos (by omega)], .inl ⟨rfl, fun n hn => ?_⟩⟩
              obtain ⟨_, _, p, q, _, _, hq, _⟩ := hn.parts
              exact c2 q hq
            · by_cases hab : na < nb
              · refine ⟨-1, K1 + K2 + 2, fun k hk => by rw [step k hk, if_neg (by omega), if_neg (by omega), if_pos (by omega)], .inl ⟨rfl, fun n hn => ?_⟩⟩
                obtain ⟨_, _, p, q, _, hp, hq, hpq, _⟩ := hn.parts
                have := hp.uniq c1
                have := hq.uniq c2
                omega
              · have hr := c2.rank_le
                rw [List.length_drop] at hr
                refine ⟨(nb : Int) + 1, K1 + K2 + 2, fun k hk => by rw [step k hk, if_neg (by omega), if_neg (by omega), if_neg (by omega), wrap_id (by omega) (by omega)], .inr ⟨nb + 1, by omega, ?_⟩⟩
                have := Hp.node (x := x) c1 c2 (by omega) (by rw [List.length_take]; omega) (okh_iff.1 hb.1) (okh_iff.1 hb.2)
                rwa [List.take_append_drop] at this
      · refine ⟨-1, 2, fun k hk => ?_, .inl ⟨rfl, fun n hn => hin ⟨hn.parts.1, hn.parts.2.1⟩⟩⟩
        obtain ⟨k, rfl⟩ : ∃ q, k = q + 2 := ⟨k - 2, by omega⟩
        simp only [spec_l3Rank.f]
        rw [sparts_no hin (by omega), Option.bind_some, if_neg (by simp; omega), if_neg (by simp)]
        simp [spec_l3Rank.j0]
theorem srank_hp {h : List S31} {n : Nat} (hh : Hp h n) (hn : h.length ≤ 4611686018427387904) : ∃ K, ∀ k, K ≤ k → spec_l3Rank.f k h = some (n : Int) := by
  obtain ⟨r, K, e, c⟩ := srank_ok _ h (Nat.le_refl _) hn
  rcases c with ⟨_, c⟩ | ⟨m, rfl, c⟩
  · exact absurd hh (c n)
  · rw [hh.uniq c]
    exact ⟨K, e⟩
theorem rank_loop : ∀ (n : Nat) (h : List S31) (c : Int), Hp h n → h.length ≤ 4611686018427387904 → 0 ≤ c → c + n ≤ 4611686018427387904 → ∀ k, n < k → impl_rank.l0 k h c = some (c + n) := by
  intro n
  induction n with
  | zero =>
    intro h c hh hl h0 h1 k hk
    obtain ⟨k, rfl⟩ : ∃ q, k = q + 1 := ⟨k - 1, by omega⟩
    have : h = [] := by
      cases h with
      | nil => rfl
      | cons x t =>
        obtain ⟨_, _, _, _, e, _⟩ := hh.parts
        omega
    subst this
    simp [impl_rank.l0]
  | succ n ih =>
    intro h c hh hl h0 h1 k hk
    obtain ⟨k, rfl⟩ : ∃ q, k = q + 1 := ⟨k - 1, by omega⟩
    cases h with
    | nil => have := hh.rank_nil; omega
    | cons x t =>
      obtain ⟨p0, p1, a, b, e, _, hb, _⟩ := hh.parts
      obtain rfl : n = b := by omega
      rw [List.length_cons] at hl
      simp only [impl_rank.l0]
      rw [if_pos (by simp), parts_ok p0 p1 (by omega), Option.bind_some, wrap_id (by omega) (by omega), ih _ _ hb (by rw [List.length_drop]; omega) (by omega) (by omega) k (by omega)]
      congr 1
      omega
theorem rank_hp {h : List S31} {n : Nat} (hh : Hp h n) (hn : h.length ≤ 4611686018427387903) : ∀ k, n < k → impl_rank.f k h = some (n : Int) := by
  intro k hk
  unfold impl_rank.f
  have := hh.rank_le
  rw [rank_loop n h 0 hh (by omega) (by omega) (by omega) k hk]
  congr 1
  omega
theorem ne1 (l : List S31) : ¬ ((l.length : Int) + 1 = 0) := by omega
theorem isheap_j0 (k : Nat) (x : S31) (t l r : List S31) (hk : 3 ≤ k) : impl_isHeap.j0 (k + 1) (x :: t) l r false = some (okh x l && okh x r) := by
  simp only [impl_isHeap.j0]
  rw [if_neg (by simp), rdT_cons]
  cases l with
  | nil =>
    cases r with
    | nil => simp [ne1, okh]
    | cons z r =>
      rw [rdT_cons, compare_ok x z k hk]
      simp [ne1, okh, cmpT_neg]
  | cons y l =>
    rw [rdT_cons, compare_ok x y k hk]
    have e := cmpT_neg x y
    cases r with
    | nil =>
      by_cases c : cmpT x y < 0
      · simp [c] at e
        simp [ne1, okh, ← e, c]
      · simp [c] at e
        simp [ne1, okh, ← e, c]
    | cons z r =>
      rw [rdT_cons, compare_ok x z k hk]
      by_cases c : cmpT x y < 0
      · simp [c] at e
        simp [ne1, okh, ← e, c, cmpT_neg]
      · simp [c] at e
        simp [ne1, okh, e, c]
theorem isheap_j1 (k : Nat) (x l r : List S31) : impl_isHeap.j0 (k + 1) x l r true = some false := by
  simp [impl_isHeap.j0]
theorem isheap_ok : ∀ (N : Nat) (h : List S31), h.length ≤ N → N ≤ 4611686018427387900 → ∃ b K, (∀ k, K ≤ k → impl_isHeap.f k h = some b) ∧ (b = true ↔ ∃ n, Hp h n) := by
  intro N
  have nil : ∃ b K, (∀ k, K ≤ k → impl_isHeap.f k [] = some b) ∧ (b = true ↔ ∃ n, Hp [] n) := by
    refine ⟨true, 1, fun k hk => ?_, by simp; exact ⟨0, Hp.nil⟩⟩
    obtain ⟨k, rfl⟩ : ∃ q, k = q + 1 := ⟨k - 1, by omega⟩
    simp [impl_isHeap.f]
  induction N with
  | zero =>
    intro h hl hN
    obtain rfl : h = [] := List.length_eq_zero_iff.1 (by omega)
    exact nil
  | succ N ih =>
    intro h hl hN
    cases h with
    | nil => exact nil
    | cons x t =>
      rw [List.length_cons] at hl
      have hw : wrap64 (((x :: t).length : Int) - 1) = (t.length : Int) := by
        rw [List.length_cons, wrap_id (by omega) (by omega)]
        omega
      by_cases hin : 0 ≤ x.f2 ∧ x.f2 ≤ (t.length : Int)
      · obtain ⟨a, K1, e1, c1⟩ := ih (t.take x.f2.toNat) (by rw [List.length_take]; omega) (by omega)
        obtain ⟨b, K2, e2, c2⟩ := ih (t.drop x.f2.toNat) (by rw [List.length_drop]; omega) (by omega)
        have step : ∀ k, K1 + K2 ≤ k → impl_isHeap.f (k + 1) (x :: t) = if a = true then (if b = true then ((impl_rank.f k (t.take x.f2.toNat)).bind fun p => ((impl_rank.f k (t.drop x.f2.toNat)).bind fun q => impl_isHeap.j0 k (x :: t) (t.take x.f2.toNat) (t.drop x.f2.toNat) (decide (p < q)))) else impl_isHeap.j0 k (x :: t) (t.take x.f2.toNat) (t.drop x.f2.toNat) true) else impl_isHeap.j0 k (x :: t) (t.take x.f2.toNat) (t.drop x.f2.toNat) true := by
          intro k hk
          simp only [impl_isHeap.f]
          rw [if_neg (by simp; omega), if_pos (by simp), size_ok, Option.bind_some, hw, rdT_cons, within_ok, Option.bind_some, if_pos (by simp; omega), parts_ok hin.1 hin.2 (by omega), Option.bind_some]
          simp only
          rw [e1 k (by omega), Option.bind_some]
          by_cases ha : a = true
          · rw [if_pos ha, if_pos ha, e2 k (by omega), Option.bind_some]
          · rw [if_neg ha, if_neg ha]
        by_cases ha : a = true
        · by_cases hb : b = true
          · obtain ⟨na, h1⟩ := c1.1 ha
            obtain ⟨nb, h2⟩ := c2.1 hb
            have ha2 := h1.rank_le
            have hb2 := h2.rank_le
            rw [List.length_take] at ha2
            rw [List.length_drop] at hb2
            have step2 : ∀ k, K1 + K2 + na + nb + 5 ≤ k → impl_isHeap.f (k + 1) (x :: t) = impl_isHeap.j0 k (x :: t) (t.take x.f2.toNat) (t.drop x.f2.toNat) (decide ((na : Int) < nb)) := by
              intro k hk
              rw [step k (by omega), if_pos ha, if_pos hb, rank_hp h1 (by rw [List.length_take]; omega) k (by omega), rank_hp h2 (by rw [List.length_drop]; omega) k (by omega), Option.bind_some, Option.bind_some]
            by_cases hab : na < nb
            · refine ⟨false, K1 + K2 + na + nb + 7, fun k hk => ?_, ?_⟩
              · obtain ⟨k, rfl⟩ : ∃ q, k = q + 2 := ⟨k - 2, by omega⟩
                rw [step2 _ (by omega), decide_eq_true (by omega), isheap_j1]
              · constructor
                · intro h; cases h
                · rintro ⟨n, hn⟩
                  obtain ⟨_, _, p, q, _, hp, hq, hpq, _⟩ := hn.parts
                  have := hp.uniq h1
                  have := hq.uniq h2
                  omega
            · refine ⟨okh x (t.take x.f2.toNat) && okh x (t.drop x.f2.toNat), K1 + K2 + na + nb + 7, fun k hk => ?_, ?_⟩
              · obtain ⟨k, rfl⟩ : ∃ q, k = q + 2 := ⟨k - 2, by omega⟩
                rw [step2 _ (by omega), decide_eq_false (by omega), isheap_j0 _ _ _ _ _ (by omega)]
              · rw [Bool.and_eq_true, okh_iff, okh_iff]
                constructor
                · rintro ⟨g1, g2⟩
                  have := Hp.node (x := x) h1 h2 (by omega) (by rw [List.length_take]; omega) g1 g2
                  rw [List.take_append_drop] at this
                  exact ⟨_, this⟩
                · rintro ⟨n, hn⟩
                  obtain ⟨_, _, p, q, _, _, _, _, g1, g2⟩ := hn.parts
                  exact ⟨g1, g2⟩
          · refine ⟨false, K1 + K2 + 2, fun k hk => ?_, ?_⟩
            · obtain ⟨k, rfl⟩ : ∃ q, k = q + 2 := ⟨k - 2, by omega⟩
              rw [step _ (by omega), if_pos ha, if_neg hb, isheap_j1]
            · constructor
              · intro h; cases h
              · rintro ⟨n, hn⟩
                obtain ⟨_, _, p, q, _, hp, hq, _⟩ := hn.parts
                exact absurd (c2.2 ⟨_, hq⟩) hb
        · refine ⟨false, K1 + K2 + 2, fun k hk => ?_, ?_⟩
          · obtain ⟨k, rfl⟩ : ∃ q, k = q + 2 := ⟨k - 2, by omega⟩
            rw [step _ (by omega), if_neg ha, isheap_j1]
          · constructor
            · intro h; cases h
            · rintro ⟨n, hn⟩
              obtain ⟨_, _, p, q, _, hp, hq, _⟩ := hn.parts
              exact absurd (c1.2 ⟨_, hp⟩) ha
      · refine ⟨false, 1, fun k hk => ?_, ?_⟩
        · obtain ⟨k, rfl⟩ : ∃ q, k = q + 1 := ⟨k - 1, by omega⟩
          simp only [impl_isHeap.f]
          rw [if_neg (by simp; omega), if_pos (by simp), size_ok, Option.bind_some, hw, rdT_cons, within_ok, Option.bind_some, if_neg (by simp; omega)]
        · constructor
          · intro h; cases h
          · rintro ⟨n, hn⟩
            exact absurd ⟨hn.parts.1, hn.parts.2.1⟩ hin
/-- The place of a number, from i on. -/
def findT (q : Int) : List S31 → Int → Int
  | [], _ => -1
  | x :: t, i => if x.f1 = q then i else findT q t (i + 1)
theorem findT_iff (q : Int) : ∀ (l : List S31) (i : Int), 0 ≤ i → (0 ≤ findT q l i ↔ q ∈ l.map S31.f1) := by
  intro l
  induction l with
  | nil => intro i _; simp [findT]
  | cons x t ih =>
    intro i hi
    unfold findT
    by_cases h : x.f1 = q
    · rw [if_pos h]
      simp [h, hi]
    · rw [if_neg h, ih (i + 1) (by omega)]
      simp [Ne.symm h]
theorem seq_loop (l : List S31) (q : Int) (hl : l.length ≤ 4611686018427387904) : ∀ (m j k : Nat), j + m = l.length → m < k → impl_Twig_83.l0 k l q (l.length : Int) (j : Int) = some (findT q (l.drop j) j) := by
  intro m
  induction m with
  | zero =>
    intro j k hj hk
    obtain ⟨k, rfl⟩ : ∃ q, k = q + 1 := ⟨k - 1, by omega⟩
    simp only [impl_Twig_83.l0]
    rw [if_neg (by omega), List.drop_eq_nil_of_le (by omega)]
    rfl
  | succ m ih =>
    intro j k hj hk
    obtain ⟨k, rfl⟩ : ∃ q, k = q + 1 := ⟨k - 1, by omega⟩
    have hlt : j < l.length := by omega
    simp only [impl_Twig_83.l0]
    rw [if_pos (by omega), if_pos (by omega), if_pos (by omega), rdT_at hlt, wrap_id (by omega) (by omega), show ((j : Int) + 1) = ((j + 1 : Nat) : Int) by omega, ih (j + 1) k (by omega) (by omega), List.drop_eq_getElem_cons hlt]
    unfold impl_seqAt_1.f
    rw [Option.bind_some]
    conv => rhs; unfold findT
    by_cases h : l[j].f1 = q
    · rw [if_pos (by simp [h]), if_pos h]
    · rw [if_neg (by simp [h]), if_neg h]
      rfl
theorem seqAt_ok (l : List S31) (q : Int) (hl : l.length ≤ 4611686018427387904) (k : Nat) (hk : l.length < k) : impl_seqAt.f k l q = some (findT q l 0) := by
  unfold impl_seqAt.f impl_Twig_83.f
  have := seq_loop l q hl l.length 0 k (by omega) hk
  rw [show ((0 : Nat) : Int) = 0 from rfl] at this
  rw [this, Option.bind_some]
  rfl
/-- No number twice. -/
def ndT (l : List S31) : Prop := (l.map S31.f1).Nodup
theorem ndT_snoc {l : List S31} {j : Nat} (h : j < l.length) : ndT (l.take (j + 1)) ↔ ndT (l.take j) ∧ ¬ l[j].f1 ∈ (l.take j).map S31.f1 := by
  unfold ndT
  rw [List.take_succ_eq_append_getElem h, List.map_append, List.map_cons, List.map_nil, List.nodup_append]
  constructor
  · rintro ⟨h1, _, h3⟩
    exact ⟨h1, fun hm => h3 _ hm _ (by simp) rfl⟩
  · rintro ⟨h1, h2⟩
    refine ⟨h1, by simp, ?_⟩
    intro a ha b hb e
    simp at hb
    subst hb
    subst e
    exact h2 ha
theorem ndT_take {l : List S31} (h : ndT l) (j : Nat) : ndT (l.take j) := by
  unfold ndT at *
  rw [List.map_take]
  exact List.Pairwise.sublist (List.take_sublist _ _) h
theorem heap_loop (l : List S31) (hl : l.length ≤ 4611686018427387900) : ∀ (m j : Nat), j + m = l.length → ndT (l.take j) → ∃ b K, (∀ k, K ≤ k → impl_HeapOk.l0 k l l (l.length : Int) (j : Int) = some b) ∧ (b = true ↔ ndT l ∧ ∃ n, Hp l n) := by
  intro m
  induction m with
  | zero =>
    intro j hj hnd
    obtain ⟨b, K, e, hb⟩ := isheap_ok _ l (Nat.le_refl _) hl
    refine ⟨b, K + 1, fun k hk => ?_, ?_⟩
    · obtain ⟨k, rfl⟩ : ∃ q, k = q + 1 := ⟨k - 1, by omega⟩
      simp only [impl_HeapOk.l0]
      rw [if_neg (by omega), e k (by omega), Option.bind_some]
    · rw [List.take_of_length_le (by omega)] at hnd
      rw [hb]
      exact ⟨fun h => ⟨hnd, h⟩, fun h => h.2⟩
  | succ m ih =>
    intro j hj hnd
    have hlt : j < l.length := by omega
    have step : ∀ k, l.length < k → impl_HeapOk.l0 (k + 1) l l (l.length : Int) (j : Int) = if 0 ≤ findT l[j].f1 (l.take j) 0 then some false else impl_HeapOk.l0 k l l (l.length : Int) ((j + 1 : Nat) : Int) := by
      intro k hk
      simp only [impl_HeapOk.l0]
      rw [if_pos (by omega), if_pos (by omega), if_pos (by omega), if_pos (by omega), rdT_at hlt, Int.toNat_natCast, seqAt_ok _ _ (by rw [List.length_take]; omega) k (by rw [List.length_take]; omega), Option.bind_some, wrap_id (by omega) (by omega)]
      rfl
    by_cases hf : 0 ≤ findT l[j].f1 (l.take j) 0
    · refine ⟨false, l.length + 2, fun k hk => ?_, ?_⟩
      · obtain ⟨k, rfl⟩ : ∃ q, k = q + 1 := ⟨k - 1, by omega⟩
        rw [step k (by omega), if_pos hf]
      · constructor
        · intro h; cases h
        · rintro ⟨h, _⟩
          rw [findT_iff _ _ _ (by omega)] at hf
          exact absurd hf ((ndT_snoc hlt).1 (ndT_take h (j + 1))).2
    · obtain ⟨b, K, e, hb⟩ := ih (j + 1) (by omega) ((ndT_snoc hlt).2 ⟨hnd, by rw [findT_iff _ _ _ (by omega)] at hf; exact hf⟩)
      refine ⟨b, K + l.length + 2, fun k hk => ?_, hb⟩
      obtain ⟨k, rfl⟩ : ∃ q, k = q + 1 := ⟨k - 1, by omega⟩
      rw [step k (by omega), if_neg hf, e k (by omega)]
theorem twice_in (l : List S31) (hl : l.length ≤ 4611686018427387900) (i : Nat) (hi : i < l.length) : ∀ (m p k : Nat), p + m = i → spec_l3Twice.l1 (k + m + 1) l (i : Int) (p : Int) = if l[i].f1 ∈ ((l.take i).drop p).map S31.f1 then some true else spec_l3Twice.l0 k l ((i + 1 : Nat) : Int) := by
  intro m
  induction m with
  | zero =>
    intro p k hp
    rw [spec_l3Twice.l1, if_neg (by omega), List.drop_eq_nil_of_le (by rw [List.length_take]; omega), if_neg (by simp), wrap_id (by omega) (by omega)]
    rfl
  | succ m ih =>
    intro p k hp
    have hlt : p < (l.take i).length := by rw [List.length_take]; omega
    rw [spec_l3Twice.l1, if_pos (by omega), if_pos (by omega), if_pos (by omega), if_pos (by omega), if_pos (by omega), rdT_at hi, rdT_at (show p < l.length by omega), wrap_id (by omega) (by omega), show ((p : Int) + 1) = ((p + 1 : Nat) : Int) by omega, show k + (m + 1) = k + m + 1 by omega, ih (p + 1) k (by omega), List.drop_eq_getElem_cons hlt, List.map_cons, List.getElem_take]
    by_cases h : l[i].f1 = l[p].f1
    · rw [if_pos h, if_pos (by rw [h]; simp)]
    · rw [if_neg h]
      simp only [List.mem_cons, h, false_or]
theorem twice_out (l : List S31) (hl : l.length ≤ 4611686018427387900) : ∀ (m i : Nat), i + m = l.length → ndT (l.take i) → ∃ b K, (∀ k, K ≤ k → spec_l3Twice.l0 k l (i : Int) = some b) ∧ (b = false ↔ ndT l) := by
  intro m
  induction m with
  | zero =>
    intro i hi hnd
    refine ⟨false, 1, fun k hk => ?_, ?_⟩
    · obtain ⟨k, rfl⟩ : ∃ q, k = q + 1 := ⟨k - 1, by omega⟩
      rw [spec_l3Twice.l0, if_neg (by omega)]
    · rw [List.take_of_length_le (by omega)] at hnd
      simp [hnd]
  | succ m ih =>
    intro i hi hnd
    have hlt : i < l.length := by omega
    have step : ∀ k, spec_l3Twice.l0 (k + i + 2) l (i : Int) = if l[i].f1 ∈ (l.take i).map S31.f1 then some true else spec_l3Twice.l0 k l ((i + 1 : Nat) : Int) := by
      intro k
      have := twice_in l hl i hlt i 0 k (by omega)
      rw [List.drop_zero] at this
      rw [spec_l3Twice.l0, if_pos (by omega)]
      exact this
    by_cases hm : l[i].f1 ∈ (l.take i).map S31.f1
    · refine ⟨true, i + 2, fun k hk => ?_, ?_⟩
      · obtain ⟨k, rfl⟩ : ∃ q, k = q + i + 2 := ⟨k - i - 2, by omega⟩
        rw [step, if_pos hm]
      · constructor
        · intro h; cases h
        · intro h
          exact absurd hm ((ndT_snoc hlt).1 (ndT_take h (i + 1))).2
    · obtain ⟨b, K, e, hb⟩ := ih (i + 1) (by omega) ((ndT_snoc hlt).2 ⟨hnd, hm⟩)
      refine ⟨b, K + i + 2, fun k hk => ?_, hb⟩
      obtain ⟨k, rfl⟩ : ∃ q, k = q + i + 2 := ⟨k - i - 2, by omega⟩
      rw [step, if_neg hm, e k (by omega)]
/-- A heap that the program takes. -/
def OkT (l : List S31) : Prop := l.length ≤ 64 ∧ ndT l ∧ ∃ n, Hp l n
theorem twice_ok (l : List S31) (hl : l.length ≤ 4611686018427387900) : ∃ b K, (∀ k, K ≤ k → spec_l3Twice.f k l = some b) ∧ (b = false ↔ ndT l) := by
  obtain ⟨b, K, e, hb⟩ := twice_out l hl l.length 0 (by omega) (by simp [ndT])
  exact ⟨b, K, fun k hk => e k hk, hb⟩
theorem heapOk_ok (l : List S31) (hl : l.length ≤ 4611686018427387900) : ∃ b K, (∀ k, K ≤ k → spec_HeapOk.f k l = some b ∧ impl_HeapOk.f k l = some b) ∧ (b = true ↔ OkT l) := by
  by_cases h64 : l.length ≤ 64
  · obtain ⟨b1, K1, e1, h1⟩ := twice_ok l hl
    obtain ⟨r, K2, e2, h2⟩ := srank_ok _ l (Nat.le_refl _) (by omega)
    obtain ⟨b3, K3, e3, h3⟩ := heap_loop l hl l.length 0 (by omega) (by simp [ndT])
    refine ⟨b3, K1 + K2 + K3, fun k hk => ⟨?_, ?_⟩, ?_⟩
    · unfold spec_HeapOk.f
      rw [if_pos (by omega), e1 k (by omega), Option.bind_some]
      cases b1 with
      | true =>
        rw [if_pos rfl]
        congr 1
        cases b3 with
        | false => rfl
        | true => exact absurd (h1.2 (h3.1 rfl).1) (by simp)
      | false =>
        rw [if_neg (by simp), e2 k (by omega), Option.bind_some]
        congr 1
        rcases h2 with ⟨rfl, hn⟩ | ⟨n, rfl, hn⟩
        · cases b3 with
          | false => rfl
          | true =>
            obtain ⟨_, n, hh⟩ := h3.1 rfl
            exact absurd hh (hn n)
        · rw [decide_eq_true (by omega)]
          exact (h3.2 ⟨h1.1 rfl, n, hn⟩).symm
    · unfold impl_HeapOk.f
      rw [if_neg (by omega)]
      exact e3 k (by omega)
    · rw [h3]
      exact ⟨fun h => ⟨h64, h⟩, fun h => h.2⟩
  · refine ⟨false, 0, fun k hk => ⟨?_, ?_⟩, ?_⟩
    · unfold spec_HeapOk.f
      rw [if_neg (by omega)]
    · unfold impl_HeapOk.f
      rw [if_pos (by omega)]
    · constructor
      · intro h; cases h
      · intro h
        exact absurd h.1 h64
theorem sz_TwigS (l : List S69) (left : Int) (hl : 0 ≤ left) (hl2 : left ≤ 1048576) (hn : l.length ≤ 9223372036854775807) : laws_szTwigS.f l left = some (if (l.length : Int) ≤ left then left - (l.length : Int) else -1) := by
  unfold laws_szTwigS.f
  rw [wrap_id (by omega) (by omega)]
  by_cases h : (l.length : Int) ≤ left
  · rw [if_neg (by omega), if_pos h]
  · rw [if_pos (by omega), if_neg h]
/-- An element of the statements as one of the program. -/
def ofTwigS (x : S69) : S31 := ⟨x.f0, x.f1, x.f2⟩
theorem to_TwigS (l : List S69) (hn : l.length ≤ 1048576) : ∃ K, ∀ k, K ≤ k → laws_toTwigS.f k l = some (l.map ofTwigS) := by
  obtain ⟨K, e⟩ := ev_copy (fun k a b i => laws_toTwigS.l0 k a b i) ofTwigS z69 (fun k x0 x3 i => by
    show laws_toTwigS.l0 (k + 1) x0 x3 i = _
    simp only [laws_toTwigS.l0, laws_toTwig.f, Option.bind_some]
    rfl) l z31 (by omega)
  refine ⟨K, fun k hk => ?_⟩
  unfold laws_toTwigS.f
  rw [if_pos (by omega), if_pos (by omega), Int.toNat_natCast]
  exact e k hk
theorem eq_TwigS (l : List S31) (hn : l.length ≤ 4611686018427387904) : ∃ K, ∀ k, K ≤ k → laws_eqTwigS.f k l l = some true := by
  obtain ⟨K, e⟩ := ev_same (fun k a b i => laws_eqTwigS.l0 k a b i) l (fun k i h0 h1 => by
    show laws_eqTwigS.l0 (k + 1) l l i = laws_eqTwigS.l0 k l l (wrap64 (i + 1))
    generalize hw : laws_eqTwigS.l0 k l l (wrap64 (i + 1)) = R
    rw [laws_eqTwigS.l0, hw]
    simp [laws_eqTwig.f, h0, h1]) (fun k i h => by
    show laws_eqTwigS.l0 (k + 1) l l i = _
    rw [laws_eqTwigS.l0, if_neg h]) hn
  refine ⟨K, fun k hk => ?_⟩
  unfold laws_eqTwigS.f
  rw [if_pos rfl]
  exact e k hk
theorem FnExactRankOf : ∀ (l0 : List (S69)), l0.length ≤ 9223372036854775807 → (∀ x_ ∈ l0, (wf64 x_.f0 ∧ wf64 x_.f1 ∧ wf64 x_.f2)) → ∃ k, laws_FnExactRankOf.f k l0 = some true := by
  intro l hn _
  by_cases h : l.length ≤ 1048576
  · have hL : (l.map ofTwigS).length = l.length := List.length_map ..
    obtain ⟨b, K0, e0, hb⟩ := heapOk_ok (l.map ofTwigS) (by omega)
    have hr : ∃ r K, ∀ k, K ≤ k → spec_RankOf.f k (l.map ofTwigS) = some r ∧ impl_RankOf.f k (l.map ofTwigS) = some r := by
      cases b with
      | false =>
        refine ⟨-1, K0, fun k hk => ⟨?_, ?_⟩⟩
        · unfold spec_RankOf.f
          rw [(e0 k hk).1]
          simp
        · unfold impl_RankOf.f
          rw [(e0 k hk).2]
          simp
      | true =>
        obtain ⟨_, _, n, hh⟩ := hb.1 rfl
        obtain ⟨K1, e1⟩ := srank_hp hh (by omega)
        refine ⟨n, K0 + K1 + n + 1, fun k hk => ⟨?_, ?_⟩⟩
        · unfold spec_RankOf.f
          rw [(e0 k (by omega)).1]
          simp only [Option.bind_some, if_true]
          rw [e1 k (by omega)]
          simp
        · unfold impl_RankOf.f
          rw [(e0 k (by omega)).2]
          simp only [Option.bind_some, if_true]
          rw [rank_hp hh (by omega) k (by omega)]
          simp
    obtain ⟨r, K1, e1⟩ := hr
    obtain ⟨K, q⟩ := both (to_TwigS l h) (both ⟨K1, e1⟩ (eq_TwigS (l.map ofTwigS) (by omega)))
    obtain ⟨a1, ⟨a2, a3⟩, a4⟩ := q K (by omega)
    have z1 : ¬ (1048576 - (l.length : Int) < 0) := by omega
    refine ⟨K, ?_⟩
    clear q
    unfold laws_FnExactRankOf.f
    rw [sz_TwigS l 1048576 (by omega) (by omega) hn, if_pos (by omega)]
    simp only [Option.bind_some, z1, if_false, a1, a2, a3, a4, if_true, ne_eq, not_true_eq_false]
  · refine ⟨0, ?_⟩
    unfold laws_FnExactRankOf.f
    rw [sz_TwigS l 1048576 (by omega) (by omega) hn, if_neg (by omega)]
    simp

end Go.Proofs.Ytljfflhbabkbgaa.Pure
