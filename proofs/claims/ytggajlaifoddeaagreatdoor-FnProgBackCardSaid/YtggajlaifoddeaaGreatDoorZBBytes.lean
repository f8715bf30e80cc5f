/- Texts of the claim of the law FnProgBack, made smaller by a program of this session: what the claim does not use is left out. No condition. -/
import Derived.Test.YtggajlaifoddeaaGreatDoorZBPFnProgBackx2
namespace Go.Proofs.YtggajlaifoddeaaGreatDoor.PFnProgBack
open Go.RowKit Go.Proofs.YtggajlaifoddeaaGreatDoorW.PrintWords Go.Proofs.YtggajlaifoddeaaGreatDoorW.PrintLast Go.Proofs.YtggajlaifoddeaaGreatDoorW.PrintMore
set_option linter.unusedVariables false
set_option linter.unusedSimpArgs false
def BB (W : World) (base : Nat) (v : Value) (xs : List Int) : Prop :=
  (v = .slice none 0 0 ∧ xs = []) ∨ ∃ (g cap : Nat) (cur : Array Value) (fz : Nat × Nat), v = .slice (some ⟨g, 0, none⟩) xs.length cap ∧ base ≤ g ∧ W.heap[g]? = some (.cells cur 5 fz) ∧ (fz = (0, 0) ∨ cap ≤ fz.1) ∧ xs.length ≤ cap ∧ cap ≤ 9223372036854775807 ∧ cur.size = cap ∧ cur.toList.take xs.length = nums .u8 xs
theorem BB.of_R {W : World} {base : Nat} {ok : Nat → Prop} {v : Value} {xs : List Int} (h : Kd.R (Kd.int .u8) 5 W base ok v xs) : BB W base v xs := by
  have ho := Kd.own_of_R h
  rcases ho.2 with ⟨rfl, h0⟩ | ⟨g, cap, cur, rfl, hb, hg, hn, hc, hs, ht⟩
  · exact .inl ⟨rfl, List.eq_nil_of_length_eq_zero h0⟩
  · exact .inr ⟨g, cap, cur, (0, 0), rfl, hb, hg, .inl rfl, hn, by simpa [maxLen] using hc, by simpa using hs, by simpa [encs, nums] using ht⟩
theorem BB.bytes {W : World} {base : Nat} (s : ByteArray) (hb : base ≤ W.heap.size) (hs : s.size ≤ 9223372036854775807) : BB (Lib.bytesWorld W 5 s) base (.slice (some ⟨W.heap.size, 0, none⟩) (bytesOf s).length (grownCap W s.size 0 5)) (bytesOf s) := by
  have hge := grownCap_ge W s.size 0 5
  have hle := grownCap_le_maxLen W s.size 0 5 (by simpa [maxLen] using hs)
  have hsz : (Lib.bytesCells W 5 s).size = grownCap W s.size 0 5 := by
    have : s.data.size = s.size := rfl
    simp only [Lib.bytesCells, Array.size_append, Array.size_map, Array.size_replicate, this]
    omega
  refine .inr ⟨W.heap.size, _, _, _, rfl, hb, Lib.bytesWorld_at_new W 5 s, .inr (by rw [hsz]; exact Nat.le_refl _), by rw [bytesOf_length]; exact hge, by simpa [maxLen] using hle, hsz, ?_⟩
  have h1 : (bytesOf s).length = (s.data.map fun b => Value.int .u8 b.toNat).toList.length := by simp [bytesOf]
  rw [Lib.bytesCells, Array.toList_append, h1, List.take_left]
  simp [bytesOf, nums]
theorem BB.form {W : World} {base : Nat} {v : Value} {xs : List Int} (h : BB W base v xs) (hp : 0 < xs.length) : ∃ g cap, v = .slice (some ⟨g, 0, none⟩) xs.length cap ∧ base ≤ g ∧ g < W.heap.size ∧ ∃ cells fz, W.heap[g]? = some (.cells cells 5 fz) := by
  rcases h with ⟨_, rfl⟩ | ⟨g, cap, cur, fz, rfl, hb, hg, _⟩
  · simp at hp
  · exact ⟨g, cap, rfl, hb, (Array.getElem?_eq_some_iff.1 hg).1, cur, fz, hg⟩
theorem BB.slice {W : World} {base : Nat} {v : Value} {xs : List Int} (h : BB W base v xs) : ∃ A c, v = .slice A xs.length c := by
  rcases h with ⟨rfl, rfl⟩ | ⟨g, cap, cur, fz, rfl, _⟩
  · exact ⟨none, 0, rfl⟩
  · exact ⟨_, cap, rfl⟩
theorem BB.lt {W : World} {base : Nat} {v : Value} {xs : List Int} (h : BB W base v xs) (k : Nat) (hk : v.ownBlock = some k) : base ≤ k ∧ k < W.heap.size ∧ ∃ cells fz, W.heap[k]? = some (.cells cells 5 fz) := by
  rcases h with ⟨rfl, _⟩ | ⟨g, cap, cur, fz, rfl, hb, hg, _⟩
  · simp [Value.ownBlock] at hk
  · have : g = k := by simpa [Value.ownBlock] using hk
    subst this
    exact ⟨hb, (Array.getElem?_eq_some_iff.1 hg).1, cur, fz, hg⟩
theorem BB.move {W W1 : World} {base : Nat} {v : Value} {xs : List Int} (h : BB W base v xs) (hm : ∀ k, v.ownBlock = some k → W1.heap[k]? = W.heap[k]?) : BB W1 base v xs := by
  rcases h with h | ⟨g, cap, cur, fz, rfl, hb, hg, r⟩
  · exact .inl h
  · exact .inr ⟨g, cap, cur, fz, rfl, hb, (hm g (by simp [Value.ownBlock])).trans hg, r⟩
theorem BB.grown {W W1 : World} {base : Nat} {v : Value} {xs : List Int} {row : Option Nat} (h : BB W base v xs) (hg : W.grownBy W1 row) (hne : ∀ k, v.ownBlock = some k → some k ≠ row) : BB W1 base v xs :=
  h.move fun k hk => hg.block k (h.lt k hk).2.1 (hne k hk)
theorem BB.below {W W1 : World} {base : Nat} {v : Value} {xs : List Int} (h : BB W base v xs) (hb : Below W.heap.size W W1) : BB W1 base v xs :=
  h.move fun k hk => hb.block k (h.lt k hk).2.1
theorem BB.keep {w0 W W1 : World} {base g : Nat} {v : Value} {xs : List Int} {s0 : List Int} {c1 c2 : Int} (h : BB W base v xs) (hI : IsS45 w0 W g s0 c1 c2) (hk : KeepBut W W1 g none) : BB W1 base v xs :=
  h.move fun k hkk => by
    obtain ⟨_, hlt, cells, fz, hc⟩ := h.lt k hkk
    exact hk.2 k hlt (fun e => IsS45.ne_blk hI hc (by decide) e.symm) (by simp)
theorem BB.reads {W : World} {base : Nat} {A : Option Addr} {n c : Nat} {xs : List Int} (h : BB W base (.slice A n c) xs) : n = xs.length ∧ n ≤ c ∧ Kd.C (Kd.int .u8) W A xs.length xs := by
  rcases h with ⟨he, rfl⟩ | ⟨g, cap, cur, fz, he, hb, hg, hf, hn, hc, hs, ht⟩
  · injection he with h1 h2 h3
    subst h1 h2 h3
    exact ⟨rfl, Nat.le_refl _, rfl, by simp, fun h => by simp at h⟩
  · injection he with h1 h2 h3
    subst h1 h2 h3
    refine ⟨rfl, hn, Kd.C_of_reads (d := (0 : Int)) ⟨rfl, by omega, fun hp => ⟨_, rfl, fun j hj => ?_⟩⟩⟩
    rw [add_plain, cell_of_row W g j cur 5 fz hg]
    have h2 : (cur.toList.take xs.length)[j]? = (nums .u8 xs)[j]? := by rw [ht]
    rw [List.getElem?_take, if_pos hj] at h2
    simpa [nums, List.getElem?_eq_getElem hj] using h2
theorem BB.cell {W : World} {base g n cap : Nat} {xs : List Int} (h : BB W base (.slice (some ⟨g, 0, none⟩) n cap) xs) (i : Int) (h0 : 0 ≤ i) (hi : i < n) : W.cell? ⟨g, i.toNat, none⟩ = some (.int .u8 (rdOf 0 xs i)) ∧ W.frozen? ⟨g, i.toNat, none⟩ = false := by
  rcases h with ⟨he, rfl⟩ | ⟨g', cap', cur, fz, he, hb, hg, hf, hn, hc, hs, ht⟩
  · injection he with h1 h2 h3
    cases h1
  · injection he with h1 h2 h3
    injection h1 with h1
    injection h1 with h1
    subst h1 h2 h3
    have hj : i.toNat < xs.length := by omega
    refine ⟨?_, ?_⟩
    · rw [cell_of_row W g i.toNat cur 5 fz hg]
      have h2 : (cur.toList.take xs.length)[i.toNat]? = (nums .u8 xs)[i.toNat]? := by rw [ht]
      rw [List.getElem?_take, if_pos hj] at h2
      simpa [nums, List.getElem?_eq_getElem hj, rdOf, h0, hj] using h2
    · obtain ⟨lo, hi2⟩ := fz
      simp only [World.frozen?, hg]
      rcases hf with hf | hf
      · cases hf
        simp
      · have : ¬ lo ≤ i.toNat := by simp only at hf; omega
        simp [this]
theorem BB.put {W : World} {base g n cap : Nat} {xs : List Int} (h : BB W base (.slice (some ⟨g, 0, none⟩) n cap) xs) (i : Int) (x : Int) : BB (W.setCell ⟨g, i.toNat, none⟩ (.int .u8 x)) base (.slice (some ⟨g, 0, none⟩) n cap) (xs.set i.toNat x) ∧ W.grownBy (W.setCell ⟨g, i.toNat, none⟩ (.int .u8 x)) (some g) := by
  rcases h with ⟨he, rfl⟩ | ⟨g', cap', cur, fz, he, hb, hg, hf, hn, hc, hs, ht⟩
  · injection he with h1 h2 h3
    cases h1
  · injection he with h1 h2 h3
    injection h1 with h1
    injection h1 with h1
    subst h1 h2 h3
    have hnew : (W.setCell ⟨g, i.toNat, none⟩ (.int .u8 x)).heap[g]? = some (.cells (cur.setIfInBounds i.toNat (.int .u8 x)) 5 fz) := by
      simp [World.setCell, Array.getElem?_modify, hg]
    refine ⟨.inr ⟨g, cap, cur.setIfInBounds i.toNat (.int .u8 x), fz, by rw [List.length_set], hb, hnew, hf, by rw [List.length_set]; exact hn, hc, by rw [Array.size_setIfInBounds]; exact hs, ?_⟩, ⟨rfl, rfl, rfl, by simp [World.setCell], fun k _ hk => Below.heap_setCell W _ _ k (fun e => hk (by rw [e]))⟩⟩
    rw [List.length_set, Array.toList_setIfInBounds, List.take_set, ht]
    simp [nums, List.map_set]
theorem BB.take {W : World} {base n c m : Nat} {A : Option Addr} {xs : List Int} (h : BB W base (.slice A n c) xs) (hm : m ≤ xs.length) : BB W base (.slice A m c) (xs.take m) := by
  rcases h with ⟨he, rfl⟩ | ⟨g, cap, cur, fz, he, hb, hg, hf, hn, hc, hs, ht⟩
  · injection he with h1 h2 h3
    subst h1 h2 h3
    have : m = 0 := by simpa using hm
    subst this
    exact .inl ⟨rfl, rfl⟩
  · injection he with h1 h2 h3
    subst h1 h2 h3
    have hl : (xs.take m).length = m := by rw [List.length_take]; omega
    refine .inr ⟨g, c, cur, fz, by rw [hl], hb, hg, hf, by omega, hc, hs, ?_⟩
    have h2 : (cur.toList.take xs.length).take m = (nums .u8 xs).take m := by rw [ht]
    rw [List.take_take, Nat.min_eq_left hm] at h2
    rw [hl, h2]
    simp [nums, List.map_take]
theorem BB.string {P : Program} {W : World} {base : Nat} {src dst e : TypeId} {v : Value} {xs : List Int} (hs : P.underlying src = some (.slice e)) (he : P.underlying e = some (.int .u8)) (hd : P.underlying dst = some .string)
    (h : BB W base v xs) : (convert src dst v).run P W = .ok (.string (strOfNums xs)) W := by
  rcases h with ⟨rfl, rfl⟩ | ⟨g, cap, cur, fz, rfl, hb, hg, hf, hn, hc, hs', ht⟩
  · exact run_convert_bytes_nil W src e hs he 0 0 dst hd
  · refine run_convert_bytes_arg W src e hs he g 0 xs.length cap xs rfl (fun i hi => ?_) dst hd
    rw [cell_of_row W g (0 + i) cur 5 fz hg]
    have h2 : (cur.toList.take xs.length)[i]? = (nums .u8 xs)[i]? := by rw [ht]
    rw [List.getElem?_take, if_pos hi] at h2
    simpa [nums, List.getElem?_eq_getElem hi] using h2
/-- The row of bytes and the cursor, in the world wc of a walk that began at w. -/
structure St (w0 w wc : World) (g : Nat) (s0 : List Int) (c1 c2 : Int) (v : Value) (xs : List Int) : Prop where
  bb : BB wc w.heap.size v xs
  is : IsS45 w0 wc g s0 c1 c2
  kb : KeepBut w wc g none
  bl : Below w0.heap.size w0 wc
section
variable {w0 w wc : World} {g : Nat} {s0 : List Int} {c1 c2 d1 d2 : Int} {v : Value} {xs : List Int}
theorem St.call {W1 : World} (h : St w0 w wc g s0 c1 c2 v xs) (hi : IsS45 w0 W1 g s0 d1 d2) (hb : Below w0.heap.size w0 W1) (hk : KeepBut wc W1 g none) : St w0 w W1 g s0 d1 d2 v xs :=
  ⟨h.bb.keep h.is hk, hi, h.kb.trans hk (.inl rfl), hb⟩
theorem St.drew (h : St w0 w wc g s0 c1 c2 v xs) : St w0 w wc.drew g s0 c1 c2 v xs := ⟨h.bb, h.is, h.kb, below_drew h.bl⟩
theorem St.drewN (h : St w0 w wc g s0 c1 c2 v xs) (n : Nat) : St w0 w (wc.drewN n) g s0 c1 c2 v xs := ⟨h.bb, h.is, h.kb, pw_below_drewN h.bl n⟩
theorem St.size (h : St w0 w wc g s0 c1 c2 v xs) : w.heap.size ≤ wc.heap.size := h.kb.1
/-- What makes memory alone. -/
theorem St.below {W1 : World} (h : St w0 w wc g s0 c1 c2 v xs) (hb : Below wc.heap.size wc W1) : St w0 w W1 g s0 c1 c2 v xs :=
  ⟨h.bb.below hb, h.is.below hb, h.kb.trans (KeepBut.of_below hb g none) (.inl rfl), below_step h.bl hb⟩
theorem St.take {A : Option Addr} {n c m : Nat} (h : St w0 w wc g s0 c1 c2 (.slice A n c) xs) (hm : m ≤ xs.length) : St w0 w wc g s0 c1 c2 (.slice A m c) (xs.take m) := ⟨h.bb.take hm, h.is, h.kb, h.bl⟩
theorem St.put {b n cap : Nat} (hw : w0.heap.size ≤ w.heap.size) (h : St w0 w wc g s0 c1 c2 (.slice (some ⟨b, 0, none⟩) n cap) xs) (i x : Int) : St w0 w (wc.setCell ⟨b, i.toNat, none⟩ (.int .u8 x)) g s0 c1 c2 (.slice (some ⟨b, 0, none⟩) n cap) (xs.set i.toNat x) := by
  obtain ⟨h1, h2⟩ := h.bb.put i x
  obtain ⟨hb, hlt, cells, fz, hc⟩ := h.bb.lt b (by simp [Value.ownBlock])
  have hne : g ≠ b := IsS45.ne_blk h.is hc (by decide)
  exact ⟨h1, h.is.grown h2 (by simpa using hne), h.kb.trans (KeepBut.of_grown h2 g) (.inr ⟨b, rfl, hb⟩), below_set h.bl (Nat.le_trans hw hb)⟩
/-- Another row of the call's own, made behind. -/
structure St2 (w0 w wc : World) (g : Nat) (s0 : List Int) (c1 c2 : Int) (v : Value) (xs : List Int) (u : Value) (ys : List Int) : Prop extends St w0 w wc g s0 c1 c2 v xs where
  row : Kd.R (Kd.int .u8) 5 wc w.heap.size (fun k => some k ≠ v.ownBlock) u ys
variable {u : Value} {ys : List Int}
theorem St2.call {W1 : World} (h : St2 w0 w wc g s0 c1 c2 v xs u ys) (hi : IsS45 w0 W1 g s0 d1 d2) (hb : Below w0.heap.size w0 W1) (hk : KeepBut wc W1 g none) : St2 w0 w W1 g s0 d1 d2 v xs u ys :=
  ⟨h.toSt.call hi hb hk, Kd.R_mono (Kd.R_keep (IsS45.apart h.is h.row (by decide)) hk (fun _ h => h.2)) (fun _ h => h.1)⟩
theorem St2.drew (h : St2 w0 w wc g s0 c1 c2 v xs u ys) : St2 w0 w wc.drew g s0 c1 c2 v xs u ys := ⟨h.toSt.drew, Kd.R_drew h.row⟩
/-- A new row. -/
theorem St.made {W1 : World} (h : St w0 w wc g s0 c1 c2 v xs) (hr : Kd.R (Kd.int .u8) 5 W1 wc.heap.size (fun _ => True) u ys) (hb : Below wc.heap.size wc W1) : St2 w0 w W1 g s0 c1 c2 v xs u ys :=
  ⟨h.below hb, Kd.R_lower (Kd.R_mono (Kd.R_bound hr) (fun k hk e => by have := (h.bb.lt k e.symm).2.1; have := hk.2.1; omega)) h.kb.1⟩
/-- The other row has been written, or made anew. -/
theorem St2.wrote {W1 : World} {u1 : Value} {zs : List Int} (hw : w0.heap.size ≤ w.heap.size) (h : St2 w0 w wc g s0 c1 c2 v xs u ys) (hr : Kd.R (Kd.int .u8) 5 W1 w.heap.size (fun k => some k ≠ v.ownBlock) u1 zs) (hb : Below w.heap.size wc W1) (hg : wc.grownBy W1 u.ownBlock) : St2 w0 w W1 g s0 c1 c2 v xs u1 zs :=
  ⟨⟨h.bb.grown hg (fun k hk e => h.row.1 k e.symm (by rw [hk])), h.is.grown hg (IsS45.own_ne h.is h.row (by decide)), h.kb.trans (KeepBut.of_grown hg g) (Kd.R_base2 h.row), below_weaken h.bl hw hb⟩, hr⟩
theorem St2.end_ (h : St2 w0 w wc g s0 c1 c2 v xs u ys) : St w0 w wc g s0 c1 c2 u ys := ⟨BB.of_R h.row, h.is, h.kb, h.bl⟩
theorem St2.fresh (h : St2 w0 w wc g s0 c1 c2 v xs u ys) (k : Nat) (hk : wc.heap.size ≤ k) : some k ≠ v.ownBlock := fun e => by have := (h.bb.lt k e.symm).2.1; omega
theorem St2.below {W1 : World} (h : St2 w0 w wc g s0 c1 c2 v xs u ys) (hb : Below wc.heap.size wc W1) : St2 w0 w W1 g s0 c1 c2 v xs u ys := ⟨h.toSt.below hb, Kd.R_below h.row hb⟩
/-- The conversion of a text, at the begin. -/
theorem St.begin {W : World} (hI : IsS45 w0 W g s0 c1 c2) (hB : Below w0.heap.size w0 W) (hK : KeepBut w W g none) (s : ByteArray) (hs : s.size ≤ 9223372036854775807) : St w0 w (Lib.bytesWorld W 5 s) g s0 c1 c2 (.slice (some ⟨W.heap.size, 0, none⟩) s.size (grownCap W s.size 0 5)) (bytesOf s) := by
  have hb : Below W.heap.size W (Lib.bytesWorld W 5 s) := bytes_below (Below.refl _ _) (Nat.le_refl _) 5 s
  have h1 := BB.bytes (base := w.heap.size) s hK.1 hs
  rw [bytesOf_length] at h1
  exact ⟨h1, hI.below hb, hK.trans (KeepBut.of_below hb g none) (.inl rfl), below_step hB hb⟩
end
section
variable {ops : Array Oper} {rest : List Oper} {o : Oper} {a : Act} {Q : Exit → Act → World → Prop}
theorem bytes_event {W : World} (hgd : o.guard = none) (x : Operand) (s : ByteArray) (hx : a.eval x = .string s) (ho : o.op = .convert 9 22 x)
    (h : ∀ v1 W1, v1 = .slice (some ⟨W.heap.size, 0, none⟩) s.size (grownCap W s.size 0 5) → W1 = Lib.bytesWorld W 5 s → wpList Tryz.prog ops Q rest (a.put o.dst v1) W1) : wpList Tryz.prog ops Q (o :: rest) a W := by
  refine Kd.event_run hgd ?_ (h _ _ rfl rfl)
  simp [execOp, ho, hx, print_bytes (P := Tryz.prog) 9 22 5 Tryz.underlying9 Tryz.underlying22 Tryz.underlying5 s W]
end
end Go.Proofs.YtggajlaifoddeaaGreatDoor.PFnProgBack
