/- Texts of the claim of the law FnExactNextDue, made smaller by a program of this session: what the claim does not use is left out. No condition. -/
import Derived.Test.YtljfflhbabkbgaaRows
import Derived.Test.YtljfflhbabkbgaaZNdPFnExactNextDuex13
import Derived.Test.YtljfflhbabkbgaaZNdPureFnExactNextDue
import Derived.Test.YtljfflhbabkbgaaZNdOpen
import Derived.WalkKit
import Derived.ProofKit
import Derived.OpenShut
import Derived.ShutString
import Derived.ChangeOld
import Derived.Below
import Derived.SizedLaws
import Derived.Carry
namespace Go.Proofs.Ytljfflhbabkbgaa.fnExactNextDue
open Go.ChangeShapes Go.WideShapes Go.ChangeAt Go.RowKit Go.Proofs.YtljfflhbabkbgaaOpen Go.Proofs.Ytljfflhbabkbgaa.PFnExactNextDue Go.Proofs.YtljfflhbabkbgaaW.PrintWords
set_option linter.unusedVariables false
theorem own : ownKnob Try.prog.godebug = none := by kernel_rfl
theorem laidOut : laidOutB Try.prog = true := by kernel_rfl
theorem op69 (w : World) : Opens Try.prog w 69 k69 (fun x => wf64 x.f0 ∧ wf64 x.f1 ∧ wf64 x.f2) := by
  have h : Opens Try.prog w 69 (Kd.pair (Kd.int .i64) (Kd.pair (Kd.int .i64) (Kd.int .i64))) _ := opens_struct Try.underlying69 (by kernel_rfl) (opensF_cons rfl (by kernel_rfl) (opens_int Try.underlying2) (opensF_cons rfl (by kernel_rfl) (opens_int Try.underlying2) (opensF_one rfl (by kernel_rfl) (opens_int Try.underlying2))))
  exact opens_iso (fun x : S69 => (x.f0, x.f1, x.f2)) (fun y => ⟨y.1, y.2.1, y.2.2⟩) (fun _ => rfl) h
theorem op103 (w : World) : Opens Try.prog w 103 k103 (fun x => wf64 x.f0 ∧ wf64 x.f1 ∧ wf64 x.f2 ∧ wf64 x.f3 ∧ True) := by
  have h : Opens Try.prog w 103 (Kd.pair (Kd.int .i64) (Kd.pair (Kd.int .i64) (Kd.pair (Kd.int .i64) (Kd.pair (Kd.int .i64) Kd.bool)))) _ := opens_struct Try.underlying103 (by kernel_rfl) (opensF_cons rfl (by kernel_rfl) (opens_int Try.underlying2) (opensF_cons rfl (by kernel_rfl) (opens_int Try.underlying2) (opensF_cons rfl (by kernel_rfl) (opens_int Try.underlying2) (opensF_cons rfl (by kernel_rfl) (opens_int Try.underlying2) (opensF_one rfl (by kernel_rfl) (opens_bool Try.underlying4))))))
  exact opens_iso (fun x : S103 => (x.f0, x.f1, x.f2, x.f3, x.f4)) (fun y => ⟨y.1, y.2.1, y.2.2.1, y.2.2.2.1, y.2.2.2.2⟩) (fun _ => rfl) h
set_option maxRecDepth 100000 in
theorem lifted (os : Os) (started : os.Started) (H : Type) (enc : TypeId × Value → H) :
    ReturnsInHanded {} Try.checked os 10 .any (Rows.fnExactNextDueSpec.pre6 enc Try.prog Try.f10 Rows.fnExactNextDueRow.domain false) (Rows.fnExactNextDueSpec.post enc Try.prog Try.f10 false true false false) := by
  refine returnsInHanded_of_change_sized (C := Try.checked) own started (by kernel_rfl) Try.func10
    (ChangeSpec.witness6 (enc := enc) (C := Try.checked) false ⟨#[], #[.agg #[.slice none 0 0, .slice none 0 0, .int .i64 0]], []⟩ 8 (by kernel_rfl) (by kernel_rfl) (by kernel_rfl) (by kernel_rfl)) ?_
  intro W base args ds gs before hval0 hW hcnd hsz0 _
  have hval : ∀ (j : Nat) t v, Try.f10.params[j]? = some t → args[j]? = some v → Value.okWide Try.prog W .any base t v := hval0
  have hW' := hW
  obtain ⟨p, q, hA0, hV, rfl, hfz, hnd⟩ := hW
  have hA : DataW.TrodAll enc Try.prog W 0 (fun _ => true) true Try.f10.params.toList args.toList ds p := hA0
  rw [Try.params10] at hA hval
  obtain ⟨v0, vs0, d0, ds0, p0, q0, hargs, rfl, rfl, h0, r0⟩ := trodAll_cons hA
  obtain ⟨rfl, rfl, rfl⟩ := trodAll_nil r0
  obtain rfl : args = #[v0] := by cases args; simp_all
  obtain ⟨rfl, rfl⟩ := trodVars_none hV
  have k0 := h0
  have lt0 : ∀ x ∈ p0, x.block < W.heap.size := by obtain ⟨m, hm⟩ := k0; exact DataW.trod_lt m _ _ _ hm
  obtain ⟨cs0, rfl, sz0⟩ := okWide_struct Try.underlying43 (hval 0 43 v0 rfl rfl)
  obtain ⟨fu0, hf0⟩ := h0
  obtain ⟨⟨l0_0, ⟨l0_1, a0_2⟩⟩, hK0, g0⟩ := (show Opens Try.prog W 43 (Kd.pair (Kd.slice 69 k69) (Kd.pair (Kd.slice 103 k103) (Kd.int .i64))) _ from (opens_struct Try.underlying43 (by kernel_rfl) (opensF_cons rfl (by kernel_rfl) (opens_slice Try.underlying22 (op69 _) (by kernel_rfl)) (opensF_cons rfl (by kernel_rfl) (opens_slice Try.underlying41 (op103 _) (by kernel_rfl)) (opensF_one rfl (by kernel_rfl) (opens_int Try.underlying2)))))) _ _ _ _ _ _ _ _ hf0
  obtain ⟨_, _, hcs0, ⟨A0_0, e0_0, rfl, hc0_0, hC0_0⟩, ⟨_, _, rfl, ⟨A0_1, e0_1, rfl, hc0_1, hC0_1⟩, rfl⟩⟩ := hK0
  obtain rfl : cs0 = #[.slice A0_0 l0_0.length e0_0, .slice A0_1 l0_1.length e0_1, .int .i64 a0_2] := by
    apply Array.ext'
    exact hcs0
  clear hA0 hval0 hsz0
  obtain ⟨k, hk⟩ := Pure.FnExactNextDue l0_0 l0_1 a0_2 hC0_0.2.1 hC0_1.2.1 g0
  refine (laws_FnExactNextDue.calls k _ _ l0_0 _ _ l0_1 a0_2 true W hC0_0 hc0_0 hC0_1 hc0_1 hk).mono fun e W' ⟨he, bel⟩ => ?_
  subst he
  exact ⟨_, rfl, _, _, _, [], _, [], hW', trodAll_mk1 (shut_bool Try.underlying4 _), (trodAll_cons_mk (Below.trod laidOut (by kernel_rfl) (of_decide_eq_true (by kernel_rfl)) k0 bel lt0) trodAll_mk0), rfl, bel.frame _, fun h => by cases h⟩
theorem over : Rows.fnExactNextDueRow.holds Try.pinned (OpenSpec.ofChange Rows.fnExactNextDueSpec) :=
  OpenClaim.holds_of_wide 10 Try.f10 rfl rfl rfl rfl rfl rfl rfl ⟨rfl, rfl, rfl, rfl, rfl⟩ rfl rfl rfl rfl rfl (by kernel_rfl) Try.func10 (by kernel_rfl)
    (of_decide_eq_true (by kernel_rfl)) (by unfold Func.isWrapper; first | (rw [if_pos (by decide +kernel)]; kernel_rfl) | (rw [if_neg (by decide +kernel)]; exact ⟨rfl, rfl⟩))
    (fun os started H enc _ => lifted os started H enc)
theorem proved : Rows.FnExactNextDueSaid := over
#print axioms proved
end Go.Proofs.Ytljfflhbabkbgaa.fnExactNextDue
namespace Go.Proofs.Ytljfflhbabkbgaa
/-- The row, under a short name, for the claim. -/
theorem fnExactNextDue_holds : Rows.FnExactNextDueSaid := fnExactNextDue.proved
end Go.Proofs.Ytljfflhbabkbgaa
