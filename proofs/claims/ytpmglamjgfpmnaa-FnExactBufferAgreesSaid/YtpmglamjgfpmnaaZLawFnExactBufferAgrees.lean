-- Printed by this session's own program (wip/tools/xprint.py) over the kit's print; not trusted: Lean checks it.
import Derived.Test.YtpmglamjgfpmnaaRows
import Derived.Test.YtpmglamjgfpmnaaZPFnExactBufferAgreesx
import Derived.Test.YtpmglamjgfpmnaaZPureFnExactBufferAgrees
import Derived.Test.YtpmglamjgfpmnaaZX1
import Derived.WalkKit
import Derived.ProofKit
import Derived.OpenShut
import Derived.ShutString
import Derived.ChangeOld
import Derived.Below
import Derived.SizedLaws
namespace Go.Proofs.Ytpmglamjgfpmnaa.fnExactBufferAgrees
open Go.ChangeShapes Go.WideShapes Go.ChangeAt Go.RowKit
open Go.Proofs.YtpmglamjgfpmnaaW.PrintWords Go.Proofs.Ytpmglamjgfpmnaa.PFnExactBufferAgrees
open Go.ChangeMaps (open_string shut_string)
set_option linter.unusedVariables false
theorem own : ownKnob Try.prog.godebug = none := by kernel_rfl
theorem laidOut : laidOutB Try.prog = true := by kernel_rfl
set_option maxHeartbeats 400000 in
set_option maxRecDepth 100000 in
theorem open0 {H : Type} {enc : TypeId × Value → H} {W : World} {base b : Nat} {spare : Nat → Bool} {held : Bool} {v : Value} {d : DataW H} {p : List MemPlace} (hv : Value.okWide Try.prog W .any base 26 v) (h : DataW.Trod enc Try.prog W b spare held 26 v d p) :
    ∃ (A0_0 : Option Addr) (c0_0 : Nat) (l0_0 : List Int) (A0_1 : Option Addr) (c0_1 : Nat) (l0_1 : List (List (S93))) (A0_2 : Option Addr) (c0_2 : Nat) (l0_2 : List (S82)), v = .agg #[.slice A0_0 l0_0.length c0_0, .slice A0_1 l0_1.length c0_1, .slice A0_2 l0_2.length c0_2] ∧ l0_0.length ≤ c0_0 ∧ Kd.C (Kd.int .i64) W A0_0 l0_0.length l0_0 ∧ (l0_0.length ≤ 9223372036854775807 ∧ ∀ le0_0 ∈ l0_0, (Lit.int .i64 le0_0).wf = true) ∧ l0_1.length ≤ c0_1 ∧ Kd.C (Kd.slice 93 k93) W A0_1 l0_1.length l0_1 ∧ (l0_1.length ≤ 9223372036854775807 ∧ ∀ le0_1 ∈ l0_1, (le0_1.length ≤ 9223372036854775807 ∧ ∀ lee0_1 ∈ le0_1, True)) ∧ l0_2.length ≤ c0_2 ∧ Kd.C k82 W A0_2 l0_2.length l0_2 ∧ (l0_2.length ≤ 9223372036854775807 ∧ ∀ le0_2 ∈ l0_2, True) := by
  obtain ⟨cs, rfl, hsz⟩ := okWide_struct Try.underlying26 hv
  clear hv
  obtain ⟨l⟩ := cs
  have hC : Try.prog.cellsOf 26 = 3 := by kernel_rfl
  obtain ⟨m, hm0⟩ := h
  have hm : DataW.trod enc Try.prog W b spare held m 26 l = some (d, p) := hm0
  clear hm0
  have hl := hsz.trans hC
  clear hsz hC
  match l, hl with
  | [b0, b1, b2], _ =>
    obtain ⟨_, _, e1⟩ := Opn.field Try.underlying26 hm 0 _ rfl (n := 1) (by kernel_rfl)
    obtain ⟨l0_0, ⟨A0_0, c0_0, g0, hc0_0, hr0_0⟩, w0_0⟩ := (Opn.slice Try.underlying22 (by kernel_rfl) (Opn.int Try.underlying2)) enc W _ _ _ _ _ _ e1
    obtain rfl := (List.cons.inj g0).1
    obtain ⟨_, _, e2⟩ := Opn.field Try.underlying26 hm 1 _ rfl (n := 1) (by kernel_rfl)
    obtain ⟨l0_1, ⟨A0_1, c0_1, g1, hc0_1, hr0_1⟩, w0_1⟩ := (Opn.slice Try.underlying23 (by kernel_rfl) (Opn.slice Try.underlying75 (by kernel_rfl) (Opn.struct4 (g := fun x : S93 => (x.f0, x.f1, x.f2, x.f3)) (g' := fun a0 a1 a2 a3 => (⟨a0, a1, a2, a3⟩ : S93)) Try.underlying93 (fun _ _ _ _ => rfl) (by kernel_rfl) (by kernel_rfl) (by kernel_rfl) (by kernel_rfl) rfl rfl rfl rfl (by kernel_rfl) (Opn.int Try.underlying2) (Opn.bool Try.underlying4) (Opn.bool Try.underlying4) (Opn.bool Try.underlying4)))) enc W _ _ _ _ _ _ e2
    obtain rfl := (List.cons.inj g1).1
    obtain ⟨_, _, e3⟩ := Opn.field Try.underlying26 hm 2 _ rfl (n := 1) (by kernel_rfl)
    obtain ⟨l0_2, ⟨A0_2, c0_2, g2, hc0_2, hr0_2⟩, w0_2⟩ := (Opn.slice Try.underlying24 (by kernel_rfl) (Opn.struct3 (g := fun x : S82 => (x.f0, x.f1, x.f2)) (g' := fun a0 a1 a2 => (⟨a0, a1, a2⟩ : S82)) Try.underlying82 (fun _ _ _ => rfl) (by kernel_rfl) (by kernel_rfl) (by kernel_rfl) rfl rfl rfl (by kernel_rfl) (Opn.int Try.underlying2) (Opn.int Try.underlying2) (Opn.bool Try.underlying4))) enc W _ _ _ _ _ _ e3
    obtain rfl := (List.cons.inj g2).1
    exact ⟨A0_0, c0_0, l0_0, A0_1, c0_1, l0_1, A0_2, c0_2, l0_2, rfl, hc0_0, hr0_0, w0_0, hc0_1, hr0_1, w0_1, hc0_2, hr0_2, w0_2⟩
set_option maxHeartbeats 1000000 in
set_option maxRecDepth 100000 in
theorem lifted (os : Os) (started : os.Started) (H : Type) (enc : TypeId × Value → H) :
    ReturnsInHanded {} Try.checked os 3 .any (Rows.fnExactBufferAgreesSpec.pre6 enc Try.prog Try.f3 Rows.fnExactBufferAgreesRow.domain false) (Rows.fnExactBufferAgreesSpec.post enc Try.prog Try.f3 false true false false) := by
  refine returnsInHanded_of_change_sized (C := Try.checked) own started (by kernel_rfl) Try.func3
    (ChangeSpec.witness6 (enc := enc) (C := Try.checked) false ⟨#[], #[.agg #[.slice none 0 0, .slice none 0 0, .slice none 0 0]], []⟩ 8 (by kernel_rfl) (by kernel_rfl) (by kernel_rfl) (by kernel_rfl)) ?_
  intro W base args ds gs before hval0 hW hcnd hsz0 _
  have hval : ∀ (j : Nat) t v, Try.f3.params[j]? = some t → args[j]? = some v → Value.okWide Try.prog W .any base t v := hval0
  have hW' := hW
  obtain ⟨p, q, hA0, hV, rfl, hfz, hnd⟩ := hW
  have hA : DataW.TrodAll enc Try.prog W 0 (fun _ => true) true Try.f3.params.toList args.toList ds p := hA0
  rw [Try.params3] at hA hval
  obtain ⟨v0, vs0, d0, ds0, p0, q0, hargs, rfl, rfl, h0, r0⟩ := trodAll_cons hA
  obtain ⟨rfl, rfl, rfl⟩ := trodAll_nil r0
  obtain rfl : args = #[v0] := by cases args; simp_all
  obtain ⟨rfl, rfl⟩ := trodVars_none hV
  have k0 := h0
  have lt0 : ∀ x ∈ p0, x.block < W.heap.size := by obtain ⟨m, hm⟩ := k0; exact DataW.trod_lt m _ _ _ hm
  obtain ⟨A0_0, c0_0, l0_0, A0_1, c0_1, l0_1, A0_2, c0_2, l0_2, e0, hc0_0, hr0_0, w0_0, hc0_1, hr0_1, w0_1, hc0_2, hr0_2, w0_2⟩ := open0 (hval 0 26 v0 rfl rfl) h0
  subst e0
  clear hA0 hval0 hsz0
  obtain ⟨k_, hk_⟩ := Pure.FnExactBufferAgrees l0_0 l0_1 l0_2 w0_0 w0_1 w0_2
  refine (laws_FnExactBufferAgrees.calls k_ A0_0 c0_0 l0_0 A0_1 c0_1 l0_1 A0_2 c0_2 l0_2 true W hr0_0 hc0_0 hr0_1 hc0_1 hr0_2 hc0_2 hk_).mono fun e W' ⟨he, bel0⟩ => ?_
  have bel : Below W.heap.size W W' := bel0
  subst he
  exact ⟨_, rfl, _, _, _, [], _, [], hW', trodAll_mk1 (shut_bool Try.underlying4 _), (trodAll_cons_mk (Below.trod laidOut (by kernel_rfl) (of_decide_eq_true (by kernel_rfl)) k0 bel lt0) trodAll_mk0), rfl, bel.frame _, fun h => by cases h⟩
theorem over_name : Try.pinned.checked.prog.funcNamed Rows.fnExactBufferAgreesRow.func = some 3 := by kernel_rfl
theorem over_joined : joinedFacts Try.pinned.checked.prog 3 Try.f3 Rows.fnExactBufferAgreesSpec Rows.fnExactBufferAgreesRow = true := by kernel_rfl
theorem over_inst : Try.f3.isInstance Try.pinned.checked.prog Rows.fnExactBufferAgreesRow.origin Rows.fnExactBufferAgreesRow.targs := (of_decide_eq_true (by kernel_rfl))
theorem over_wrap : Try.f3.isWrapper Try.pinned.checked.prog Rows.fnExactBufferAgreesRow.wrapper Rows.fnExactBufferAgreesRow.mainSum := by unfold Func.isWrapper; first | (rw [if_pos (by decide +kernel)]; kernel_rfl) | (rw [if_neg (by decide +kernel)]; exact ⟨rfl, rfl⟩)
theorem over : Rows.fnExactBufferAgreesRow.holds Try.pinned (OpenSpec.ofChange Rows.fnExactBufferAgreesSpec) :=
  OpenClaim.holds_of_wide 3 Try.f3 rfl rfl rfl rfl rfl rfl rfl ⟨rfl, rfl, rfl, rfl, rfl⟩ rfl rfl rfl rfl rfl over_name Try.func3 over_joined over_inst over_wrap
    (fun os started H enc _ => lifted os started H enc)
theorem proved : Rows.FnExactBufferAgreesSaid := over
#print axioms proved
end Go.Proofs.Ytpmglamjgfpmnaa.fnExactBufferAgrees
namespace Go.Proofs.Ytpmglamjgfpmnaa
/-- The row, under a short name, for the claim. -/
theorem fnExactBufferAgrees_holds : Rows.FnExactBufferAgreesSaid := fnExactBufferAgrees.proved
end Go.Proofs.Ytpmglamjgfpmnaa
