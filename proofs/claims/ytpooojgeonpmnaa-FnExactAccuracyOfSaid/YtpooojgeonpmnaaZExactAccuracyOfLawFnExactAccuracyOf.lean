-- Printed by this session's own program (wip/tools/xprint.py) over the kit's print; not trusted: Lean checks it.
import Derived.Test.YtpooojgeonpmnaaRows
import Derived.Test.YtpooojgeonpmnaaZExactAccuracyOfPFnExactAccuracyOfx
import Derived.Test.YtpooojgeonpmnaaZExactAccuracyOfPureFnExactAccuracyOf
import Derived.Test.YtpooojgeonpmnaaZExactAccuracyOfX1
import Derived.WalkKit
import Derived.ProofKit
import Derived.OpenShut
import Derived.ShutString
import Derived.ChangeOld
import Derived.Below
import Derived.SizedLaws
namespace Go.Proofs.Ytpooojgeonpmnaa.fnExactAccuracyOf
open Go.ChangeShapes Go.WideShapes Go.ChangeAt Go.RowKit
open Go.Proofs.YtpooojgeonpmnaaW.PrintWords Go.Proofs.Ytpooojgeonpmnaa.PFnExactAccuracyOf
open Go.ChangeMaps (open_string shut_string)
set_option linter.unusedVariables false
theorem own : ownKnob Try.prog.godebug = none := by kernel_rfl
theorem laidOut : laidOutB Try.prog = true := by kernel_rfl
set_option maxHeartbeats 400000 in
set_option maxRecDepth 100000 in
theorem open0 {H : Type} {enc : TypeId × Value → H} {W : World} {base b : Nat} {spare : Nat → Bool} {held : Bool} {v : Value} {d : DataW H} {p : List MemPlace} (hv : Value.okWide Try.prog W .any base 53 v) (h : DataW.Trod enc Try.prog W b spare held 53 v d p) :
    ∃ (a0_0 : Int) (a0_1 : Int) (a0_2 : Int) (a0_3 : Int), v = .agg #[.int .i64 a0_0, .int .i64 a0_1, .int .i64 a0_2, .int .i64 a0_3] ∧ (Lit.int .i64 a0_0).wf = true ∧ (Lit.int .i64 a0_1).wf = true ∧ (Lit.int .i64 a0_2).wf = true ∧ (Lit.int .i64 a0_3).wf = true := by
  obtain ⟨cs, rfl, hsz⟩ := okWide_struct Try.underlying53 hv
  clear hv
  obtain ⟨l⟩ := cs
  have hC : Try.prog.cellsOf 53 = 4 := by kernel_rfl
  obtain ⟨m, hm0⟩ := h
  have hm : DataW.trod enc Try.prog W b spare held m 53 l = some (d, p) := hm0
  clear hm0
  have hl := hsz.trans hC
  clear hsz hC
  match l, hl with
  | [b0, b1, b2, b3], _ =>
    obtain ⟨_, _, e1⟩ := Opn.field Try.underlying53 hm 0 _ rfl (n := 1) (by kernel_rfl)
    obtain ⟨a0_0, g0, w0_0⟩ := (Opn.int Try.underlying2) enc W _ _ _ _ _ _ e1
    obtain rfl := (List.cons.inj (show _ = [_] from g0)).1
    obtain ⟨_, _, e2⟩ := Opn.field Try.underlying53 hm 1 _ rfl (n := 1) (by kernel_rfl)
    obtain ⟨a0_1, g1, w0_1⟩ := (Opn.int Try.underlying2) enc W _ _ _ _ _ _ e2
    obtain rfl := (List.cons.inj (show _ = [_] from g1)).1
    obtain ⟨_, _, e3⟩ := Opn.field Try.underlying53 hm 2 _ rfl (n := 1) (by kernel_rfl)
    obtain ⟨a0_2, g2, w0_2⟩ := (Opn.int Try.underlying2) enc W _ _ _ _ _ _ e3
    obtain rfl := (List.cons.inj (show _ = [_] from g2)).1
    obtain ⟨_, _, e4⟩ := Opn.field Try.underlying53 hm 3 _ rfl (n := 1) (by kernel_rfl)
    obtain ⟨a0_3, g3, w0_3⟩ := (Opn.int Try.underlying2) enc W _ _ _ _ _ _ e4
    obtain rfl := (List.cons.inj (show _ = [_] from g3)).1
    exact ⟨a0_0, a0_1, a0_2, a0_3, rfl, w0_0, w0_1, w0_2, w0_3⟩
set_option maxHeartbeats 400000 in
set_option maxRecDepth 100000 in
theorem open1 {H : Type} {enc : TypeId × Value → H} {W : World} {base b : Nat} {spare : Nat → Bool} {held : Bool} {v : Value} {d : DataW H} {p : List MemPlace} (hv : Value.okWide Try.prog W .any base 54 v) (h : DataW.Trod enc Try.prog W b spare held 54 v d p) :
    ∃ A c l, v = .slice A l.length c ∧ l.length ≤ c ∧ Kd.C k89 W A l.length l ∧ (l.length ≤ 9223372036854775807 ∧ ∀ le ∈ l, True) := by
  obtain ⟨xa, xn, xc, rfl⟩ := okWide_slice Try.underlying54 hv
  obtain ⟨m, hm⟩ := h
  obtain ⟨l, ⟨A, c, e, hl, hC⟩, hw⟩ := (Opn.slice Try.underlying54 (by kernel_rfl) (Opn.struct2 (g := fun x : S89 => (x.f0, x.f1)) (g' := fun a0 a1 => (⟨a0, a1⟩ : S89)) Try.underlying89 (fun _ _ => rfl) (by kernel_rfl) (by kernel_rfl) rfl rfl (by kernel_rfl) (Opn.int Try.underlying2) (Opn.int Try.underlying2))) enc W _ _ _ m _ _ hm
  simp only [Value.cells, List.cons.injEq, Value.slice.injEq, and_true] at e
  obtain ⟨rfl, rfl, rfl⟩ := e
  exact ⟨xa, xc, l, rfl, hl, hC, hw⟩
set_option maxHeartbeats 1000000 in
set_option maxRecDepth 100000 in
theorem lifted (os : Os) (started : os.Started) (H : Type) (enc : TypeId × Value → H) :
    ReturnsInHanded {} Try.checked os 8 .any (Rows.fnExactAccuracyOfSpec.pre6 enc Try.prog Try.f8 Rows.fnExactAccuracyOfRow.domain false) (Rows.fnExactAccuracyOfSpec.post enc Try.prog Try.f8 false true false false) := by
  refine returnsInHanded_of_change_sized (C := Try.checked) own started (by kernel_rfl) Try.func8
    (ChangeSpec.witness6 (enc := enc) (C := Try.checked) false ⟨#[], #[.agg #[.int .i64 0, .int .i64 0, .int .i64 0, .int .i64 0], .slice none 0 0], []⟩ 8 (by kernel_rfl) (by kernel_rfl) (by kernel_rfl) (by kernel_rfl)) ?_
  intro W base args ds gs before hval0 hW hcnd hsz0 _
  have hval : ∀ (j : Nat) t v, Try.f8.params[j]? = some t → args[j]? = some v → Value.okWide Try.prog W .any base t v := hval0
  have hW' := hW
  obtain ⟨p, q, hA0, hV, rfl, hfz, hnd⟩ := hW
  have hA : DataW.TrodAll enc Try.prog W 0 (fun _ => true) true Try.f8.params.toList args.toList ds p := hA0
  rw [Try.params8] at hA hval
  obtain ⟨v0, vs0, d0, ds0, p0, q0, hargs, rfl, rfl, h0, r0⟩ := trodAll_cons hA
  obtain ⟨v1, vs1, d1, ds1, p1, q1, rfl, rfl, rfl, h1, r1⟩ := trodAll_cons r0
  obtain ⟨rfl, rfl, rfl⟩ := trodAll_nil r1
  obtain rfl : args = #[v0, v1] := by cases args; simp_all
  obtain ⟨rfl, rfl⟩ := trodVars_none hV
  have k0 := h0
  have lt0 : ∀ x ∈ p0, x.block < W.heap.size := by obtain ⟨m, hm⟩ := k0; exact DataW.trod_lt m _ _ _ hm
  obtain ⟨a0_0, a0_1, a0_2, a0_3, e0, w0_0, w0_1, w0_2, w0_3⟩ := open0 (hval 0 53 v0 rfl rfl) h0
  subst e0
  have k1 := h1
  have lt1 : ∀ x ∈ p1, x.block < W.heap.size := by obtain ⟨m, hm⟩ := k1; exact DataW.trod_lt m _ _ _ hm
  obtain ⟨A1, c1, l1, e1, hc1, hr1, w1⟩ := open1 (hval 1 54 v1 rfl rfl) h1
  subst e1
  clear hA0 hval0 hsz0
  obtain ⟨k_, hk_⟩ := Pure.FnExactAccuracyOf a0_0 a0_1 a0_2 a0_3 l1 w0_0 w0_1 w0_2 w0_3 w1
  refine (laws_FnExactAccuracyOf.calls k_ a0_0 a0_1 a0_2 a0_3 A1 c1 l1 true W hr1 hc1 hk_).mono fun e W' ⟨he, bel0⟩ => ?_
  have bel : Below W.heap.size W W' := bel0
  subst he
  exact ⟨_, rfl, _, _, _, [], _, [], hW', trodAll_mk1 (shut_bool Try.underlying4 _), (trodAll_cons_mk (Below.trod laidOut (by kernel_rfl) (of_decide_eq_true (by kernel_rfl)) k0 bel lt0) (trodAll_cons_mk (Below.trod laidOut (by kernel_rfl) (of_decide_eq_true (by kernel_rfl)) k1 bel lt1) trodAll_mk0)), rfl, bel.frame _, fun h => by cases h⟩
theorem over_name : Try.pinned.checked.prog.funcNamed Rows.fnExactAccuracyOfRow.func = some 8 := by kernel_rfl
theorem over_joined : joinedFacts Try.pinned.checked.prog 8 Try.f8 Rows.fnExactAccuracyOfSpec Rows.fnExactAccuracyOfRow = true := by kernel_rfl
theorem over_inst : Try.f8.isInstance Try.pinned.checked.prog Rows.fnExactAccuracyOfRow.origin Rows.fnExactAccuracyOfRow.targs := (of_decide_eq_true (by kernel_rfl))
theorem over_wrap : Try.f8.isWrapper Try.pinned.checked.prog Rows.fnExactAccuracyOfRow.wrapper Rows.fnExactAccuracyOfRow.mainSum := by unfold Func.isWrapper; first | (rw [if_pos (by decide +kernel)]; kernel_rfl) | (rw [if_neg (by decide +kernel)]; exact ⟨rfl, rfl⟩)
theorem over : Rows.fnExactAccuracyOfRow.holds Try.pinned (OpenSpec.ofChange Rows.fnExactAccuracyOfSpec) :=
  OpenClaim.holds_of_wide 8 Try.f8 rfl rfl rfl rfl rfl rfl rfl ⟨rfl, rfl, rfl, rfl, rfl⟩ rfl rfl rfl rfl rfl over_name Try.func8 over_joined over_inst over_wrap
    (fun os started H enc _ => lifted os started H enc)
theorem proved : Rows.FnExactAccuracyOfSaid := over
#print axioms proved
end Go.Proofs.Ytpooojgeonpmnaa.fnExactAccuracyOf
namespace Go.Proofs.Ytpooojgeonpmnaa
/-- The row, under a short name, for the claim. -/
theorem fnExactAccuracyOf_holds : Rows.FnExactAccuracyOfSaid := fnExactAccuracyOf.proved
end Go.Proofs.Ytpooojgeonpmnaa
