-- Printed by this session's own program (wip/tools/xprint.py) over the kit's print; not trusted: Lean checks it.
import Derived.Test.YtpndbaomhcehdaaRows
import Derived.Test.YtpndbaomhcehdaaZExactLevelContentsPFnExactLevelContentsx
import Derived.Test.YtpndbaomhcehdaaZExactLevelContentsPureFnExactLevelContents
import Derived.Test.YtpndbaomhcehdaaZExactLevelContentsX1
import Derived.WalkKit
import Derived.ProofKit
import Derived.OpenShut
import Derived.ShutString
import Derived.ChangeOld
import Derived.Below
import Derived.SizedLaws
namespace Go.Proofs.Ytpndbaomhcehdaa.fnExactLevelContents
open Go.ChangeShapes Go.WideShapes Go.ChangeAt Go.RowKit
open Go.Proofs.YtpndbaomhcehdaaW.PrintWords Go.Proofs.Ytpndbaomhcehdaa.PFnExactLevelContents
open Go.ChangeMaps (open_string shut_string)
set_option linter.unusedVariables false
theorem own : ownKnob Try.prog.godebug = none := by kernel_rfl
theorem laidOut : laidOutB Try.prog = true := by kernel_rfl
set_option maxHeartbeats 400000 in
set_option maxRecDepth 100000 in
theorem open0 {H : Type} {enc : TypeId × Value → H} {W : World} {base b : Nat} {spare : Nat → Bool} {held : Bool} {v : Value} {d : DataW H} {p : List MemPlace} (hv : Value.okWide Try.prog W .any base 49 v) (h : DataW.Trod enc Try.prog W b spare held 49 v d p) :
    ∃ (A0_0 : Option Addr) (c0_0 : Nat) (l0_0 : List (List Int)) (A0_1 : Option Addr) (c0_1 : Nat) (l0_1 : List Int) (A0_2 : Option Addr) (c0_2 : Nat) (l0_2 : List (List Int)) (A0_3 : Option Addr) (c0_3 : Nat) (l0_3 : List Int) (a0_4 : Int), v = .agg #[.slice A0_0 l0_0.length c0_0, .slice A0_1 l0_1.length c0_1, .slice A0_2 l0_2.length c0_2, .slice A0_3 l0_3.length c0_3, .int .i64 a0_4] ∧ l0_0.length ≤ c0_0 ∧ Kd.C (Kd.slice 2 (Kd.int .i64)) W A0_0 l0_0.length l0_0 ∧ (l0_0.length ≤ 9223372036854775807 ∧ ∀ le0_0 ∈ l0_0, (le0_0.length ≤ 9223372036854775807 ∧ ∀ lee0_0 ∈ le0_0, (Lit.int .i64 lee0_0).wf = true)) ∧ l0_1.length ≤ c0_1 ∧ Kd.C (Kd.int .i64) W A0_1 l0_1.length l0_1 ∧ (l0_1.length ≤ 9223372036854775807 ∧ ∀ le0_1 ∈ l0_1, (Lit.int .i64 le0_1).wf = true) ∧ l0_2.length ≤ c0_2 ∧ Kd.C (Kd.slice 2 (Kd.int .i64)) W A0_2 l0_2.length l0_2 ∧ (l0_2.length ≤ 9223372036854775807 ∧ ∀ le0_2 ∈ l0_2, (le0_2.length ≤ 9223372036854775807 ∧ ∀ lee0_2 ∈ le0_2, (Lit.int .i64 lee0_2).wf = true)) ∧ l0_3.length ≤ c0_3 ∧ Kd.C (Kd.int .i64) W A0_3 l0_3.length l0_3 ∧ (l0_3.length ≤ 9223372036854775807 ∧ ∀ le0_3 ∈ l0_3, (Lit.int .i64 le0_3).wf = true) ∧ (Lit.int .i64 a0_4).wf = true := by
  obtain ⟨cs, rfl, hsz⟩ := okWide_struct Try.underlying49 hv
  clear hv
  obtain ⟨l⟩ := cs
  have hC : Try.prog.cellsOf 49 = 5 := by kernel_rfl
  obtain ⟨m, hm0⟩ := h
  have hm : DataW.trod enc Try.prog W b spare held m 49 l = some (d, p) := hm0
  clear hm0
  have hl := hsz.trans hC
  clear hsz hC
  match l, hl with
  | [b0, b1, b2, b3, b4], _ =>
    obtain ⟨_, _, e1⟩ := Opn.field Try.underlying49 hm 0 _ rfl (n := 2) (by kernel_rfl)
    obtain ⟨_, _, e2⟩ := Opn.field Try.underlying47 e1 0 _ rfl (n := 1) (by kernel_rfl)
    obtain ⟨l0_0, ⟨A0_0, c0_0, g0, hc0_0, hr0_0⟩, w0_0⟩ := (Opn.slice Try.underlying27 (by kernel_rfl) (Opn.slice Try.underlying24 (by kernel_rfl) (Opn.int Try.underlying2))) enc W _ _ _ _ _ _ e2
    obtain rfl := (List.cons.inj g0).1
    obtain ⟨_, _, e3⟩ := Opn.field Try.underlying47 e1 1 _ rfl (n := 1) (by kernel_rfl)
    obtain ⟨l0_1, ⟨A0_1, c0_1, g1, hc0_1, hr0_1⟩, w0_1⟩ := (Opn.slice Try.underlying24 (by kernel_rfl) (Opn.int Try.underlying2)) enc W _ _ _ _ _ _ e3
    obtain rfl := (List.cons.inj g1).1
    obtain ⟨_, _, e4⟩ := Opn.field Try.underlying49 hm 1 _ rfl (n := 2) (by kernel_rfl)
    obtain ⟨_, _, e5⟩ := Opn.field Try.underlying47 e4 0 _ rfl (n := 1) (by kernel_rfl)
    obtain ⟨l0_2, ⟨A0_2, c0_2, g2, hc0_2, hr0_2⟩, w0_2⟩ := (Opn.slice Try.underlying27 (by kernel_rfl) (Opn.slice Try.underlying24 (by kernel_rfl) (Opn.int Try.underlying2))) enc W _ _ _ _ _ _ e5
    obtain rfl := (List.cons.inj g2).1
    obtain ⟨_, _, e6⟩ := Opn.field Try.underlying47 e4 1 _ rfl (n := 1) (by kernel_rfl)
    obtain ⟨l0_3, ⟨A0_3, c0_3, g3, hc0_3, hr0_3⟩, w0_3⟩ := (Opn.slice Try.underlying24 (by kernel_rfl) (Opn.int Try.underlying2)) enc W _ _ _ _ _ _ e6
    obtain rfl := (List.cons.inj g3).1
    obtain ⟨_, _, e7⟩ := Opn.field Try.underlying49 hm 2 _ rfl (n := 1) (by kernel_rfl)
    obtain ⟨a0_4, g4, w0_4⟩ := (Opn.int Try.underlying2) enc W _ _ _ _ _ _ e7
    obtain rfl := (List.cons.inj (show _ = [_] from g4)).1
    exact ⟨A0_0, c0_0, l0_0, A0_1, c0_1, l0_1, A0_2, c0_2, l0_2, A0_3, c0_3, l0_3, a0_4, rfl, hc0_0, hr0_0, w0_0, hc0_1, hr0_1, w0_1, hc0_2, hr0_2, w0_2, hc0_3, hr0_3, w0_3, w0_4⟩
set_option maxHeartbeats 400000 in
set_option maxRecDepth 100000 in
theorem open1 {H : Type} {enc : TypeId × Value → H} {W : World} {base b : Nat} {spare : Nat → Bool} {held : Bool} {v : Value} {d : DataW H} {p : List MemPlace} (hv : Value.okWide Try.prog W .any base 24 v) (h : DataW.Trod enc Try.prog W b spare held 24 v d p) :
    ∃ A c l, v = .slice A l.length c ∧ l.length ≤ c ∧ Kd.C (Kd.int .i64) W A l.length l ∧ (l.length ≤ 9223372036854775807 ∧ ∀ le ∈ l, (Lit.int .i64 le).wf = true) := by
  obtain ⟨xa, xn, xc, rfl⟩ := okWide_slice Try.underlying24 hv
  obtain ⟨m, hm⟩ := h
  obtain ⟨l, ⟨A, c, e, hl, hC⟩, hw⟩ := (Opn.slice Try.underlying24 (by kernel_rfl) (Opn.int Try.underlying2)) enc W _ _ _ m _ _ hm
  simp only [Value.cells, List.cons.injEq, Value.slice.injEq, and_true] at e
  obtain ⟨rfl, rfl, rfl⟩ := e
  exact ⟨xa, xc, l, rfl, hl, hC, hw⟩
set_option maxHeartbeats 1000000 in
set_option maxRecDepth 100000 in
theorem lifted (os : Os) (started : os.Started) (H : Type) (enc : TypeId × Value → H) :
    ReturnsInHanded {} Try.checked os 6 .any (Rows.fnExactLevelContentsSpec.pre6 enc Try.prog Try.f6 Rows.fnExactLevelContentsRow.domain false) (Rows.fnExactLevelContentsSpec.post enc Try.prog Try.f6 false true false false) := by
  refine returnsInHanded_of_change_sized (C := Try.checked) own started (by kernel_rfl) Try.func6
    (ChangeSpec.witness6 (enc := enc) (C := Try.checked) false ⟨#[], #[.agg #[.slice none 0 0, .slice none 0 0, .slice none 0 0, .slice none 0 0, .int .i64 0], .slice none 0 0], []⟩ 8 (by kernel_rfl) (by kernel_rfl) (by kernel_rfl) (by kernel_rfl)) ?_
  intro W base args ds gs before hval0 hW hcnd hsz0 _
  have hval : ∀ (j : Nat) t v, Try.f6.params[j]? = some t → args[j]? = some v → Value.okWide Try.prog W .any base t v := hval0
  have hW' := hW
  obtain ⟨p, q, hA0, hV, rfl, hfz, hnd⟩ := hW
  have hA : DataW.TrodAll enc Try.prog W 0 (fun _ => true) true Try.f6.params.toList args.toList ds p := hA0
  rw [Try.params6] at hA hval
  obtain ⟨v0, vs0, d0, ds0, p0, q0, hargs, rfl, rfl, h0, r0⟩ := trodAll_cons hA
  obtain ⟨v1, vs1, d1, ds1, p1, q1, rfl, rfl, rfl, h1, r1⟩ := trodAll_cons r0
  obtain ⟨rfl, rfl, rfl⟩ := trodAll_nil r1
  obtain rfl : args = #[v0, v1] := by cases args; simp_all
  obtain ⟨rfl, rfl⟩ := trodVars_none hV
  have k0 := h0
  have lt0 : ∀ x ∈ p0, x.block < W.heap.size := by obtain ⟨m, hm⟩ := k0; exact DataW.trod_lt m _ _ _ hm
  obtain ⟨A0_0, c0_0, l0_0, A0_1, c0_1, l0_1, A0_2, c0_2, l0_2, A0_3, c0_3, l0_3, a0_4, e0, hc0_0, hr0_0, w0_0, hc0_1, hr0_1, w0_1, hc0_2, hr0_2, w0_2, hc0_3, hr0_3, w0_3, w0_4⟩ := open0 (hval 0 49 v0 rfl rfl) h0
  subst e0
  have k1 := h1
  have lt1 : ∀ x ∈ p1, x.block < W.heap.size := by obtain ⟨m, hm⟩ := k1; exact DataW.trod_lt m _ _ _ hm
  obtain ⟨A1, c1, l1, e1, hc1, hr1, w1⟩ := open1 (hval 1 24 v1 rfl rfl) h1
  subst e1
  clear hA0 hval0 hsz0
  have hk_ := Pure.FnExactLevelContents l0_0 l0_1 l0_2 l0_3 a0_4 l1 w0_0 w0_1 w0_2 w0_3 w0_4 w1
  refine (laws_FnExactLevelContents.calls A0_0 c0_0 l0_0 A0_1 c0_1 l0_1 A0_2 c0_2 l0_2 A0_3 c0_3 l0_3 a0_4 A1 c1 l1 true W hr0_0 hc0_0 hr0_1 hc0_1 hr0_2 hc0_2 hr0_3 hc0_3 hr1 hc1 hk_).mono fun e W' ⟨he, bel0⟩ => ?_
  have bel : Below W.heap.size W W' := bel0
  subst he
  exact ⟨_, rfl, _, _, _, [], _, [], hW', trodAll_mk1 (shut_bool Try.underlying4 _), (trodAll_cons_mk (Below.trod laidOut (by kernel_rfl) (of_decide_eq_true (by kernel_rfl)) k0 bel lt0) (trodAll_cons_mk (Below.trod laidOut (by kernel_rfl) (of_decide_eq_true (by kernel_rfl)) k1 bel lt1) trodAll_mk0)), rfl, bel.frame _, fun h => by cases h⟩
theorem over_name : Try.pinned.checked.prog.funcNamed Rows.fnExactLevelContentsRow.func = some 6 := by kernel_rfl
theorem over_joined : joinedFacts Try.pinned.checked.prog 6 Try.f6 Rows.fnExactLevelContentsSpec Rows.fnExactLevelContentsRow = true := by kernel_rfl
theorem over_inst : Try.f6.isInstance Try.pinned.checked.prog Rows.fnExactLevelContentsRow.origin Rows.fnExactLevelContentsRow.targs := (of_decide_eq_true (by kernel_rfl))
theorem over_wrap : Try.f6.isWrapper Try.pinned.checked.prog Rows.fnExactLevelContentsRow.wrapper Rows.fnExactLevelContentsRow.mainSum := by unfold Func.isWrapper; first | (rw [if_pos (by decide +kernel)]; kernel_rfl) | (rw [if_neg (by decide +kernel)]; exact ⟨rfl, rfl⟩)
theorem over : Rows.fnExactLevelContentsRow.holds Try.pinned (OpenSpec.ofChange Rows.fnExactLevelContentsSpec) :=
  OpenClaim.holds_of_wide 6 Try.f6 rfl rfl rfl rfl rfl rfl rfl ⟨rfl, rfl, rfl, rfl, rfl⟩ rfl rfl rfl rfl rfl over_name Try.func6 over_joined over_inst over_wrap
    (fun os started H enc _ => lifted os started H enc)
theorem proved : Rows.FnExactLevelContentsSaid := over
#print axioms proved
end Go.Proofs.Ytpndbaomhcehdaa.fnExactLevelContents
namespace Go.Proofs.Ytpndbaomhcehdaa
/-- The row, under a short name, for the claim. -/
theorem fnExactLevelContents_holds : Rows.FnExactLevelContentsSaid := fnExactLevelContents.proved
end Go.Proofs.Ytpndbaomhcehdaa
