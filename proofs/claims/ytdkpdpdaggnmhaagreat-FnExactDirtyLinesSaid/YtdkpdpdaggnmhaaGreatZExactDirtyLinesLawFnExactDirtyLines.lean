-- Printed by this session's own program (wip/tools/xprint.py) over the kit's print; not trusted: Lean checks it.
import Derived.Test.YtdkpdpdaggnmhaaGreatRows
import Derived.Test.YtdkpdpdaggnmhaaGreatZExactDirtyLinesPFnExactDirtyLinesx
import Derived.Test.YtdkpdpdaggnmhaaGreatZExactDirtyLinesPureFnExactDirtyLines
import Derived.Test.YtdkpdpdaggnmhaaGreatZExactDirtyLinesX1
import Derived.WalkKit
import Derived.ProofKit
import Derived.OpenShut
import Derived.ShutString
import Derived.ChangeOld
import Derived.Below
import Derived.SizedLaws
namespace Go.Proofs.YtdkpdpdaggnmhaaGreat.fnExactDirtyLines
open Go.ChangeShapes Go.WideShapes Go.ChangeAt Go.RowKit
open Go.Proofs.YtdkpdpdaggnmhaaGreatW.PrintWords Go.Proofs.YtdkpdpdaggnmhaaGreat.PFnExactDirtyLines
open Go.ChangeMaps (open_string shut_string)
set_option linter.unusedVariables false
theorem own : ownKnob Tryz.prog.godebug = none := by kernel_rfl
theorem laidOut : laidOutB Tryz.prog = true := by kernel_rfl
set_option maxHeartbeats 400000 in
set_option maxRecDepth 100000 in
theorem open0 {H : Type} {enc : TypeId × Value → H} {W : World} {base b : Nat} {spare : Nat → Bool} {held : Bool} {v : Value} {d : DataW H} {p : List MemPlace} (hv : Value.okWide Tryz.prog W .any base 27 v) (h : DataW.Trod enc Tryz.prog W b spare held 27 v d p) :
    ∃ (A0_0 : Option Addr) (c0_0 : Nat) (l0_0 : List (List Int)) (A0_1 : Option Addr) (c0_1 : Nat) (l0_1 : List Int) (a0_2 : Bool) (a0_3 : Bool), v = .agg #[.slice A0_0 l0_0.length c0_0, .slice A0_1 l0_1.length c0_1, .bool a0_2, .bool a0_3] ∧ l0_0.length ≤ c0_0 ∧ Kd.C (Kd.slice 2 (Kd.int .i64)) W A0_0 l0_0.length l0_0 ∧ (l0_0.length ≤ 9223372036854775807 ∧ ∀ le0_0 ∈ l0_0, (le0_0.length ≤ 9223372036854775807 ∧ ∀ lee0_0 ∈ le0_0, (Lit.int .i64 lee0_0).wf = true)) ∧ l0_1.length ≤ c0_1 ∧ Kd.C (Kd.int .i64) W A0_1 l0_1.length l0_1 ∧ (l0_1.length ≤ 9223372036854775807 ∧ ∀ le0_1 ∈ l0_1, (Lit.int .i64 le0_1).wf = true) := by
  obtain ⟨cs, rfl, hsz⟩ := okWide_struct Tryz.underlying27 hv
  clear hv
  obtain ⟨l⟩ := cs
  have hC : Tryz.prog.cellsOf 27 = 4 := by kernel_rfl
  obtain ⟨m, hm0⟩ := h
  have hm : DataW.trod enc Tryz.prog W b spare held m 27 l = some (d, p) := hm0
  clear hm0
  have hl := hsz.trans hC
  clear hsz hC
  match l, hl with
  | [b0, b1, b2, b3], _ =>
    obtain ⟨_, _, e1⟩ := Opn.field Tryz.underlying27 hm 0 _ rfl (n := 2) (by kernel_rfl)
    obtain ⟨_, _, e2⟩ := Opn.field Tryz.underlying25 e1 0 _ rfl (n := 1) (by kernel_rfl)
    obtain ⟨l0_0, ⟨A0_0, c0_0, g0, hc0_0, hr0_0⟩, w0_0⟩ := (Opn.slice Tryz.underlying22 (by kernel_rfl) (Opn.slice Tryz.underlying23 (by kernel_rfl) (Opn.int Tryz.underlying2))) enc W _ _ _ _ _ _ e2
    obtain rfl := (List.cons.inj g0).1
    obtain ⟨_, _, e3⟩ := Opn.field Tryz.underlying25 e1 1 _ rfl (n := 1) (by kernel_rfl)
    obtain ⟨l0_1, ⟨A0_1, c0_1, g1, hc0_1, hr0_1⟩, w0_1⟩ := (Opn.slice Tryz.underlying23 (by kernel_rfl) (Opn.int Tryz.underlying2)) enc W _ _ _ _ _ _ e3
    obtain rfl := (List.cons.inj g1).1
    obtain ⟨_, _, e4⟩ := Opn.field Tryz.underlying27 hm 1 _ rfl (n := 1) (by kernel_rfl)
    obtain ⟨a0_2, g2, w0_2⟩ := (Opn.bool Tryz.underlying4) enc W _ _ _ _ _ _ e4
    obtain rfl := (List.cons.inj (show _ = [_] from g2)).1
    obtain ⟨_, _, e5⟩ := Opn.field Tryz.underlying27 hm 2 _ rfl (n := 1) (by kernel_rfl)
    obtain ⟨a0_3, g3, w0_3⟩ := (Opn.bool Tryz.underlying4) enc W _ _ _ _ _ _ e5
    obtain rfl := (List.cons.inj (show _ = [_] from g3)).1
    exact ⟨A0_0, c0_0, l0_0, A0_1, c0_1, l0_1, a0_2, a0_3, rfl, hc0_0, hr0_0, w0_0, hc0_1, hr0_1, w0_1⟩
set_option maxHeartbeats 400000 in
set_option maxRecDepth 100000 in
theorem open1 {H : Type} {enc : TypeId × Value → H} {W : World} {base b : Nat} {spare : Nat → Bool} {held : Bool} {v : Value} {d : DataW H} {p : List MemPlace} (hv : Value.okWide Tryz.prog W .any base 28 v) (h : DataW.Trod enc Tryz.prog W b spare held 28 v d p) :
    ∃ A c l, v = .slice A l.length c ∧ l.length ≤ c ∧ Kd.C k60 W A l.length l ∧ (l.length ≤ 9223372036854775807 ∧ ∀ le ∈ l, True) := by
  obtain ⟨xa, xn, xc, rfl⟩ := okWide_slice Tryz.underlying28 hv
  obtain ⟨m, hm⟩ := h
  obtain ⟨l, ⟨A, c, e, hl, hC⟩, hw⟩ := (Opn.slice Tryz.underlying28 (by kernel_rfl) (Opn.struct2 (g := fun x : S60 => (x.f0, x.f1)) (g' := fun a0 a1 => (⟨a0, a1⟩ : S60)) Tryz.underlying60 (fun _ _ => rfl) (by kernel_rfl) (by kernel_rfl) rfl rfl (by kernel_rfl) (Opn.int Tryz.underlying2) (Opn.int Tryz.underlying2))) enc W _ _ _ m _ _ hm
  simp only [Value.cells, List.cons.injEq, Value.slice.injEq, and_true] at e
  obtain ⟨rfl, rfl, rfl⟩ := e
  exact ⟨xa, xc, l, rfl, hl, hC, hw⟩
set_option maxHeartbeats 1000000 in
set_option maxRecDepth 100000 in
theorem lifted (os : Os) (started : os.Started) (H : Type) (enc : TypeId × Value → H) :
    ReturnsInHanded {} Tryz.checked os 5 .any (Rows.fnExactDirtyLinesSpec.pre6 enc Tryz.prog Tryz.f5 Rows.fnExactDirtyLinesRow.domain false) (Rows.fnExactDirtyLinesSpec.post enc Tryz.prog Tryz.f5 false true false false) := by
  refine returnsInHanded_of_change_sized (C := Tryz.checked) own started (by kernel_rfl) Tryz.func5
    (ChangeSpec.witness6 (enc := enc) (C := Tryz.checked) false ⟨#[], #[.agg #[.slice none 0 0, .slice none 0 0, .bool false, .bool false], .slice none 0 0], []⟩ 8 (by kernel_rfl) (by kernel_rfl) (by kernel_rfl) (by kernel_rfl)) ?_
  intro W base args ds gs before hval0 hW hcnd hsz0 _
  have hval : ∀ (j : Nat) t v, Tryz.f5.params[j]? = some t → args[j]? = some v → Value.okWide Tryz.prog W .any base t v := hval0
  have hW' := hW
  obtain ⟨p, q, hA0, hV, rfl, hfz, hnd⟩ := hW
  have hA : DataW.TrodAll enc Tryz.prog W 0 (fun _ => true) true Tryz.f5.params.toList args.toList ds p := hA0
  rw [Tryz.params5] at hA hval
  obtain ⟨v0, vs0, d0, ds0, p0, q0, hargs, rfl, rfl, h0, r0⟩ := trodAll_cons hA
  obtain ⟨v1, vs1, d1, ds1, p1, q1, rfl, rfl, rfl, h1, r1⟩ := trodAll_cons r0
  obtain ⟨rfl, rfl, rfl⟩ := trodAll_nil r1
  obtain rfl : args = #[v0, v1] := by cases args; simp_all
  obtain ⟨rfl, rfl⟩ := trodVars_none hV
  have k0 := h0
  have lt0 : ∀ x ∈ p0, x.block < W.heap.size := by obtain ⟨m, hm⟩ := k0; exact DataW.trod_lt m _ _ _ hm
  obtain ⟨A0_0, c0_0, l0_0, A0_1, c0_1, l0_1, a0_2, a0_3, e0, hc0_0, hr0_0, w0_0, hc0_1, hr0_1, w0_1⟩ := open0 (hval 0 27 v0 rfl rfl) h0
  subst e0
  have k1 := h1
  have lt1 : ∀ x ∈ p1, x.block < W.heap.size := by obtain ⟨m, hm⟩ := k1; exact DataW.trod_lt m _ _ _ hm
  obtain ⟨A1, c1, l1, e1, hc1, hr1, w1⟩ := open1 (hval 1 28 v1 rfl rfl) h1
  subst e1
  clear hA0 hval0 hsz0
  have hk_ := Pure.FnExactDirtyLines l0_0 l0_1 a0_2 a0_3 l1 w0_0 w0_1 w1
  refine (laws_FnExactDirtyLines.calls A0_0 c0_0 l0_0 A0_1 c0_1 l0_1 a0_2 a0_3 A1 c1 l1 true W hr0_0 hc0_0 hr0_1 hc0_1 hr1 hc1 hk_).mono fun e W' ⟨he, bel0⟩ => ?_
  have bel : Below W.heap.size W W' := bel0
  subst he
  exact ⟨_, rfl, _, _, _, [], _, [], hW', trodAll_mk1 (shut_bool Tryz.underlying4 _), (trodAll_cons_mk (Below.trod laidOut (by kernel_rfl) (of_decide_eq_true (by kernel_rfl)) k0 bel lt0) (trodAll_cons_mk (Below.trod laidOut (by kernel_rfl) (of_decide_eq_true (by kernel_rfl)) k1 bel lt1) trodAll_mk0)), rfl, bel.frame _, fun h => by cases h⟩
theorem over_name : Tryz.pinned.checked.prog.funcNamed Rows.fnExactDirtyLinesRow.func = some 5 := by kernel_rfl
theorem over_joined : joinedFacts Tryz.pinned.checked.prog 5 Tryz.f5 Rows.fnExactDirtyLinesSpec Rows.fnExactDirtyLinesRow = true := by kernel_rfl
theorem over_inst : Tryz.f5.isInstance Tryz.pinned.checked.prog Rows.fnExactDirtyLinesRow.origin Rows.fnExactDirtyLinesRow.targs := (of_decide_eq_true (by kernel_rfl))
theorem over_wrap : Tryz.f5.isWrapper Tryz.pinned.checked.prog Rows.fnExactDirtyLinesRow.wrapper Rows.fnExactDirtyLinesRow.mainSum := by unfold Func.isWrapper; first | (rw [if_pos (by decide +kernel)]; kernel_rfl) | (rw [if_neg (by decide +kernel)]; exact ⟨rfl, rfl⟩)
theorem over : Rows.fnExactDirtyLinesRow.holds Tryz.pinned (OpenSpec.ofChange Rows.fnExactDirtyLinesSpec) :=
  OpenClaim.holds_of_wide 5 Tryz.f5 rfl rfl rfl rfl rfl rfl rfl ⟨rfl, rfl, rfl, rfl, rfl⟩ rfl rfl rfl rfl rfl over_name Tryz.func5 over_joined over_inst over_wrap
    (fun os started H enc _ => lifted os started H enc)
theorem proved : Rows.FnExactDirtyLinesSaid := over
#print axioms proved
end Go.Proofs.YtdkpdpdaggnmhaaGreat.fnExactDirtyLines
namespace Go.Proofs.YtdkpdpdaggnmhaaGreat
/-- The row, under a short name, for the claim. -/
theorem fnExactDirtyLines_holds : Rows.FnExactDirtyLinesSaid := fnExactDirtyLines.proved
end Go.Proofs.YtdkpdpdaggnmhaaGreat
