-- Printed by this session's own program (wip/tools/xprint.py) over the kit's print; not trusted: Lean checks it.
import Derived.Test.YthahiogiafibmaaRows
import Derived.Test.YthahiogiafibmaaPFnExactFirstBreakx
import Derived.Test.YthahiogiafibmaaPureFnExactFirstBreak
import Derived.Test.YthahiogiafibmaaX1
import Derived.WalkKit
import Derived.ProofKit
import Derived.OpenShut
import Derived.ShutString
import Derived.ChangeOld
import Derived.Below
import Derived.SizedLaws
namespace Go.Proofs.Ythahiogiafibmaa.fnExactFirstBreak
open Go.ChangeShapes Go.WideShapes Go.ChangeAt Go.RowKit
open Go.Proofs.YthahiogiafibmaaW.PrintWords Go.Proofs.Ythahiogiafibmaa.PFnExactFirstBreak
open Go.ChangeMaps (open_string shut_string)
set_option linter.unusedVariables false
theorem own : ownKnob Try.prog.godebug = none := by kernel_rfl
theorem laidOut : laidOutB Try.prog = true := by kernel_rfl
set_option maxHeartbeats 400000 in
set_option maxRecDepth 100000 in
theorem open0 {H : Type} {enc : TypeId × Value → H} {W : World} {base b : Nat} {spare : Nat → Bool} {held : Bool} {v : Value} {d : DataW H} {p : List MemPlace} (hv : Value.okWide Try.prog W .any base 40 v) (h : DataW.Trod enc Try.prog W b spare held 40 v d p) :
    ∃ (A0_0 : Option Addr) (c0_0 : Nat) (l0_0 : List (List Int)) (A0_1 : Option Addr) (c0_1 : Nat) (l0_1 : List Int), v = .agg #[.slice A0_0 l0_0.length c0_0, .slice A0_1 l0_1.length c0_1] ∧ l0_0.length ≤ c0_0 ∧ Kd.C (Kd.slice 2 (Kd.int .i64)) W A0_0 l0_0.length l0_0 ∧ (l0_0.length ≤ 9223372036854775807 ∧ ∀ le0_0 ∈ l0_0, (le0_0.length ≤ 9223372036854775807 ∧ ∀ lee0_0 ∈ le0_0, (Lit.int .i64 lee0_0).wf = true)) ∧ l0_1.length ≤ c0_1 ∧ Kd.C (Kd.int .i64) W A0_1 l0_1.length l0_1 ∧ (l0_1.length ≤ 9223372036854775807 ∧ ∀ le0_1 ∈ l0_1, (Lit.int .i64 le0_1).wf = true) := by
  obtain ⟨cs, rfl, hsz⟩ := okWide_struct Try.underlying40 hv
  clear hv
  obtain ⟨l⟩ := cs
  have hC : Try.prog.cellsOf 40 = 2 := by kernel_rfl
  obtain ⟨m, hm0⟩ := h
  have hm : DataW.trod enc Try.prog W b spare held m 40 l = some (d, p) := hm0
  clear hm0
  have hl := hsz.trans hC
  clear hsz hC
  match l, hl with
  | [b0, b1], _ =>
    obtain ⟨_, _, e1⟩ := Opn.field Try.underlying40 hm 0 _ rfl (n := 1) (by kernel_rfl)
    obtain ⟨l0_0, ⟨A0_0, c0_0, g0, hc0_0, hr0_0⟩, w0_0⟩ := (Opn.slice Try.underlying37 (by kernel_rfl) (Opn.slice Try.underlying38 (by kernel_rfl) (Opn.int Try.underlying2))) enc W _ _ _ _ _ _ e1
    obtain rfl := (List.cons.inj g0).1
    obtain ⟨_, _, e2⟩ := Opn.field Try.underlying40 hm 1 _ rfl (n := 1) (by kernel_rfl)
    obtain ⟨l0_1, ⟨A0_1, c0_1, g1, hc0_1, hr0_1⟩, w0_1⟩ := (Opn.slice Try.underlying38 (by kernel_rfl) (Opn.int Try.underlying2)) enc W _ _ _ _ _ _ e2
    obtain rfl := (List.cons.inj g1).1
    exact ⟨A0_0, c0_0, l0_0, A0_1, c0_1, l0_1, rfl, hc0_0, hr0_0, w0_0, hc0_1, hr0_1, w0_1⟩
set_option maxHeartbeats 400000 in
set_option maxRecDepth 100000 in
theorem open1 {H : Type} {enc : TypeId × Value → H} {W : World} {base b : Nat} {spare : Nat → Bool} {held : Bool} {v : Value} {d : DataW H} {p : List MemPlace} (hv : Value.okWide Try.prog W .any base 40 v) (h : DataW.Trod enc Try.prog W b spare held 40 v d p) :
    ∃ (A1_0 : Option Addr) (c1_0 : Nat) (l1_0 : List (List Int)) (A1_1 : Option Addr) (c1_1 : Nat) (l1_1 : List Int), v = .agg #[.slice A1_0 l1_0.length c1_0, .slice A1_1 l1_1.length c1_1] ∧ l1_0.length ≤ c1_0 ∧ Kd.C (Kd.slice 2 (Kd.int .i64)) W A1_0 l1_0.length l1_0 ∧ (l1_0.length ≤ 9223372036854775807 ∧ ∀ le1_0 ∈ l1_0, (le1_0.length ≤ 9223372036854775807 ∧ ∀ lee1_0 ∈ le1_0, (Lit.int .i64 lee1_0).wf = true)) ∧ l1_1.length ≤ c1_1 ∧ Kd.C (Kd.int .i64) W A1_1 l1_1.length l1_1 ∧ (l1_1.length ≤ 9223372036854775807 ∧ ∀ le1_1 ∈ l1_1, (Lit.int .i64 le1_1).wf = true) := by
  obtain ⟨cs, rfl, hsz⟩ := okWide_struct Try.underlying40 hv
  clear hv
  obtain ⟨l⟩ := cs
  have hC : Try.prog.cellsOf 40 = 2 := by kernel_rfl
  obtain ⟨m, hm0⟩ := h
  have hm : DataW.trod enc Try.prog W b spare held m 40 l = some (d, p) := hm0
  clear hm0
  have hl := hsz.trans hC
  clear hsz hC
  match l, hl with
  | [b0, b1], _ =>
    obtain ⟨_, _, e1⟩ := Opn.field Try.underlying40 hm 0 _ rfl (n := 1) (by kernel_rfl)
    obtain ⟨l1_0, ⟨A1_0, c1_0, g0, hc1_0, hr1_0⟩, w1_0⟩ := (Opn.slice Try.underlying37 (by kernel_rfl) (Opn.slice Try.underlying38 (by kernel_rfl) (Opn.int Try.underlying2))) enc W _ _ _ _ _ _ e1
    obtain rfl := (List.cons.inj g0).1
    obtain ⟨_, _, e2⟩ := Opn.field Try.underlying40 hm 1 _ rfl (n := 1) (by kernel_rfl)
    obtain ⟨l1_1, ⟨A1_1, c1_1, g1, hc1_1, hr1_1⟩, w1_1⟩ := (Opn.slice Try.underlying38 (by kernel_rfl) (Opn.int Try.underlying2)) enc W _ _ _ _ _ _ e2
    obtain rfl := (List.cons.inj g1).1
    exact ⟨A1_0, c1_0, l1_0, A1_1, c1_1, l1_1, rfl, hc1_0, hr1_0, w1_0, hc1_1, hr1_1, w1_1⟩
set_option maxHeartbeats 400000 in
set_option maxRecDepth 100000 in
theorem open2 {H : Type} {enc : TypeId × Value → H} {W : World} {base b : Nat} {spare : Nat → Bool} {held : Bool} {v : Value} {d : DataW H} {p : List MemPlace} (hv : Value.okWide Try.prog W .any base 38 v) (h : DataW.Trod enc Try.prog W b spare held 38 v d p) :
    ∃ A c l, v = .slice A l.length c ∧ l.length ≤ c ∧ Kd.C (Kd.int .i64) W A l.length l ∧ (l.length ≤ 9223372036854775807 ∧ ∀ le ∈ l, (Lit.int .i64 le).wf = true) := by
  obtain ⟨xa, xn, xc, rfl⟩ := okWide_slice Try.underlying38 hv
  obtain ⟨m, hm⟩ := h
  obtain ⟨l, ⟨A, c, e, hl, hC⟩, hw⟩ := (Opn.slice Try.underlying38 (by kernel_rfl) (Opn.int Try.underlying2)) enc W _ _ _ m _ _ hm
  simp only [Value.cells, List.cons.injEq, Value.slice.injEq, and_true] at e
  obtain ⟨rfl, rfl, rfl⟩ := e
  exact ⟨xa, xc, l, rfl, hl, hC, hw⟩
set_option maxHeartbeats 1000000 in
set_option maxRecDepth 100000 in
theorem lifted (os : Os) (started : os.Started) (H : Type) (enc : TypeId × Value → H) :
    ReturnsInHanded {} Try.checked os 9 .any (Rows.fnExactFirstBreakSpec.pre6 enc Try.prog Try.f9 Rows.fnExactFirstBreakRow.domain false) (Rows.fnExactFirstBreakSpec.post enc Try.prog Try.f9 false true false false) := by
  refine returnsInHanded_of_change_sized (C := Try.checked) own started (by kernel_rfl) Try.func9
    (ChangeSpec.witness6 (enc := enc) (C := Try.checked) false ⟨#[], #[.agg #[.slice none 0 0, .slice none 0 0], .agg #[.slice none 0 0, .slice none 0 0], .slice none 0 0], []⟩ 8 (by kernel_rfl) (by kernel_rfl) (by kernel_rfl) (by kernel_rfl)) ?_
  intro W base args ds gs before hval0 hW hcnd hsz0 _
  have hval : ∀ (j : Nat) t v, Try.f9.params[j]? = some t → args[j]? = some v → Value.okWide Try.prog W .any base t v := hval0
  have hW' := hW
  obtain ⟨p, q, hA0, hV, rfl, hfz, hnd⟩ := hW
  have hA : DataW.TrodAll enc Try.prog W 0 (fun _ => true) true Try.f9.params.toList args.toList ds p := hA0
  rw [Try.params9] at hA hval
  obtain ⟨v0, vs0, d0, ds0, p0, q0, hargs, rfl, rfl, h0, r0⟩ := trodAll_cons hA
  obtain ⟨v1, vs1, d1, ds1, p1, q1, rfl, rfl, rfl, h1, r1⟩ := trodAll_cons r0
  obtain ⟨v2, vs2, d2, ds2, p2, q2, rfl, rfl, rfl, h2, r2⟩ := trodAll_cons r1
  obtain ⟨rfl, rfl, rfl⟩ := trodAll_nil r2
  obtain rfl : args = #[v0, v1, v2] := by cases args; simp_all
  obtain ⟨rfl, rfl⟩ := trodVars_none hV
  have k0 := h0
  have lt0 : ∀ x ∈ p0, x.block < W.heap.size := by obtain ⟨m, hm⟩ := k0; exact DataW.trod_lt m _ _ _ hm
  obtain ⟨A0_0, c0_0, l0_0, A0_1, c0_1, l0_1, e0, hc0_0, hr0_0, w0_0, hc0_1, hr0_1, w0_1⟩ := open0 (hval 0 40 v0 rfl rfl) h0
  subst e0
  have k1 := h1
  have lt1 : ∀ x ∈ p1, x.block < W.heap.size := by obtain ⟨m, hm⟩ := k1; exact DataW.trod_lt m _ _ _ hm
  obtain ⟨A1_0, c1_0, l1_0, A1_1, c1_1, l1_1, e1, hc1_0, hr1_0, w1_0, hc1_1, hr1_1, w1_1⟩ := open1 (hval 1 40 v1 rfl rfl) h1
  subst e1
  have k2 := h2
  have lt2 : ∀ x ∈ p2, x.block < W.heap.size := by obtain ⟨m, hm⟩ := k2; exact DataW.trod_lt m _ _ _ hm
  obtain ⟨A2, c2, l2, e2, hc2, hr2, w2⟩ := open2 (hval 2 38 v2 rfl rfl) h2
  subst e2
  clear hA0 hval0 hsz0
  obtain ⟨k_, hk_⟩ := Pure.FnExactFirstBreak l0_0 l0_1 l1_0 l1_1 l2 w0_0 w0_1 w1_0 w1_1 w2
  refine (laws_FnExactFirstBreak.calls k_ A0_0 c0_0 l0_0 A0_1 c0_1 l0_1 A1_0 c1_0 l1_0 A1_1 c1_1 l1_1 A2 c2 l2 true W hr0_0 hc0_0 hr0_1 hc0_1 hr1_0 hc1_0 hr1_1 hc1_1 hr2 hc2 hk_).mono fun e W' ⟨he, bel0⟩ => ?_
  have bel : Below W.heap.size W W' := bel0
  subst he
  exact ⟨_, rfl, _, _, _, [], _, [], hW', trodAll_mk1 (shut_bool Try.underlying4 _), (trodAll_cons_mk (Below.trod laidOut (by kernel_rfl) (of_decide_eq_true (by kernel_rfl)) k0 bel lt0) (trodAll_cons_mk (Below.trod laidOut (by kernel_rfl) (of_decide_eq_true (by kernel_rfl)) k1 bel lt1) (trodAll_cons_mk (Below.trod laidOut (by kernel_rfl) (of_decide_eq_true (by kernel_rfl)) k2 bel lt2) trodAll_mk0))), rfl, bel.frame _, fun h => by cases h⟩
theorem over_name : Try.pinned.checked.prog.funcNamed Rows.fnExactFirstBreakRow.func = some 9 := by kernel_rfl
theorem over_joined : joinedFacts Try.pinned.checked.prog 9 Try.f9 Rows.fnExactFirstBreakSpec Rows.fnExactFirstBreakRow = true := by kernel_rfl
theorem over_inst : Try.f9.isInstance Try.pinned.checked.prog Rows.fnExactFirstBreakRow.origin Rows.fnExactFirstBreakRow.targs := (of_decide_eq_true (by kernel_rfl))
theorem over_wrap : Try.f9.isWrapper Try.pinned.checked.prog Rows.fnExactFirstBreakRow.wrapper Rows.fnExactFirstBreakRow.mainSum := by unfold Func.isWrapper; first | (rw [if_pos (by decide +kernel)]; kernel_rfl) | (rw [if_neg (by decide +kernel)]; exact ⟨rfl, rfl⟩)
theorem over : Rows.fnExactFirstBreakRow.holds Try.pinned (OpenSpec.ofChange Rows.fnExactFirstBreakSpec) :=
  OpenClaim.holds_of_wide 9 Try.f9 rfl rfl rfl rfl rfl rfl rfl ⟨rfl, rfl, rfl, rfl, rfl⟩ rfl rfl rfl rfl rfl over_name Try.func9 over_joined over_inst over_wrap
    (fun os started H enc _ => lifted os started H enc)
theorem proved : Rows.FnExactFirstBreakSaid := over
#print axioms proved
end Go.Proofs.Ythahiogiafibmaa.fnExactFirstBreak
namespace Go.Proofs.Ythahiogiafibmaa
/-- The row, under a short name, for the claim. -/
theorem fnExactFirstBreak_holds : Rows.FnExactFirstBreakSaid := fnExactFirstBreak.proved
end Go.Proofs.Ythahiogiafibmaa
