-- Printed by this session's own program (wip/tools/xprint.py) over the kit's print; not trusted: Lean checks it.
import Derived.Test.YtnocikchdkaabaaRows
import Derived.Test.YtnocikchdkaabaaPFnExactValidPrefetcherx
import Derived.Test.YtnocikchdkaabaaPureFnExactValidPrefetcher
import Derived.Test.YtnocikchdkaabaaX1
import Derived.WalkKit
import Derived.ProofKit
import Derived.OpenShut
import Derived.ShutString
import Derived.ChangeOld
import Derived.Below
import Derived.SizedLaws
namespace Go.Proofs.Ytnocikchdkaabaa.fnExactValidPrefetcher
open Go.ChangeShapes Go.WideShapes Go.ChangeAt Go.RowKit
open Go.Proofs.YtnocikchdkaabaaW.PrintWords Go.Proofs.Ytnocikchdkaabaa.PFnExactValidPrefetcher
open Go.ChangeMaps (open_string shut_string)
set_option linter.unusedVariables false
theorem own : ownKnob Try.prog.godebug = none := by kernel_rfl
theorem laidOut : laidOutB Try.prog = true := by kernel_rfl
set_option maxHeartbeats 400000 in
set_option maxRecDepth 100000 in
theorem open0 {H : Type} {enc : TypeId × Value → H} {W : World} {base b : Nat} {spare : Nat → Bool} {held : Bool} {v : Value} {d : DataW H} {p : List MemPlace} (hv : Value.okWide Try.prog W .any base 23 v) (h : DataW.Trod enc Try.prog W b spare held 23 v d p) :
    ∃ (a0_0 : Int) (a0_1 : Int) (a0_2 : Int) (a0_3 : Int), v = .agg #[.int .i64 a0_0, .int .i64 a0_1, .int .i64 a0_2, .int .i64 a0_3] ∧ (Lit.int .i64 a0_0).wf = true ∧ (Lit.int .i64 a0_1).wf = true ∧ (Lit.int .i64 a0_2).wf = true ∧ (Lit.int .i64 a0_3).wf = true := by
  obtain ⟨cs, rfl, hsz⟩ := okWide_struct Try.underlying23 hv
  clear hv
  obtain ⟨l⟩ := cs
  have hC : Try.prog.cellsOf 23 = 4 := by kernel_rfl
  obtain ⟨m, hm0⟩ := h
  have hm : DataW.trod enc Try.prog W b spare held m 23 l = some (d, p) := hm0
  clear hm0
  have hl := hsz.trans hC
  clear hsz hC
  match l, hl with
  | [b0, b1, b2, b3], _ =>
    obtain ⟨_, _, e1⟩ := Opn.field Try.underlying23 hm 0 _ rfl (n := 1) (by kernel_rfl)
    obtain ⟨a0_0, g0, w0_0⟩ := (Opn.int Try.underlying2) enc W _ _ _ _ _ _ e1
    obtain rfl := (List.cons.inj (show _ = [_] from g0)).1
    obtain ⟨_, _, e2⟩ := Opn.field Try.underlying23 hm 1 _ rfl (n := 1) (by kernel_rfl)
    obtain ⟨a0_1, g1, w0_1⟩ := (Opn.int Try.underlying2) enc W _ _ _ _ _ _ e2
    obtain rfl := (List.cons.inj (show _ = [_] from g1)).1
    obtain ⟨_, _, e3⟩ := Opn.field Try.underlying23 hm 2 _ rfl (n := 1) (by kernel_rfl)
    obtain ⟨a0_2, g2, w0_2⟩ := (Opn.int Try.underlying2) enc W _ _ _ _ _ _ e3
    obtain rfl := (List.cons.inj (show _ = [_] from g2)).1
    obtain ⟨_, _, e4⟩ := Opn.field Try.underlying23 hm 3 _ rfl (n := 1) (by kernel_rfl)
    obtain ⟨a0_3, g3, w0_3⟩ := (Opn.int Try.underlying2) enc W _ _ _ _ _ _ e4
    obtain rfl := (List.cons.inj (show _ = [_] from g3)).1
    exact ⟨a0_0, a0_1, a0_2, a0_3, rfl, w0_0, w0_1, w0_2, w0_3⟩
set_option maxHeartbeats 1000000 in
set_option maxRecDepth 100000 in
theorem lifted (os : Os) (started : os.Started) (H : Type) (enc : TypeId × Value → H) :
    ReturnsInHanded {} Try.checked os 3 .any (Rows.fnExactValidPrefetcherSpec.pre6 enc Try.prog Try.f3 Rows.fnExactValidPrefetcherRow.domain false) (Rows.fnExactValidPrefetcherSpec.post enc Try.prog Try.f3 false true false false) := by
  refine returnsInHanded_of_change_sized (C := Try.checked) own started (by kernel_rfl) Try.func3
    (ChangeSpec.witness6 (enc := enc) (C := Try.checked) false ⟨#[], #[.agg #[.int .i64 0, .int .i64 0, .int .i64 0, .int .i64 0]], []⟩ 8 (by kernel_rfl) (by kernel_rfl) (by kernel_rfl) (by kernel_rfl)) ?_
  intro W base args ds gs before hval0 hW hcnd hsz0 _
  have hval : ∀ (j : Nat) t v, Try.f3.params[j]? = some t → args[j]? = some v → Value.okWide Try.prog W .any base t v := hval0
  have hW' := hW
  obtain ⟨p, q, hA0, hV, rfl, hfz, hnd⟩ := hW
  have hA : DataW.TrodAll enc Try.prog W 0 (fun _ => true) true Try.f3.params.toList args.toList ds p := hA0
  rw [Try.params3] at hA hval
  obtain ⟨v0, vs0, d0, ds0, p0, q0, hargs, rfl, rfl, h0, r0⟩ := trodAll_cons hA
  obtain ⟨rfl, rfl, rfl⟩ := trodAll_nil r0
  obtain rfl : args = #[v0] := by cases args; simp_all
  obtain ⟨rfl, rfl⟩ := trodVars_none hV
  have k0 := h0
  have lt0 : ∀ x ∈ p0, x.block < W.heap.size := by obtain ⟨m, hm⟩ := k0; exact DataW.trod_lt m _ _ _ hm
  obtain ⟨a0_0, a0_1, a0_2, a0_3, e0, w0_0, w0_1, w0_2, w0_3⟩ := open0 (hval 0 23 v0 rfl rfl) h0
  subst e0
  clear hA0 hval0 hsz0
  have hk_ := Pure.FnExactValidPrefetcher a0_0 a0_1 a0_2 a0_3 w0_0 w0_1 w0_2 w0_3
  refine (laws_FnExactValidPrefetcher.calls a0_0 a0_1 a0_2 a0_3 true W  hk_).mono fun e W' ⟨he, bel0⟩ => ?_
  have bel : Below W.heap.size W W' := bel0
  subst he
  exact ⟨_, rfl, _, _, _, [], _, [], hW', trodAll_mk1 (shut_bool Try.underlying4 _), (trodAll_cons_mk (Below.trod laidOut (by kernel_rfl) (of_decide_eq_true (by kernel_rfl)) k0 bel lt0) trodAll_mk0), rfl, bel.frame _, fun h => by cases h⟩
theorem over : Rows.fnExactValidPrefetcherRow.holds Try.pinned (OpenSpec.ofChange Rows.fnExactValidPrefetcherSpec) :=
  OpenClaim.holds_of_wide 3 Try.f3 rfl rfl rfl rfl rfl rfl rfl ⟨rfl, rfl, rfl, rfl, rfl⟩ rfl rfl rfl rfl rfl (by kernel_rfl) Try.func3 (by kernel_rfl)
    (of_decide_eq_true (by kernel_rfl)) (by unfold Func.isWrapper; first | (rw [if_pos (by decide +kernel)]; kernel_rfl) | (rw [if_neg (by decide +kernel)]; exact ⟨rfl, rfl⟩))
    (fun os started H enc _ => lifted os started H enc)
theorem proved : Rows.FnExactValidPrefetcherSaid := over
#print axioms proved
end Go.Proofs.Ytnocikchdkaabaa.fnExactValidPrefetcher
namespace Go.Proofs.Ytnocikchdkaabaa
/-- The row, under a short name, for the claim. -/
theorem fnExactValidPrefetcher_holds : Rows.FnExactValidPrefetcherSaid := fnExactValidPrefetcher.proved
end Go.Proofs.Ytnocikchdkaabaa
