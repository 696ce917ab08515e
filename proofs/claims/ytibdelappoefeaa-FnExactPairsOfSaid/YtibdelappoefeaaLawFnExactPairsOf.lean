-- Printed by this session's own program (wip/tools/xprint.py) over the kit's print; not trusted: Lean checks it.
import Derived.Test.YtibdelappoefeaaRows
import Derived.Test.YtibdelappoefeaaPFnExactPairsOfx
import Derived.Test.YtibdelappoefeaaPureFnExactPairsOf
import Derived.Test.YtibdelappoefeaaX1
import Derived.WalkKit
import Derived.ProofKit
import Derived.OpenShut
import Derived.ShutString
import Derived.ChangeOld
import Derived.Below
import Derived.SizedLaws
namespace Go.Proofs.Ytibdelappoefeaa.fnExactPairsOf
open Go.ChangeShapes Go.WideShapes Go.ChangeAt Go.RowKit
open Go.Proofs.YtibdelappoefeaaW.PrintWords Go.Proofs.Ytibdelappoefeaa.PFnExactPairsOf
open Go.ChangeMaps (open_string shut_string)
set_option linter.unusedVariables false
theorem own : ownKnob Try.prog.godebug = none := by kernel_rfl
theorem laidOut : laidOutB Try.prog = true := by kernel_rfl
set_option maxHeartbeats 400000 in
set_option maxRecDepth 100000 in
theorem open0 {H : Type} {enc : TypeId × Value → H} {W : World} {base b : Nat} {spare : Nat → Bool} {held : Bool} {v : Value} {d : DataW H} {p : List MemPlace} (hv : Value.okWide Try.prog W .any base 58 v) (h : DataW.Trod enc Try.prog W b spare held 58 v d p) :
    ∃ A c l, v = .slice A l.length c ∧ l.length ≤ c ∧ Kd.C k148 W A l.length l ∧ (l.length ≤ 9223372036854775807 ∧ ∀ le ∈ l, True) := by
  obtain ⟨xa, xn, xc, rfl⟩ := okWide_slice Try.underlying58 hv
  obtain ⟨m, hm⟩ := h
  obtain ⟨l, ⟨A, c, e, hl, hC⟩, hw⟩ := (Opn.slice Try.underlying58 (by kernel_rfl) (Opn.struct2 (g := fun x : S148 => (x.f0, x.f1)) (g' := fun a0 a1 => (⟨a0, a1⟩ : S148)) Try.underlying148 (fun _ _ => rfl) (by kernel_rfl) (by kernel_rfl) rfl rfl (by kernel_rfl) (Opn.int Try.underlying2) (Opn.int Try.underlying2))) enc W _ _ _ m _ _ hm
  simp only [Value.cells, List.cons.injEq, Value.slice.injEq, and_true] at e
  obtain ⟨rfl, rfl, rfl⟩ := e
  exact ⟨xa, xc, l, rfl, hl, hC, hw⟩
set_option maxHeartbeats 1000000 in
set_option maxRecDepth 100000 in
theorem lifted (os : Os) (started : os.Started) (H : Type) (enc : TypeId × Value → H) :
    ReturnsInHanded {} Try.checked os 12 .any (Rows.fnExactPairsOfSpec.pre6 enc Try.prog Try.f12 Rows.fnExactPairsOfRow.domain false) (Rows.fnExactPairsOfSpec.post enc Try.prog Try.f12 false true false false) := by
  refine returnsInHanded_of_change_sized (C := Try.checked) own started (by kernel_rfl) Try.func12
    (ChangeSpec.witness6 (enc := enc) (C := Try.checked) false ⟨#[], #[.slice none 0 0, .int .i64 0], []⟩ 8 (by kernel_rfl) (by kernel_rfl) (by kernel_rfl) (by kernel_rfl)) ?_
  intro W base args ds gs before hval0 hW hcnd hsz0 _
  have hval : ∀ (j : Nat) t v, Try.f12.params[j]? = some t → args[j]? = some v → Value.okWide Try.prog W .any base t v := hval0
  have hW' := hW
  obtain ⟨p, q, hA0, hV, rfl, hfz, hnd⟩ := hW
  have hA : DataW.TrodAll enc Try.prog W 0 (fun _ => true) true Try.f12.params.toList args.toList ds p := hA0
  rw [Try.params12] at hA hval
  obtain ⟨v0, vs0, d0, ds0, p0, q0, hargs, rfl, rfl, h0, r0⟩ := trodAll_cons hA
  obtain ⟨v1, vs1, d1, ds1, p1, q1, rfl, rfl, rfl, h1, r1⟩ := trodAll_cons r0
  obtain ⟨rfl, rfl, rfl⟩ := trodAll_nil r1
  obtain rfl : args = #[v0, v1] := by cases args; simp_all
  obtain ⟨rfl, rfl⟩ := trodVars_none hV
  have k0 := h0
  have lt0 : ∀ x ∈ p0, x.block < W.heap.size := by obtain ⟨m, hm⟩ := k0; exact DataW.trod_lt m _ _ _ hm
  obtain ⟨A0, c0, l0, e0, hc0, hr0, w0⟩ := open0 (hval 0 58 v0 rfl rfl) h0
  subst e0
  obtain ⟨a1, rfl, rfl, rfl, w1⟩ := open_int Try.underlying2 (hval 1 2 v1 rfl rfl) h1
  clear hA0 hval0 hsz0
  have hk_ := Pure.FnExactPairsOf l0 a1 w0 w1
  refine (laws_FnExactPairsOf.calls A0 c0 l0 a1 true W hr0 hc0 hk_).mono fun e W' ⟨he, bel0⟩ => ?_
  have bel : Below W.heap.size W W' := bel0
  subst he
  exact ⟨_, rfl, _, _, _, [], _, [], hW', trodAll_mk1 (shut_bool Try.underlying4 _), (trodAll_cons_mk (Below.trod laidOut (by kernel_rfl) (of_decide_eq_true (by kernel_rfl)) k0 bel lt0) (trodAll_cons_mk (shut_int Try.underlying2 w1) trodAll_mk0)), rfl, bel.frame _, fun h => by cases h⟩
theorem over_name : Try.pinned.checked.prog.funcNamed Rows.fnExactPairsOfRow.func = some 12 := by kernel_rfl
theorem over_joined : joinedFacts Try.pinned.checked.prog 12 Try.f12 Rows.fnExactPairsOfSpec Rows.fnExactPairsOfRow = true := by kernel_rfl
theorem over_inst : Try.f12.isInstance Try.pinned.checked.prog Rows.fnExactPairsOfRow.origin Rows.fnExactPairsOfRow.targs := (of_decide_eq_true (by kernel_rfl))
theorem over_wrap : Try.f12.isWrapper Try.pinned.checked.prog Rows.fnExactPairsOfRow.wrapper Rows.fnExactPairsOfRow.mainSum := by unfold Func.isWrapper; first | (rw [if_pos (by decide +kernel)]; kernel_rfl) | (rw [if_neg (by decide +kernel)]; exact ⟨rfl, rfl⟩)
theorem over : Rows.fnExactPairsOfRow.holds Try.pinned (OpenSpec.ofChange Rows.fnExactPairsOfSpec) :=
  OpenClaim.holds_of_wide 12 Try.f12 rfl rfl rfl rfl rfl rfl rfl ⟨rfl, rfl, rfl, rfl, rfl⟩ rfl rfl rfl rfl rfl over_name Try.func12 over_joined over_inst over_wrap
    (fun os started H enc _ => lifted os started H enc)
theorem proved : Rows.FnExactPairsOfSaid := over
#print axioms proved
end Go.Proofs.Ytibdelappoefeaa.fnExactPairsOf
namespace Go.Proofs.Ytibdelappoefeaa
/-- The row, under a short name, for the claim. -/
theorem fnExactPairsOf_holds : Rows.FnExactPairsOfSaid := fnExactPairsOf.proved
end Go.Proofs.Ytibdelappoefeaa
