-- Printed by this session's own program (wip/tools/xprint.py) over the kit's print; not trusted: Lean checks it.
import Derived.Test.YtnocikchdkaabaaRows
import Derived.Test.YtnocikchdkaabaaPFnExactValidProtocolx
import Derived.Test.YtnocikchdkaabaaPureFnExactValidProtocol
import Derived.Test.YtnocikchdkaabaaX1
import Derived.WalkKit
import Derived.ProofKit
import Derived.OpenShut
import Derived.ShutString
import Derived.ChangeOld
import Derived.Below
import Derived.SizedLaws
namespace Go.Proofs.Ytnocikchdkaabaa.fnExactValidProtocol
open Go.ChangeShapes Go.WideShapes Go.ChangeAt Go.RowKit
open Go.Proofs.YtnocikchdkaabaaW.PrintWords Go.Proofs.Ytnocikchdkaabaa.PFnExactValidProtocol
open Go.ChangeMaps (open_string shut_string)
set_option linter.unusedVariables false
theorem own : ownKnob Try.prog.godebug = none := by kernel_rfl
theorem laidOut : laidOutB Try.prog = true := by kernel_rfl
set_option maxHeartbeats 400000 in
set_option maxRecDepth 100000 in
theorem open0 {H : Type} {enc : TypeId × Value → H} {W : World} {base b : Nat} {spare : Nat → Bool} {held : Bool} {v : Value} {d : DataW H} {p : List MemPlace} (hv : Value.okWide Try.prog W .any base 54 v) (h : DataW.Trod enc Try.prog W b spare held 54 v d p) :
    ∃ (A0_0 : Option Addr) (c0_0 : Nat) (l0_0 : List (S193)) (A0_1 : Option Addr) (c0_1 : Nat) (l0_1 : List (S193)) (A0_2 : Option Addr) (c0_2 : Nat) (l0_2 : List (S193)) (A0_3 : Option Addr) (c0_3 : Nat) (l0_3 : List (S193)) (A0_4 : Option Addr) (c0_4 : Nat) (l0_4 : List (S193)), v = .agg #[.slice A0_0 l0_0.length c0_0, .slice A0_1 l0_1.length c0_1, .slice A0_2 l0_2.length c0_2, .slice A0_3 l0_3.length c0_3, .slice A0_4 l0_4.length c0_4] ∧ l0_0.length ≤ c0_0 ∧ Kd.C k193 W A0_0 l0_0.length l0_0 ∧ (l0_0.length ≤ 9223372036854775807 ∧ ∀ le0_0 ∈ l0_0, True) ∧ l0_1.length ≤ c0_1 ∧ Kd.C k193 W A0_1 l0_1.length l0_1 ∧ (l0_1.length ≤ 9223372036854775807 ∧ ∀ le0_1 ∈ l0_1, True) ∧ l0_2.length ≤ c0_2 ∧ Kd.C k193 W A0_2 l0_2.length l0_2 ∧ (l0_2.length ≤ 9223372036854775807 ∧ ∀ le0_2 ∈ l0_2, True) ∧ l0_3.length ≤ c0_3 ∧ Kd.C k193 W A0_3 l0_3.length l0_3 ∧ (l0_3.length ≤ 9223372036854775807 ∧ ∀ le0_3 ∈ l0_3, True) ∧ l0_4.length ≤ c0_4 ∧ Kd.C k193 W A0_4 l0_4.length l0_4 ∧ (l0_4.length ≤ 9223372036854775807 ∧ ∀ le0_4 ∈ l0_4, True) := by
  obtain ⟨cs, rfl, hsz⟩ := okWide_struct Try.underlying54 hv
  clear hv
  obtain ⟨l⟩ := cs
  have hC : Try.prog.cellsOf 54 = 5 := by kernel_rfl
  obtain ⟨m, hm0⟩ := h
  have hm : DataW.trod enc Try.prog W b spare held m 54 l = some (d, p) := hm0
  clear hm0
  have hl := hsz.trans hC
  clear hsz hC
  match l, hl with
  | [b0, b1, b2, b3, b4], _ =>
    obtain ⟨_, _, e1⟩ := Opn.field Try.underlying54 hm 0 _ rfl (n := 1) (by kernel_rfl)
    obtain ⟨l0_0, ⟨A0_0, c0_0, g0, hc0_0, hr0_0⟩, w0_0⟩ := (Opn.slice Try.underlying52 (by kernel_rfl) (Opn.struct3 (g := fun x : S193 => (x.f0, x.f1, x.f2)) (g' := fun a0 a1 a2 => (⟨a0, a1, a2⟩ : S193)) Try.underlying193 (fun _ _ _ => rfl) (by kernel_rfl) (by kernel_rfl) (by kernel_rfl) rfl rfl rfl (by kernel_rfl) (Opn.int Try.underlying2) (Opn.int Try.underlying2) (Opn.bool Try.underlying4))) enc W _ _ _ _ _ _ e1
    obtain rfl := (List.cons.inj g0).1
    obtain ⟨_, _, e2⟩ := Opn.field Try.underlying54 hm 1 _ rfl (n := 1) (by kernel_rfl)
    obtain ⟨l0_1, ⟨A0_1, c0_1, g1, hc0_1, hr0_1⟩, w0_1⟩ := (Opn.slice Try.underlying52 (by kernel_rfl) (Opn.struct3 (g := fun x : S193 => (x.f0, x.f1, x.f2)) (g' := fun a0 a1 a2 => (⟨a0, a1, a2⟩ : S193)) Try.underlying193 (fun _ _ _ => rfl) (by kernel_rfl) (by kernel_rfl) (by kernel_rfl) rfl rfl rfl (by kernel_rfl) (Opn.int Try.underlying2) (Opn.int Try.underlying2) (Opn.bool Try.underlying4))) enc W _ _ _ _ _ _ e2
    obtain rfl := (List.cons.inj g1).1
    obtain ⟨_, _, e3⟩ := Opn.field Try.underlying54 hm 2 _ rfl (n := 1) (by kernel_rfl)
    obtain ⟨l0_2, ⟨A0_2, c0_2, g2, hc0_2, hr0_2⟩, w0_2⟩ := (Opn.slice Try.underlying52 (by kernel_rfl) (Opn.struct3 (g := fun x : S193 => (x.f0, x.f1, x.f2)) (g' := fun a0 a1 a2 => (⟨a0, a1, a2⟩ : S193)) Try.underlying193 (fun _ _ _ => rfl) (by kernel_rfl) (by kernel_rfl) (by kernel_rfl) rfl rfl rfl (by kernel_rfl) (Opn.int Try.underlying2) (Opn.int Try.underlying2) (Opn.bool Try.underlying4))) enc W _ _ _ _ _ _ e3
    obtain rfl := (List.cons.inj g2).1
    obtain ⟨_, _, e4⟩ := Opn.field Try.underlying54 hm 3 _ rfl (n := 1) (by kernel_rfl)
    obtain ⟨l0_3, ⟨A0_3, c0_3, g3, hc0_3, hr0_3⟩, w0_3⟩ := (Opn.slice Try.underlying52 (by kernel_rfl) (Opn.struct3 (g := fun x : S193 => (x.f0, x.f1, x.f2)) (g' := fun a0 a1 a2 => (⟨a0, a1, a2⟩ : S193)) Try.underlying193 (fun _ _ _ => rfl) (by kernel_rfl) (by kernel_rfl) (by kernel_rfl) rfl rfl rfl (by kernel_rfl) (Opn.int Try.underlying2) (Opn.int Try.underlying2) (Opn.bool Try.underlying4))) enc W _ _ _ _ _ _ e4
    obtain rfl := (List.cons.inj g3).1
    obtain ⟨_, _, e5⟩ := Opn.field Try.underlying54 hm 4 _ rfl (n := 1) (by kernel_rfl)
    obtain ⟨l0_4, ⟨A0_4, c0_4, g4, hc0_4, hr0_4⟩, w0_4⟩ := (Opn.slice Try.underlying52 (by kernel_rfl) (Opn.struct3 (g := fun x : S193 => (x.f0, x.f1, x.f2)) (g' := fun a0 a1 a2 => (⟨a0, a1, a2⟩ : S193)) Try.underlying193 (fun _ _ _ => rfl) (by kernel_rfl) (by kernel_rfl) (by kernel_rfl) rfl rfl rfl (by kernel_rfl) (Opn.int Try.underlying2) (Opn.int Try.underlying2) (Opn.bool Try.underlying4))) enc W _ _ _ _ _ _ e5
    obtain rfl := (List.cons.inj g4).1
    exact ⟨A0_0, c0_0, l0_0, A0_1, c0_1, l0_1, A0_2, c0_2, l0_2, A0_3, c0_3, l0_3, A0_4, c0_4, l0_4, rfl, hc0_0, hr0_0, w0_0, hc0_1, hr0_1, w0_1, hc0_2, hr0_2, w0_2, hc0_3, hr0_3, w0_3, hc0_4, hr0_4, w0_4⟩
set_option maxHeartbeats 1000000 in
set_option maxRecDepth 100000 in
theorem lifted (os : Os) (started : os.Started) (H : Type) (enc : TypeId × Value → H) :
    ReturnsInHanded {} Try.checked os 7 .any (Rows.fnExactValidProtocolSpec.pre6 enc Try.prog Try.f7 Rows.fnExactValidProtocolRow.domain false) (Rows.fnExactValidProtocolSpec.post enc Try.prog Try.f7 false true false false) := by
  refine returnsInHanded_of_change_sized (C := Try.checked) own started (by kernel_rfl) Try.func7
    (ChangeSpec.witness6 (enc := enc) (C := Try.checked) false ⟨#[], #[.agg #[.slice none 0 0, .slice none 0 0, .slice none 0 0, .slice none 0 0, .slice none 0 0]], []⟩ 8 (by kernel_rfl) (by kernel_rfl) (by kernel_rfl) (by kernel_rfl)) ?_
  intro W base args ds gs before hval0 hW hcnd hsz0 _
  have hval : ∀ (j : Nat) t v, Try.f7.params[j]? = some t → args[j]? = some v → Value.okWide Try.prog W .any base t v := hval0
  have hW' := hW
  obtain ⟨p, q, hA0, hV, rfl, hfz, hnd⟩ := hW
  have hA : DataW.TrodAll enc Try.prog W 0 (fun _ => true) true Try.f7.params.toList args.toList ds p := hA0
  rw [Try.params7] at hA hval
  obtain ⟨v0, vs0, d0, ds0, p0, q0, hargs, rfl, rfl, h0, r0⟩ := trodAll_cons hA
  obtain ⟨rfl, rfl, rfl⟩ := trodAll_nil r0
  obtain rfl : args = #[v0] := by cases args; simp_all
  obtain ⟨rfl, rfl⟩ := trodVars_none hV
  have k0 := h0
  have lt0 : ∀ x ∈ p0, x.block < W.heap.size := by obtain ⟨m, hm⟩ := k0; exact DataW.trod_lt m _ _ _ hm
  obtain ⟨A0_0, c0_0, l0_0, A0_1, c0_1, l0_1, A0_2, c0_2, l0_2, A0_3, c0_3, l0_3, A0_4, c0_4, l0_4, e0, hc0_0, hr0_0, w0_0, hc0_1, hr0_1, w0_1, hc0_2, hr0_2, w0_2, hc0_3, hr0_3, w0_3, hc0_4, hr0_4, w0_4⟩ := open0 (hval 0 54 v0 rfl rfl) h0
  subst e0
  clear hA0 hval0 hsz0
  obtain ⟨k_, hk_⟩ := Pure.FnExactValidProtocol l0_0 l0_1 l0_2 l0_3 l0_4 w0_0 w0_1 w0_2 w0_3 w0_4
  refine (laws_FnExactValidProtocol.calls k_ A0_0 c0_0 l0_0 A0_1 c0_1 l0_1 A0_2 c0_2 l0_2 A0_3 c0_3 l0_3 A0_4 c0_4 l0_4 true W hr0_0 hc0_0 hr0_1 hc0_1 hr0_2 hc0_2 hr0_3 hc0_3 hr0_4 hc0_4 hk_).mono fun e W' ⟨he, bel0⟩ => ?_
  have bel : Below W.heap.size W W' := bel0
  subst he
  exact ⟨_, rfl, _, _, _, [], _, [], hW', trodAll_mk1 (shut_bool Try.underlying4 _), (trodAll_cons_mk (Below.trod laidOut (by kernel_rfl) (of_decide_eq_true (by kernel_rfl)) k0 bel lt0) trodAll_mk0), rfl, bel.frame _, fun h => by cases h⟩
theorem over : Rows.fnExactValidProtocolRow.holds Try.pinned (OpenSpec.ofChange Rows.fnExactValidProtocolSpec) :=
  OpenClaim.holds_of_wide 7 Try.f7 rfl rfl rfl rfl rfl rfl rfl ⟨rfl, rfl, rfl, rfl, rfl⟩ rfl rfl rfl rfl rfl (by kernel_rfl) Try.func7 (by kernel_rfl)
    (of_decide_eq_true (by kernel_rfl)) (by unfold Func.isWrapper; first | (rw [if_pos (by decide +kernel)]; kernel_rfl) | (rw [if_neg (by decide +kernel)]; exact ⟨rfl, rfl⟩))
    (fun os started H enc _ => lifted os started H enc)
theorem proved : Rows.FnExactValidProtocolSaid := over
#print axioms proved
end Go.Proofs.Ytnocikchdkaabaa.fnExactValidProtocol
namespace Go.Proofs.Ytnocikchdkaabaa
/-- The row, under a short name, for the claim. -/
theorem fnExactValidProtocol_holds : Rows.FnExactValidProtocolSaid := fnExactValidProtocol.proved
end Go.Proofs.Ytnocikchdkaabaa
