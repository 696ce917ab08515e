/- The law FnDegrees holds for every input: the walk has it already. -/
import Derived.Test.YtpooojgeonpmnaaZDegreesPFnDegreesx
namespace Go.Proofs.Ytpooojgeonpmnaa.Pure
open Go.RowKit Go.Proofs.YtpooojgeonpmnaaW.PrintWords Go.Proofs.Ytpooojgeonpmnaa.PFnDegrees
theorem wf_byte {l : List Int} (h : ∀ x ∈ l, (Lit.int .u8 x).wf = true) : l.all byteB = true := by
  rw [List.all_eq_true]
  intro x hx
  have := h x hx
  simp only [Lit.wf, Bool.and_eq_true, decide_eq_true_eq] at this
  have e1 : IntKind.min .u8 = 0 := rfl
  have e2 : IntKind.max .u8 = 255 := rfl
  rw [e1, e2] at this
  simpa [byteB] using this
theorem FnDegrees : laws_FnDegrees.Pure := by
  unfold laws_FnDegrees.Pure
  intro l0 l1 h0 h1
  unfold laws_FnDegrees.f
  rw [wf_byte h0.2, wf_byte h1.2]
  rfl
end Go.Proofs.Ytpooojgeonpmnaa.Pure
