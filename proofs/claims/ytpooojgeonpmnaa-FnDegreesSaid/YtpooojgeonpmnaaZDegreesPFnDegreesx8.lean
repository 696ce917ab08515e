import Derived.Test.YtpooojgeonpmnaaZDegreesPFnDegreesx0
namespace Go.Proofs.Ytpooojgeonpmnaa.PFnDegrees
open Go.RowKit Go.Proofs.YtpooojgeonpmnaaW.PrintWords Go.Proofs.YtpooojgeonpmnaaW.PrintLast Go.Proofs.YtpooojgeonpmnaaW.PrintMore
attribute [local go_sem] max2_int min2_int max_two min_two max_three min_three max_four min_four   -- for this text's walks alone
set_option linter.unusedVariables false
set_option linter.unusedSimpArgs false
/-- The contents after a use, and whether it was a hit. -/
def ageOf (cont : List Int) (a : Int) : Int := xIdx (fun y => decide (y = a)) cont 0
def stepOrd (hit : List (List Int)) (miss cont : List Int) (a : Int) : List Int := if 0 ≤ ageOf cont a then hit.getD (ageOf cont a).toNat [] else miss
def stepOld (cont : List Int) (a : Int) : List Int := if 0 ≤ ageOf cont a then cont else cont.set (cont.length - 1) a
def stepV (hit : List (List Int)) (miss cont : List Int) (a : Int) : List Int × Bool := ((stepOrd hit miss cont a).map (fun j => rd (stepOld cont a) j), decide (0 ≤ ageOf cont a))
def okStep (hit : List (List Int)) (miss cont : List Int) (a : Int) : Bool :=
 (decide (1 ≤ cont.length) && decide (cont.length ≤ 1048576)) && (decide (ageOf cont a < hit.length) && (decide ((stepOrd hit miss cont a).length ≤ 1048576) && (stepOrd hit miss cont a).all fun j => decide (0 ≤ j) && decide (j < (cont.length : Int))))
theorem stepOld_length (cont : List Int) (a : Int) : (stepOld cont a).length = cont.length := by unfold stepOld; split <;> simp
end Go.Proofs.Ytpooojgeonpmnaa.PFnDegrees
