/- make(map[int64]T) among the makers of a statement whose order is left open. -/
import Derived.Test.YtpooojgeonpmnaaZExactAccuracyOfX14
import Derived.Test.YtpooojgeonpmnaaZExactAccuracyOfX12
namespace Go.Proofs.YtpooojgeonpmnaaW.PrintWords
set_option linter.unusedVariables false
set_option linter.unusedSimpArgs false
open Go.RowKit Go.Proofs.YtpooojgeonpmnaaW.PrintLast
/-- A maker: make(map[int64]T). -/
theorem Makes.map {P : Program} {ops : Array Oper} {Q : Exit → Act → World → Prop} {w0 : World} {R : List (Thing × Nat × Nat)} {A : (Nat → Value) → Act} {item : Nat → Value → Thing} {i : Nat} {o : Oper} (K : TypeId) (hi : ops[i]? = some o) (hput : ∀ xs v, (A xs).put o.dst v = A (upd xs i v)) (hw : ∀ xs, Region.wanted o (yielded ops (A xs).tmps) = true)
    (hrun : ∀ xs W, (execOp (A xs).eval o).run P W = .ok (.value (.map (some W.heap.size))) (W.alloc (.map #[] 0)))
    (hit : ∀ v, item i v = ⟨fun W lo hi => v = .map (some lo) ∧ (mapT P K (fun _ => none) 0).P W lo hi, fun h hm => ⟨h.1, (mapT P K (fun _ => none) 0).move h.2 hm⟩⟩) : Makes P ops Q w0 R A item i := by
  refine ⟨o, hi, hput, fun xs W L hH hR K' hK => ?_⟩
  refine value_ (hw xs) rfl (hrun xs W) (hK _ W.heap.size (W.heap.size + 1) _ ?_)
  rw [hit _]
  have h1 := hH.mnew P K
  refine ⟨h1.below, fun x hx => ?_, List.Pairwise.cons (fun x hx => (List.pairwise_cons.1 h1.off).1 x hx) (List.pairwise_cons.1 h1.off).2⟩
  rcases List.mem_cons.1 hx with rfl | hx
  · have := h1.sits _ List.mem_cons_self
    exact ⟨⟨rfl, this.1⟩, this.2⟩
  · exact h1.sits x (List.mem_cons_of_mem _ hx)
/-- A map that was made: its value is told by its block. -/
def madeMap (P : Program) (K : TypeId) (v : Value) : Thing := ⟨fun W lo hi => v = .map (some lo) ∧ (mapT P K (fun _ => none) 0).P W lo hi, fun h hm => ⟨h.1, (mapT P K (fun _ => none) 0).move h.2 hm⟩⟩
theorem Hold.map_form {P : Program} {K : TypeId} {w0 W : World} {L : List (Thing × Nat × Nat)} {v : Value} {lo hi : Nat} (h : Hold w0 W L) (hm : (madeMap P K v, lo, hi) ∈ L) : v = .map (some lo) ∧ hi = lo + 1 := by
  have := (h.get hm).1
  exact ⟨this.1, this.2.2⟩
theorem Hold.map_open {P : Program} {K : TypeId} {w0 W : World} {L : List (Thing × Nat × Nat)} {v : Value} {lo hi : Nat} (h : Hold w0 W ((madeMap P K v, lo, hi) :: L)) : Hold w0 W ((mapT P K (fun _ => none) 0, lo, lo + 1) :: L) := by
  have h2 := (h.map_form List.mem_cons_self).2
  subst h2
  refine ⟨h.below, fun x hx => ?_, List.Pairwise.cons (fun x hx => (List.pairwise_cons.1 h.off).1 x hx) (List.pairwise_cons.1 h.off).2⟩
  rcases List.mem_cons.1 hx with rfl | hx
  · have := h.sits _ List.mem_cons_self
    exact ⟨this.1.2, this.2⟩
  · exact h.sits x (List.mem_cons_of_mem _ hx)
end Go.Proofs.YtpooojgeonpmnaaW.PrintWords
