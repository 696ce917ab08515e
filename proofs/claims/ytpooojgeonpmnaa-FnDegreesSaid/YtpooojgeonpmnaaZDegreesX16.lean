/- Rows of the list: an empty one made; a whole slice appended to one; what a call made that is no row. -/
import Derived.Test.YtpooojgeonpmnaaZDegreesX15
namespace Go.Proofs.YtpooojgeonpmnaaW.PrintWords
set_option linter.unusedVariables false
set_option linter.unusedSimpArgs false
open Go.RowKit Go.Proofs.YtpooojgeonpmnaaW.PrintLast
theorem Hold.empty {α : Type} {w0 W : World} {L : List (Thing × Nat × Nat)} (h : Hold w0 W L) (d : Kd α) (e : Nat) : Hold w0 (W.alloc (.cells #[] e)) ((flat d e (.slice (some ⟨W.heap.size, 0, none⟩) 0 0) [], W.heap.size, W.heap.size + 1) :: L) := by
  have hb : Below W.heap.size W (W.alloc (.cells #[] e)) := below_alloc (Below.refl _ _) _
  have hr : d.R e (W.alloc (.cells #[] e)) W.heap.size (fun _ => True) (.slice (some ⟨W.heap.size, 0, none⟩) 0 0) [] := by
    refine ⟨fun _ _ => trivial, [], ⟨by simp, .inr ⟨W.heap.size, 0, #[], by simp, Nat.le_refl _, heap_alloc_new W _, by simp, by simp, by simp, by simp⟩⟩, ?_⟩
    exact ⟨by simp, fun j p hj => by simp at hj⟩
  have := h.made hb hr
  simpa using this
section
variable {P : Program} {ops : Array Oper} {rest : List Oper} {o : Oper} {a : Act} {Q : Exit → Act → World → Prop}
end
/-- A policy: a nest and a row in one struct. -/
def polT (h : List (List Int)) (m : List Int) (v : Value) : Thing where
  P W lo hi := ∃ A c B b, v = .agg #[.slice A h.length c, .slice B m.length b] ∧ (nest (Kd.slice 2 (Kd.int .i64)) 30 (.slice A h.length c) h).P W lo hi ∧ (flat (Kd.int .i64) 2 (.slice B m.length b) m).P W lo hi
  move h hm := by
    obtain ⟨A, c, B, b, e, h1, h2⟩ := h
    exact ⟨A, c, B, b, e, Thing.move _ h1 hm, Thing.move _ h2 hm⟩
end Go.Proofs.YtpooojgeonpmnaaW.PrintWords
