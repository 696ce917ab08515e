/- An append to a row of the list inside a statement whose order is left open. -/
import Derived.Test.YtpooojgeonpmnaaZExactAccuracyOfX13
namespace Go.Proofs.YtpooojgeonpmnaaW.PrintWords
set_option linter.unusedVariables false
set_option linter.unusedSimpArgs false
open Go.RowKit Go.Proofs.YtpooojgeonpmnaaW.PrintLast
theorem Hold.appendI_step {P : Program} {ops : Array Oper} {o : Oper} {a : Act} {Kc : Act → World → Prop} {Q : Exit → Act → World → Prop} {w0 W : World} {L : List (Thing × Nat × Nat)} {lo hi : Nat} (h : Hold w0 W L) (hw : Region.wanted o (yielded ops a.tmps) = true) (s x : Operand) (t e : TypeId)
    (ho : o.op = .call { callee := .builtin .append, args := #[s, x], argTypes := #[t, t] })
    (ht : P.underlying t = some (.slice e)) (hinfo : (P.info? e).map (fun i => (i.zero, i.size, i.bytes)) = some (some (.int .i64 0), 1, 8))
    (v : Value) (l : List Int) (y : Int) (hs : a.eval s = v) (hx : a.eval x = .slice (some ⟨W.heap.size, 0, none⟩) 1 1) (hm : (flat (Kd.int .i64) e v l, lo, hi) ∈ L) (hl : l.length ≤ 1048576)
    (k : ∀ A c lo' hi' w1, (∀ L', Sw (flat (Kd.int .i64) e v l, lo, hi) (flat (Kd.int .i64) e (.slice A (l.length + 1) c) (l ++ [y]), lo', hi') L L' → Hold w0 w1 L') → Kc (a.put o.dst (.slice A (l.length + 1) c)) w1) :
    if Region.wanted o (yielded ops a.tmps) = true then Oper.wp P o a (W.alloc (.cells #[.int .i64 y] e)) Kc Q else Kc (a.put o.dst undef) (W.alloc (.cells #[.int .i64 y] e)) := by
  obtain ⟨hP, hlo, hlh, hhi⟩ := h.get hm
  have hP' : (Kd.int .i64).R e W lo (In lo hi) v l := hP
  have hR : (Kd.int .i64).R e W w0.heap.size (fun _ => True) v l := Kd.R_mono (Kd.R_lower hP' hlo) (fun _ _ => trivial)
  refine Kd.R_append_step (Kd.int .i64) (w0 := w0) w0.heap.size hw s x t e (.int .i64 0) 8 ho ht hinfo rfl Nat.one_pos (by decide) v l y [.int .i64 y] (fun _ => True) (fun _ => False) hs hx rfl (fun _ hk => hk.elim) (fun _ _ => trivial) hR h.below h.below.size (by omega) ?_
  intro v1 w1 hr1 _ hg hat
  obtain ⟨A, c, hv⟩ := Kd.R_slice hr1
  rw [List.length_append, List.length_singleton] at hv
  subst hv
  obtain ⟨lo', hi', hQ⟩ := h.grew (d := Kd.int .i64) rfl (fun _ _ _ _ _ _ hM => hM) hm hg hr1 hat
  exact k A c lo' hi' w1 hQ
end Go.Proofs.YtpooojgeonpmnaaW.PrintWords
