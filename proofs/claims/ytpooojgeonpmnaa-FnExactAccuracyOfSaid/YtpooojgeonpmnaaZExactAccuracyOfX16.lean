/- Rows of the list: an empty one made; a whole slice appended to one; what a call made that is no row. -/
import Derived.Test.YtpooojgeonpmnaaZExactAccuracyOfX15
namespace Go.Proofs.YtpooojgeonpmnaaW.PrintWords
set_option linter.unusedVariables false
set_option linter.unusedSimpArgs false
open Go.RowKit Go.Proofs.YtpooojgeonpmnaaW.PrintLast
theorem Hold.empty {α : Type} {w0 W : World} {L : List (Thing × Nat × Nat)} (h : Hold w0 W L) (d : Kd α) (e : Nat) : Hold w0 (W.alloc (.cells #[] e)) ((flat d e (.slice (some ⟨W.heap.size, 0, none⟩) 0 0) [], W.heap.size, W.heap.size + 1) :: L) := by
  have hb : Below W.heap.size W (W.alloc (.cells #[] e)) := below_alloc (Below.refl _ _) _
  have hr : d.R e (W.alloc (.cells #[] e)) W.heap.size (fun _ => True) (.slice (some ⟨W.heap.size, 0, none⟩) 0 0) [] := by
    refine ⟨fun _ _ => trivial, [], ⟨by simp, .inr ⟨W.heap.size, 0, #[], by simp, Nat.le_refl _, heap_alloc_new W _, by simp, by simp, by simp, by simp⟩⟩, ?_⟩
    exact ⟨by simp, fun j p hj => by simp at hj⟩
  have := h.made hb hr
  simpa using this
section
variable {P : Program} {ops : Array Oper} {rest : List Oper} {o : Oper} {a : Act} {Q : Exit → Act → World → Prop}
/-- append(v, src...), v a row of the list, src whatever is read. -/
theorem Hold.appendC {α : Type} {w0 W : World} {L : List (Thing × Nat × Nat)} {lo hi : Nat} (h : Hold w0 W L) (d : Kd α) (hE : d.E = []) (hM : ∀ w b b' ok x cs, d.M w b ok x cs → d.M w b' ok x cs) (hKM : ∀ x cs, d.K W x cs → d.M W w0.heap.size (fun _ => False) x cs) (hgd : o.guard = none) (s x : Operand) (t e : TypeId) (z : Value) (bytes : Nat)
    (ho : o.op = .call { callee := .builtin .append, args := #[s, x], argTypes := #[t, t] })
    (ht : P.underlying t = some (.slice e)) (hinfo : (P.info? e).map (fun i => (i.zero, i.size, i.bytes)) = some (some z, d.sz, bytes)) (hz : z.cells.size = d.sz) (hs0 : 0 < d.sz) (hb0 : 0 < bytes)
    (v : Value) (l ys : List α) (A : Option Addr) (m c : Nat) (hs : a.eval s = v) (hx : a.eval x = .slice A m c) (hm : (flat d e v l, lo, hi) ∈ L) (hC : d.C W A m ys) (hl : (l.length + m) * bytes ≤ 140737488355328)
    (k : ∀ A' c' lo' hi' w1, (∀ L', Sw (flat d e v l, lo, hi) (flat d e (.slice A' (l.length + ys.length) c') (l ++ ys), lo', hi') L L' → Hold w0 w1 L') → wpList P ops Q rest (a.put o.dst (.slice A' (l.length + ys.length) c')) w1) :
    wpList P ops Q (o :: rest) a W := by
  obtain ⟨hP, hlo, hlh, hhi⟩ := h.get hm
  have hP' : d.R e W lo (In lo hi) v l := hP
  have hR : d.R e W w0.heap.size (fun _ => True) v l := Kd.R_mono (Kd.R_lower hP' hlo) (fun _ _ => trivial)
  refine Kd.R_append_rows d (w0 := w0) w0.heap.size hgd s x t e z bytes ho ht hinfo hz hs0 hb0 v l ys A m c (fun _ => True) (fun _ => False) hs hx hR hC hKM (fun _ k => k.elim) (fun _ _ => trivial) h.below h.below.size hl ?_
  intro v1 w1 hr1 hb1 hg1 hat1
  obtain ⟨A', c', hv⟩ := Kd.R_slice hr1
  rw [List.length_append] at hv
  subst hv
  obtain ⟨lo', hi', hQ⟩ := h.grew (d := d) hE hM hm hg1 hr1 hat1
  exact k A' c' lo' hi' w1 hQ
theorem Hold.appendCI {w0 W : World} {L : List (Thing × Nat × Nat)} {lo hi : Nat} (h : Hold w0 W L) (hgd : o.guard = none) (s x : Operand) (t e : TypeId)
    (ho : o.op = .call { callee := .builtin .append, args := #[s, x], argTypes := #[t, t] })
    (ht : P.underlying t = some (.slice e)) (hinfo : (P.info? e).map (fun i => (i.zero, i.size, i.bytes)) = some (some (.int .i64 0), 1, 8))
    (v : Value) (l ys : List Int) (A : Option Addr) (m c : Nat) (hs : a.eval s = v) (hx : a.eval x = .slice A m c) (hm : (flat (Kd.int .i64) e v l, lo, hi) ∈ L) (hC : (Kd.int .i64).C W A m ys) (hl : l.length + m ≤ 1048576)
    (k : ∀ A' c' lo' hi' w1, (∀ L', Sw (flat (Kd.int .i64) e v l, lo, hi) (flat (Kd.int .i64) e (.slice A' (l.length + ys.length) c') (l ++ ys), lo', hi') L L' → Hold w0 w1 L') → wpList P ops Q rest (a.put o.dst (.slice A' (l.length + ys.length) c')) w1) :
    wpList P ops Q (o :: rest) a W :=
  Hold.appendC h (Kd.int .i64) rfl (fun _ _ _ _ _ _ hM => hM) (fun _ _ h => h) hgd s x t e (.int .i64 0) 8 ho ht hinfo rfl Nat.one_pos (by decide) v l ys A m c hs hx hm hC (by omega) k
end
/-- A policy: a nest and a row in one struct. -/
def polT (h : List (List Int)) (m : List Int) (v : Value) : Thing where
  P W lo hi := ∃ A c B b, v = .agg #[.slice A h.length c, .slice B m.length b] ∧ (nest (Kd.slice 2 (Kd.int .i64)) 30 (.slice A h.length c) h).P W lo hi ∧ (flat (Kd.int .i64) 2 (.slice B m.length b) m).P W lo hi
  move h hm := by
    obtain ⟨A, c, B, b, e, h1, h2⟩ := h
    exact ⟨A, c, B, b, e, Thing.move _ h1 hm, Thing.move _ h2 hm⟩
end Go.Proofs.YtpooojgeonpmnaaW.PrintWords
