/- Rows of pairs of whole numbers (structs of two int64) as things. -/
import Derived.Test.YtpooojgeonpmnaaZExactAccuracyOfX16
namespace Go.Proofs.YtpooojgeonpmnaaW.PrintWords
set_option linter.unusedVariables false
set_option linter.unusedSimpArgs false
open Go.RowKit Go.Proofs.YtpooojgeonpmnaaW.PrintLast
def kPair : Kd (Int × Int) := Kd.pair (Kd.int .i64) (Kd.int .i64)
theorem kPair_open {w : World} {x : Int × Int} {cs : List Value} (h : kPair.K w x cs) : cs = [.int .i64 x.1, .int .i64 x.2] := by
  obtain ⟨_, _, rfl, rfl, rfl⟩ := h
  rfl
theorem kPair_mkM (w : World) (base : Nat) (ok : Nat → Prop) (x : Int × Int) : kPair.M w base ok x [.int .i64 x.1, .int .i64 x.2] := ⟨[.int .i64 x.1], [.int .i64 x.2], rfl, rfl, rfl⟩
theorem kPair_base : ∀ (w : World) (b b' : Nat) (ok : Nat → Prop) (x : Int × Int) (cs : List Value), kPair.M w b ok x cs → kPair.M w b' ok x cs := fun _ _ _ _ _ _ h => h
theorem at_P {w : World} {A : Option Addr} {n : Nat} {xs : List (Int × Int)} (h : Kd.C kPair w A n xs) (i : Int) (h0 : 0 ≤ i) (h1 : i < n) : ∃ ad, A = some ad ∧ w.cell? (ad.add (i.toNat * 2)) = some (.int .i64 (xs.getD i.toNat (0, 0)).1) ∧ w.cell? ⟨(ad.add (i.toNat * 2)).block, (ad.add (i.toNat * 2)).off + 1, none⟩ = some (.int .i64 (xs.getD i.toNat (0, 0)).2) := by
  obtain ⟨ad, c, e, _, hK, hc0⟩ := Kd.C_get h (0, 0) i h0 h1
  have hc : ∀ j u, c[j]? = some u → w.cell? (ad.add (i.toNat * 2 + j)) = some u := hc0
  obtain rfl := kPair_open hK
  exact ⟨ad, e, hc 0 _ rfl, by rw [← add_field _ _ 1 (by omega)]; exact hc 1 _ rfl⟩
section
variable {P : Program} {ops : Array Oper} {rest : List Oper} {o : Oper} {a : Act} {Kc : Act → World → Prop} {Q : Exit → Act → World → Prop}
theorem Hold.appendP {w0 W : World} {L : List (Thing × Nat × Nat)} {lo hi : Nat} (h : Hold w0 W L) (hgd : o.guard = none) (s x : Operand) (t e : TypeId)
    (ho : o.op = .call { callee := .builtin .append, args := #[s, x], argTypes := #[t, t] })
    (ht : P.underlying t = some (.slice e)) (hinfo : (P.info? e).map (fun i => (i.zero, i.size, i.bytes)) = some (some (.agg #[.int .i64 0, .int .i64 0]), 2, 16))
    (v : Value) (l : List (Int × Int)) (y : Int × Int) (hs : a.eval s = v) (hx : a.eval x = .slice (some ⟨W.heap.size, 0, none⟩) 1 1) (hm : (flat kPair e v l, lo, hi) ∈ L) (hl : l.length ≤ 1048576)
    (k : ∀ A c lo' hi' w1, (∀ L', Sw (flat kPair e v l, lo, hi) (flat kPair e (.slice A (l.length + 1) c) (l ++ [y]), lo', hi') L L' → Hold w0 w1 L') → wpList P ops Q rest (a.put o.dst (.slice A (l.length + 1) c)) w1) :
    wpList P ops Q (o :: rest) a (W.alloc (.cells #[.int .i64 y.1, .int .i64 y.2] e)) := by
  obtain ⟨hP, hlo, hlh, hhi⟩ := h.get hm
  have hP' : kPair.R e W lo (In lo hi) v l := hP
  have hR : kPair.R e W w0.heap.size (fun _ => True) v l := Kd.R_mono (Kd.R_lower hP' hlo) (fun _ _ => trivial)
  refine Kd.R_append kPair (w0 := w0) w0.heap.size hgd s x t e (.agg #[.int .i64 0, .int .i64 0]) 16 ho ht hinfo rfl (by decide) (by decide) v l y [.int .i64 y.1, .int .i64 y.2] (fun _ => True) (fun _ => False) hs hx (kPair_mkM _ _ _ y) (fun _ hk => hk.elim) (fun _ _ => trivial) hR h.below h.below.size (by omega) ?_
  intro v1 w1 hr1 _ hg hat
  obtain ⟨A, c, hv⟩ := Kd.R_slice hr1
  rw [List.length_append, List.length_singleton] at hv
  subst hv
  obtain ⟨lo', hi', hQ⟩ := h.grew (d := kPair) rfl kPair_base hm hg hr1 hat
  exact k A c lo' hi' w1 hQ
theorem Hold.appendP_step {w0 W : World} {L : List (Thing × Nat × Nat)} {lo hi : Nat} (h : Hold w0 W L) (hw : Region.wanted o (yielded ops a.tmps) = true) (s x : Operand) (t e : TypeId)
    (ho : o.op = .call { callee := .builtin .append, args := #[s, x], argTypes := #[t, t] })
    (ht : P.underlying t = some (.slice e)) (hinfo : (P.info? e).map (fun i => (i.zero, i.size, i.bytes)) = some (some (.agg #[.int .i64 0, .int .i64 0]), 2, 16))
    (v : Value) (l : List (Int × Int)) (y : Int × Int) (hs : a.eval s = v) (hx : a.eval x = .slice (some ⟨W.heap.size, 0, none⟩) 1 1) (hm : (flat kPair e v l, lo, hi) ∈ L) (hl : l.length ≤ 1048576)
    (k : ∀ A c lo' hi' w1, (∀ L', Sw (flat kPair e v l, lo, hi) (flat kPair e (.slice A (l.length + 1) c) (l ++ [y]), lo', hi') L L' → Hold w0 w1 L') → Kc (a.put o.dst (.slice A (l.length + 1) c)) w1) :
    if Region.wanted o (yielded ops a.tmps) = true then Oper.wp P o a (W.alloc (.cells #[.int .i64 y.1, .int .i64 y.2] e)) Kc Q else Kc (a.put o.dst undef) (W.alloc (.cells #[.int .i64 y.1, .int .i64 y.2] e)) := by
  obtain ⟨hP, hlo, hlh, hhi⟩ := h.get hm
  have hP' : kPair.R e W lo (In lo hi) v l := hP
  have hR : kPair.R e W w0.heap.size (fun _ => True) v l := Kd.R_mono (Kd.R_lower hP' hlo) (fun _ _ => trivial)
  refine Kd.R_append_step kPair (w0 := w0) w0.heap.size hw s x t e (.agg #[.int .i64 0, .int .i64 0]) 16 ho ht hinfo rfl (by decide) (by decide) v l y [.int .i64 y.1, .int .i64 y.2] (fun _ => True) (fun _ => False) hs hx (kPair_mkM _ _ _ y) (fun _ hk => hk.elim) (fun _ _ => trivial) hR h.below h.below.size (by omega) ?_
  intro v1 w1 hr1 _ hg hat
  obtain ⟨A, c, hv⟩ := Kd.R_slice hr1
  rw [List.length_append, List.length_singleton] at hv
  subst hv
  obtain ⟨lo', hi', hQ⟩ := h.grew (d := kPair) rfl kPair_base hm hg hr1 hat
  exact k A c lo' hi' w1 hQ
end
/-- A search of a mapped list. -/
theorem xIdx_map {α β : Type} (p : β → Bool) (f : α → β) : ∀ (l : List α) (i : Int), xIdx p (l.map f) i = xIdx (fun x => p (f x)) l i
  | [], _ => rfl
  | y :: r, i => by
    rw [List.map_cons, xIdx, xIdx]
    split
    · rfl
    · exact xIdx_map p f r (i + 1)
end Go.Proofs.YtpooojgeonpmnaaW.PrintWords
