/- What a law holds: things of its own, each in blocks of its own, the newest first; what a call adds to them, keeps, and marks. -/
import Derived.Test.YtpooojgeonpmnaaZExactAccuracyOfX2
import Derived.Test.YtpooojgeonpmnaaZExactAccuracyOfWKept
import Derived.Test.YtpooojgeonpmnaaZExactAccuracyOfWApart
import Derived.Test.YtpooojgeonpmnaaZExactAccuracyOfWMore
namespace Go.Proofs.YtpooojgeonpmnaaW.PrintWords
open Go.RowKit
/-- The blocks from lo on, below hi. -/
def In (lo hi : Nat) : Nat → Prop := fun k => lo ≤ k ∧ k < hi
/-- What is told of the blocks from lo on, below hi, and of no others. -/
structure Thing where
  P : World → Nat → Nat → Prop
  move : ∀ {W W' : World} {lo hi : Nat}, P W lo hi → (∀ k, lo ≤ k → k < hi → k < W.heap.size → W'.heap[k]? = W.heap[k]?) → P W' lo hi
def flat {α : Type} (d : Kd α) (e : Nat) (v : Value) (l : List α) : Thing where
  P W lo hi := d.R e W lo (In lo hi) v l
  move h hm := Kd.R_step h (fun k hk hlt => hm k hk.1 hk.2 hlt)
def nest {α : Type} (d : Kd α) (e : Nat) (v : Value) (l : List α) : Thing where
  P W lo hi := Kd.S d e W lo (In lo hi) v l
  move h hm := Kd.S_step h (fun k hk hlt => hm k hk.1 hk.2 hlt)
/-- A variable's block. -/
def boxT (cs : Array Value) (t : TypeId) : Thing where
  P W lo hi := W.heap[lo]? = some (.cells cs t (0, 0)) ∧ hi = lo + 1
  move h hm := ⟨(hm _ (Nat.le_refl _) (by have := h.2; omega) (blk_lt h.1)).trans h.1, h.2⟩
/-- Things from block a on, the newest (highest) first, all below b. -/
def All (W : World) (a : Nat) : Nat → List (Thing × Nat × Nat) → Prop
  | b, [] => a ≤ b
  | b, (T, lo, hi) :: L => T.P W lo hi ∧ lo ≤ hi ∧ hi ≤ b ∧ All W a lo L
theorem All.le {W : World} {a : Nat} : ∀ {L : List (Thing × Nat × Nat)} {b : Nat}, All W a b L → a ≤ b
  | [], _, h => h
  | (_, _, _) :: _, _, ⟨_, h1, h2, h3⟩ => by have := h3.le; omega
theorem All.move {W W' : World} {a : Nat} : ∀ {L : List (Thing × Nat × Nat)} {b : Nat}, All W a b L → (∀ k, a ≤ k → k < b → k < W.heap.size → W'.heap[k]? = W.heap[k]?) → All W' a b L
  | [], _, h, _ => h
  | (T, lo, hi) :: L, b, ⟨h0, h1, h2, h3⟩, hm => ⟨T.move h0 (fun k k1 k2 k3 => hm k (by have := h3.le; omega) (by omega) k3), h1, h2, h3.move (fun k k1 k2 k3 => hm k k1 (by omega) k3)⟩
theorem All.raise {W : World} {a b b' : Nat} : ∀ {L : List (Thing × Nat × Nat)}, All W a b L → b ≤ b' → All W a b' L
  | [], h, hb => Nat.le_trans h hb
  | (_, _, _) :: _, ⟨h0, h1, h2, h3⟩, hb => ⟨h0, h1, Nat.le_trans h2 hb, h3⟩
theorem All.get {W : World} {a : Nat} {T : Thing} {lo hi : Nat} : ∀ {L : List (Thing × Nat × Nat)} {b : Nat}, All W a b L → (T, lo, hi) ∈ L → T.P W lo hi ∧ a ≤ lo ∧ lo ≤ hi ∧ hi ≤ b
  | [], _, _, hm => absurd hm List.not_mem_nil
  | (T', lo', hi') :: L, b, ⟨h0, h1, h2, h3⟩, hm => by
    rcases List.mem_cons.1 hm with hm | hm
    · injection hm with e1 e2
      injection e2 with e2 e3
      subst e1 e2 e3
      exact ⟨h0, h3.le, h1, h2⟩
    · obtain ⟨g0, g1, g2, g3⟩ := h3.get hm
      exact ⟨g0, g1, g2, by omega⟩
/-- One thing of a list became another one. -/
inductive Upd (T T' : Thing) (lo hi : Nat) : List (Thing × Nat × Nat) → List (Thing × Nat × Nat) → Prop
  | here {L : List (Thing × Nat × Nat)} : Upd T T' lo hi ((T, lo, hi) :: L) ((T', lo, hi) :: L)
  | there {x : Thing × Nat × Nat} {L L' : List (Thing × Nat × Nat)} (h : Upd T T' lo hi L L') : Upd T T' lo hi (x :: L) (x :: L')
theorem Upd.mem {T T' : Thing} {lo hi : Nat} {L L' : List (Thing × Nat × Nat)} (h : Upd T T' lo hi L L') : (T, lo, hi) ∈ L := by
  induction h with
  | here => exact List.mem_cons_self
  | there _ ih => exact List.mem_cons_of_mem _ ih
theorem All.upd {W W' : World} {a : Nat} {T T' : Thing} {lo hi : Nat} {L L' : List (Thing × Nat × Nat)} (u : Upd T T' lo hi L L') :
    ∀ {b : Nat}, All W a b L → b ≤ W.heap.size → Kept W W' (In lo hi) → T'.P W' lo hi → All W' a b L' := by
  induction u with
  | here =>
    intro b h hb hk hp
    obtain ⟨h0, h1, h2, h3⟩ := h
    exact ⟨hp, h1, h2, h3.move (fun k k1 k2 k3 => hk.2 k k3 (fun hi => by have := hi.1; omega))⟩
  | @there x L L' u ih =>
    intro b h hb hk hp
    obtain ⟨T0, lo0, hi0⟩ := x
    obtain ⟨h0, h1, h2, h3⟩ := h
    have hg := h3.get u.mem
    exact ⟨T0.move h0 (fun k k1 k2 k3 => hk.2 k k3 (fun hi => by have := hi.2; omega)), h1, h2, ih h3 (by omega) hk hp⟩
structure St (w0 W : World) (L : List (Thing × Nat × Nat)) : Prop where
  below : Below w0.heap.size w0 W
  all : All W w0.heap.size W.heap.size L
section
variable {w0 W W' : World} {L L' : List (Thing × Nat × Nat)} {T T' : Thing} {lo hi : Nat}
theorem St.start (w : World) : St w w [] := ⟨Below.refl _ _, Nat.le_refl _⟩
theorem St.step (h : St w0 W L) (hb : Below W.heap.size W W') : St w0 W' L :=
  ⟨below_le h.below hb, (h.all.move (fun k _ hk _ => hb.block k hk)).raise hb.size⟩
theorem St.alloc (h : St w0 W L) (o : Obj) : St w0 (W.alloc o) L := h.step (below_alloc (Below.refl _ _) o)
theorem St.drewN (h : St w0 W L) (n : Nat) : St w0 (W.drewN n) L := h.step (pw_below_drewN (Below.refl _ _) n)
theorem St.drew (h : St w0 W L) : St w0 W.drew L := h.step (below_drew (Below.refl _ _))
theorem St.add (h : St w0 W L) (hb : Below W.heap.size W W') (hp : T.P W' W.heap.size W'.heap.size) : St w0 W' ((T, W.heap.size, W'.heap.size) :: L) :=
  ⟨below_le h.below hb, hp, hb.size, Nat.le_refl _, h.all.move (fun k _ hk _ => hb.block k hk)⟩
theorem St.get (h : St w0 W L) (hm : (T, lo, hi) ∈ L) : T.P W lo hi ∧ w0.heap.size ≤ lo ∧ lo ≤ hi ∧ hi ≤ W.heap.size := h.all.get hm
theorem St.upd (h : St w0 W L) (u : Upd T T' lo hi L L') (hB : Below w0.heap.size w0 W') (hk : Kept W W' (In lo hi)) (hp : T'.P W' lo hi) : St w0 W' L' :=
  ⟨hB, ((h.all.upd u (Nat.le_refl _) hk hp).raise hk.1)⟩
end
theorem St.box {w0 W : World} {L : List (Thing × Nat × Nat)} (h : St w0 W L) (cs : Array Value) (t : TypeId) : St w0 (W.alloc (.cells cs t)) ((boxT cs t, W.heap.size, W.heap.size + 1) :: L) := by
  have h2 := h.add (T := boxT cs t) (below_alloc (Below.refl _ _) (.cells cs t)) ⟨heap_alloc_new W _, by simp⟩
  simpa using h2
theorem St.cell {w0 W : World} {L : List (Thing × Nat × Nat)} (h : St w0 W L) {cs : Array Value} {t : TypeId} {g g' : Nat} (hm : (boxT cs t, g, g') ∈ L) (j : Nat) (v : Value) (hj : cs[j]? = some v) : W.cell? ⟨g, j, none⟩ = some v := by
  have := (h.get hm).1.1
  simp [World.cell?, this, hj]
theorem St.thaw {w0 W : World} {L : List (Thing × Nat × Nat)} (h : St w0 W L) {cs : Array Value} {t : TypeId} {g g' : Nat} (hm : (boxT cs t, g, g') ∈ L) (j : Nat) : W.frozen? ⟨g, j, none⟩ = false := by
  have := (h.get hm).1.1
  simp [World.frozen?, this]
theorem St.blk {w0 W : World} {L : List (Thing × Nat × Nat)} (h : St w0 W L) {cs : Array Value} {t : TypeId} {g g' : Nat} (hm : (boxT cs t, g, g') ∈ L) : W.heap[g]? = some (.cells cs t (0, 0)) := (h.get hm).1.1
theorem All.append {W : World} {c a : Nat} {L : List (Thing × Nat × Nat)} (h : All W c a L) : ∀ {L2 : List (Thing × Nat × Nat)} {b : Nat}, All W a b L2 → All W c b (L2 ++ L)
  | [], _, h2 => h.raise h2
  | (_, _, _) :: _, _, ⟨h0, h1, h2, h3⟩ => ⟨h0, h1, h2, h.append h3⟩
theorem All.sub {W : World} {a : Nat} {L' L : List (Thing × Nat × Nat)} (hs : L'.Sublist L) : ∀ {b : Nat}, All W a b L → All W a b L' := by
  induction hs with
  | slnil => intro b h; exact h
  | cons x _ ih =>
    intro b h
    obtain ⟨T, lo, hi⟩ := x
    obtain ⟨_, h1, h2, h3⟩ := h
    exact ih (h3.raise (by omega))
  | cons_cons x _ ih =>
    intro b h
    obtain ⟨T, lo, hi⟩ := x
    obtain ⟨h0, h1, h2, h3⟩ := h
    exact ⟨h0, h1, h2, ih h3⟩
/-- A call's own account is laid upon the caller's. -/
theorem St.then_ {w0 W W' : World} {L L2 : List (Thing × Nat × Nat)} (h : St w0 W L) (h2 : St W W' L2) : St w0 W' (L2 ++ L) :=
  ⟨below_le h.below h2.below, (h.all.move (fun k _ hk _ => h2.below.block k hk)).append h2.all⟩
theorem St.sub {w0 W : World} {L' L : List (Thing × Nat × Nat)} (h : St w0 W L) (hs : L'.Sublist L) : St w0 W L' := ⟨h.below, h.all.sub hs⟩
/-- A store into a variable. -/
theorem St.setBox {w0 W : World} {L L' : List (Thing × Nat × Nat)} {cs : Array Value} {t : TypeId} {g g' : Nat} (h : St w0 W L) (j : Nat) (v : Value) (u : Upd (boxT cs t) (boxT (cs.setIfInBounds j v) t) g g' L L') : St w0 (W.setCell ⟨g, j, none⟩ v) L' := by
  obtain ⟨⟨hp, he⟩, hlo, _, hi⟩ := h.get u.mem
  have hs : ∀ k, k ≠ g → (W.setCell ⟨g, j, none⟩ v).heap[k]? = W.heap[k]? := fun k hk => Below.heap_setCell W ⟨g, j, none⟩ v k hk
  have hz : W.heap.size ≤ (W.setCell ⟨g, j, none⟩ v).heap.size := by simp [World.setCell]
  refine h.upd u ?_ ⟨hz, fun k _ hk => hs k (fun e => hk ⟨by omega, by omega⟩)⟩ ⟨?_, he⟩
  · refine ⟨h.below.os, h.below.tape, h.below.output, Nat.le_trans h.below.size hz, fun k hk => ?_⟩
    rw [hs k (by omega)]
    exact h.below.block k hk
  · unfold World.setCell
    simp only [Array.getElem?_modify, if_true, hp]
    rfl
section
variable {α : Type} {d : Kd α} {e : Nat} {v : Value} {l : List α} {W W' : World} {lo hi B : Nat}
theorem flat_new (h : d.R e W' B (fun _ => True) v l) : (flat d e v l).P W' B W'.heap.size := Kd.R_mono (Kd.R_bound h) (fun _ hk => ⟨hk.2.1, hk.2.2.1⟩)
theorem nest_new (h : Kd.S d e W' B (fun _ => True) v l) : (nest d e v l).P W' B W'.heap.size := Kd.S_mono (Kd.S_bound h) (fun _ hk => ⟨hk.2.1, hk.2.2.1⟩)
theorem flat_reads (h : (flat d e v l).P W lo hi) : ∃ A c, v = .slice A l.length c ∧ l.length ≤ c ∧ d.C W A l.length l := Kd.R_reads h
end
end Go.Proofs.YtpooojgeonpmnaaW.PrintWords
