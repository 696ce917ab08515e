/- What a law holds: things of its own, each in blocks of its own, the newest first; what a call adds to them, keeps, and marks. -/
import Derived.Test.YtlaafbaheoeclaaZExactBusTrafficX2
import Derived.Test.YtlaafbaheoeclaaZExactBusTrafficWKept
import Derived.Test.YtlaafbaheoeclaaZExactBusTrafficWApart
import Derived.Test.YtlaafbaheoeclaaZExactBusTrafficWMore
namespace Go.Proofs.YtlaafbaheoeclaaW.PrintWords
open Go.RowKit

/-- What is told of the blocks from lo on, below hi, and of no others. -/
structure Thing where
  P : World → Nat → Nat → Prop
  move : ∀ {W W' : World} {lo hi : Nat}, P W lo hi → (∀ k, lo ≤ k → k < hi → k < W.heap.size → W'.heap[k]? = W.heap[k]?) → P W' lo hi
/-- A variable's block. -/
def boxT (cs : Array Value) (t : TypeId) : Thing where
  P W lo hi := W.heap[lo]? = some (.cells cs t (0, 0)) ∧ hi = lo + 1
  move h hm := ⟨(hm _ (Nat.le_refl _) (by have := h.2; omega) (blk_lt h.1)).trans h.1, h.2⟩
/-- Things from block a on, the newest (highest) first, all below b. -/
def All (W : World) (a : Nat) : Nat → List (Thing × Nat × Nat) → Prop
  | b, [] => a ≤ b
  | b, (T, lo, hi) :: L => T.P W lo hi ∧ lo ≤ hi ∧ hi ≤ b ∧ All W a lo L
theorem All.le {W : World} {a : Nat} : ∀ {L : List (Thing × Nat × Nat)} {b : Nat}, All W a b L → a ≤ b
  | [], _, h => h
  | (_, _, _) :: _, _, ⟨_, h1, h2, h3⟩ => by have := h3.le; omega
theorem All.move {W W' : World} {a : Nat} : ∀ {L : List (Thing × Nat × Nat)} {b : Nat}, All W a b L → (∀ k, a ≤ k → k < b → k < W.heap.size → W'.heap[k]? = W.heap[k]?) → All W' a b L
  | [], _, h, _ => h
  | (T, lo, hi) :: L, b, ⟨h0, h1, h2, h3⟩, hm => ⟨T.move h0 (fun k k1 k2 k3 => hm k (by have := h3.le; omega) (by omega) k3), h1, h2, h3.move (fun k k1 k2 k3 => hm k k1 (by omega) k3)⟩
theorem All.raise {W : World} {a b b' : Nat} : ∀ {L : List (Thing × Nat × Nat)}, All W a b L → b ≤ b' → All W a b' L
  | [], h, hb => Nat.le_trans h hb
  | (_, _, _) :: _, ⟨h0, h1, h2, h3⟩, hb => ⟨h0, h1, Nat.le_trans h2 hb, h3⟩
theorem All.get {W : World} {a : Nat} {T : Thing} {lo hi : Nat} : ∀ {L : List (Thing × Nat × Nat)} {b : Nat}, All W a b L → (T, lo, hi) ∈ L → T.P W lo hi ∧ a ≤ lo ∧ lo ≤ hi ∧ hi ≤ b
  | [], _, _, hm => absurd hm List.not_mem_nil
  | (T', lo', hi') :: L, b, ⟨h0, h1, h2, h3⟩, hm => by
    rcases List.mem_cons.1 hm with hm | hm
    · injection hm with e1 e2
      injection e2 with e2 e3
      subst e1 e2 e3
      exact ⟨h0, h3.le, h1, h2⟩
    · obtain ⟨g0, g1, g2, g3⟩ := h3.get hm
      exact ⟨g0, g1, g2, by omega⟩
structure St (w0 W : World) (L : List (Thing × Nat × Nat)) : Prop where
  below : Below w0.heap.size w0 W
  all : All W w0.heap.size W.heap.size L
section
variable {w0 W W' : World} {L L' : List (Thing × Nat × Nat)} {T T' : Thing} {lo hi : Nat}
theorem St.start (w : World) : St w w [] := ⟨Below.refl _ _, Nat.le_refl _⟩
theorem St.step (h : St w0 W L) (hb : Below W.heap.size W W') : St w0 W' L :=
  ⟨below_le h.below hb, (h.all.move (fun k _ hk _ => hb.block k hk)).raise hb.size⟩
theorem St.alloc (h : St w0 W L) (o : Obj) : St w0 (W.alloc o) L := h.step (below_alloc (Below.refl _ _) o)
theorem St.drewN (h : St w0 W L) (n : Nat) : St w0 (W.drewN n) L := h.step (pw_below_drewN (Below.refl _ _) n)
theorem St.drew (h : St w0 W L) : St w0 W.drew L := h.step (below_drew (Below.refl _ _))
theorem St.add (h : St w0 W L) (hb : Below W.heap.size W W') (hp : T.P W' W.heap.size W'.heap.size) : St w0 W' ((T, W.heap.size, W'.heap.size) :: L) :=
  ⟨below_le h.below hb, hp, hb.size, Nat.le_refl _, h.all.move (fun k _ hk _ => hb.block k hk)⟩
theorem St.get (h : St w0 W L) (hm : (T, lo, hi) ∈ L) : T.P W lo hi ∧ w0.heap.size ≤ lo ∧ lo ≤ hi ∧ hi ≤ W.heap.size := h.all.get hm
end
theorem St.box {w0 W : World} {L : List (Thing × Nat × Nat)} (h : St w0 W L) (cs : Array Value) (t : TypeId) : St w0 (W.alloc (.cells cs t)) ((boxT cs t, W.heap.size, W.heap.size + 1) :: L) := by
  have h2 := h.add (T := boxT cs t) (below_alloc (Below.refl _ _) (.cells cs t)) ⟨heap_alloc_new W _, by simp⟩
  simpa using h2
theorem St.cell {w0 W : World} {L : List (Thing × Nat × Nat)} (h : St w0 W L) {cs : Array Value} {t : TypeId} {g g' : Nat} (hm : (boxT cs t, g, g') ∈ L) (j : Nat) (v : Value) (hj : cs[j]? = some v) : W.cell? ⟨g, j, none⟩ = some v := by
  have := (h.get hm).1.1
  simp [World.cell?, this, hj]
theorem St.thaw {w0 W : World} {L : List (Thing × Nat × Nat)} (h : St w0 W L) {cs : Array Value} {t : TypeId} {g g' : Nat} (hm : (boxT cs t, g, g') ∈ L) (j : Nat) : W.frozen? ⟨g, j, none⟩ = false := by
  have := (h.get hm).1.1
  simp [World.frozen?, this]
theorem St.blk {w0 W : World} {L : List (Thing × Nat × Nat)} (h : St w0 W L) {cs : Array Value} {t : TypeId} {g g' : Nat} (hm : (boxT cs t, g, g') ∈ L) : W.heap[g]? = some (.cells cs t (0, 0)) := (h.get hm).1.1
theorem All.append {W : World} {c a : Nat} {L : List (Thing × Nat × Nat)} (h : All W c a L) : ∀ {L2 : List (Thing × Nat × Nat)} {b : Nat}, All W a b L2 → All W c b (L2 ++ L)
  | [], _, h2 => h.raise h2
  | (_, _, _) :: _, _, ⟨h0, h1, h2, h3⟩ => ⟨h0, h1, h2, h.append h3⟩
/-- A call's own account is laid upon the caller's. -/
theorem St.then_ {w0 W W' : World} {L L2 : List (Thing × Nat × Nat)} (h : St w0 W L) (h2 : St W W' L2) : St w0 W' (L2 ++ L) :=
  ⟨below_le h.below h2.below, (h.all.move (fun k _ hk _ => h2.below.block k hk)).append h2.all⟩
section
variable {α : Type} {d : Kd α} {e : Nat} {v : Value} {l : List α} {W W' : World} {lo hi B : Nat}
end
end Go.Proofs.YtlaafbaheoeclaaW.PrintWords
