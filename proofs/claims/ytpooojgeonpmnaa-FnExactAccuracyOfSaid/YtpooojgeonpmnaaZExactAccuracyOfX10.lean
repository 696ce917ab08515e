/- What a function holds: things, each in blocks of its own, in whatever order (X3's things, without an order of age). -/
import Derived.Test.YtpooojgeonpmnaaZExactAccuracyOfX4
namespace Go.Proofs.YtpooojgeonpmnaaW.PrintWords
set_option linter.unusedVariables false
set_option linter.unusedSimpArgs false
open Go.RowKit
noncomputable def Ev.num {α : Type} {g : Nat → Option α} {r : α} (h : Ev g r) : Nat := Classical.choose h
theorem Ev.is {α : Type} {g : Nat → Option α} {r : α} (h : Ev g r) : g (Ev.num h) = Option.some r := Classical.choose_spec h _ (Nat.le_refl _)
def Off (x y : Thing × Nat × Nat) : Prop := x.2.2 ≤ y.2.1 ∨ y.2.2 ≤ x.2.1
theorem Off.symm {x y : Thing × Nat × Nat} (h : Off x y) : Off y x := h.elim .inr .inl
def Sits (w0 W : World) (x : Thing × Nat × Nat) : Prop := x.1.P W x.2.1 x.2.2 ∧ w0.heap.size ≤ x.2.1 ∧ x.2.1 ≤ x.2.2 ∧ x.2.2 ≤ W.heap.size
structure Hold (w0 W : World) (L : List (Thing × Nat × Nat)) : Prop where
  below : Below w0.heap.size w0 W
  sits : ∀ x ∈ L, Sits w0 W x
  off : L.Pairwise Off
/-- One item of a list is another one. -/
inductive Sw (x y : Thing × Nat × Nat) : List (Thing × Nat × Nat) → List (Thing × Nat × Nat) → Prop
  | here {L : List (Thing × Nat × Nat)} : Sw x y (x :: L) (y :: L)
  | there {z : Thing × Nat × Nat} {L L' : List (Thing × Nat × Nat)} (h : Sw x y L L') : Sw x y (z :: L) (z :: L')
inductive Take (x : Thing × Nat × Nat) : List (Thing × Nat × Nat) → List (Thing × Nat × Nat) → Prop
  | here {L : List (Thing × Nat × Nat)} : Take x (x :: L) L
  | there {z : Thing × Nat × Nat} {L L' : List (Thing × Nat × Nat)} (h : Take x L L') : Take x (z :: L) (z :: L')
theorem Take.perm {x : Thing × Nat × Nat} {L R : List (Thing × Nat × Nat)} (h : Take x L R) : L.Perm (x :: R) := by
  induction h with
  | here => exact List.Perm.refl _
  | @there z L L' _ ih => exact (ih.cons z).trans (List.Perm.swap x z L')
theorem Sw.split {x y : Thing × Nat × Nat} {L L' : List (Thing × Nat × Nat)} (h : Sw x y L L') : ∃ R, L.Perm (x :: R) ∧ L'.Perm (y :: R) := by
  induction h with
  | @here L => exact ⟨L, List.Perm.refl _, List.Perm.refl _⟩
  | @there z L L' _ ih =>
    obtain ⟨R, h1, h2⟩ := ih
    exact ⟨z :: R, (h1.cons z).trans (List.Perm.swap x z R), (h2.cons z).trans (List.Perm.swap y z R)⟩
theorem Sw.mem {x y : Thing × Nat × Nat} {L L' : List (Thing × Nat × Nat)} (h : Sw x y L L') : x ∈ L := by
  obtain ⟨R, h1, _⟩ := h.split
  exact h1.mem_iff.2 List.mem_cons_self
namespace Hold
variable {w0 W W' : World} {L L' R : List (Thing × Nat × Nat)} {T T' : Thing} {lo hi : Nat} {x y : Thing × Nat × Nat}
theorem start (w : World) : Hold w w [] := ⟨Below.refl _ _, fun _ h => absurd h List.not_mem_nil, List.Pairwise.nil⟩
theorem mv (h : Sits w0 W x) (hb : Below W.heap.size W W') : Sits w0 W' x :=
  ⟨x.1.move h.1 (fun k _ _ hk => hb.block k hk), h.2.1, h.2.2.1, Nat.le_trans h.2.2.2 hb.size⟩
theorem step (h : Hold w0 W L) (hb : Below W.heap.size W W') : Hold w0 W' L := ⟨below_le h.below hb, fun x hx => mv (h.sits x hx) hb, h.off⟩
theorem alloc (h : Hold w0 W L) (o : Obj) : Hold w0 (W.alloc o) L := h.step (below_alloc (Below.refl _ _) o)
theorem drewN (h : Hold w0 W L) (n : Nat) : Hold w0 (W.drewN n) L := h.step (pw_below_drewN (Below.refl _ _) n)
theorem drew (h : Hold w0 W L) : Hold w0 W.drew L := h.step (below_drew (Below.refl _ _))
theorem add (h : Hold w0 W L) (hb : Below W.heap.size W W') (hp : T.P W' W.heap.size W'.heap.size) : Hold w0 W' ((T, W.heap.size, W'.heap.size) :: L) := by
  have h2 := h.step hb
  refine ⟨h2.below, fun x hx => ?_, List.Pairwise.cons (fun x hx => ?_) h2.off⟩
  · rcases List.mem_cons.1 hx with rfl | hx
    · exact ⟨hp, h.below.size, hb.size, Nat.le_refl _⟩
    · exact h2.sits x hx
  · exact .inr (h.sits x hx).2.2.2
theorem perm (h : Hold w0 W L) (p : L.Perm L') : Hold w0 W L' := ⟨h.below, fun x hx => h.sits x (p.mem_iff.2 hx), (p.pairwise_iff (fun {_ _} k => Off.symm k)).1 h.off⟩
theorem sub (h : Hold w0 W L) (hs : L'.Sublist L) : Hold w0 W L' := ⟨h.below, fun x hx => h.sits x (hs.subset hx), h.off.sublist hs⟩
theorem tail (h : Hold w0 W (x :: L)) : Hold w0 W L := h.sub (List.sublist_cons_self _ _)
theorem pick (h : Hold w0 W L) (t : Take x L R) : Hold w0 W (x :: R) := h.perm t.perm
theorem get (h : Hold w0 W L) (hm : (T, lo, hi) ∈ L) : T.P W lo hi ∧ w0.heap.size ≤ lo ∧ lo ≤ hi ∧ hi ≤ W.heap.size := h.sits _ hm
/-- The first item is written, and is another one then, in its own blocks or in new ones. -/
theorem front (h : Hold w0 W (x :: R)) (hb : Below w0.heap.size w0 W') (hk : Kept W W' (In x.2.1 x.2.2)) (hy : y.1.P W' y.2.1 y.2.2)
    (hI : (y.2.1 = x.2.1 ∧ y.2.2 = x.2.2) ∨ (W.heap.size ≤ y.2.1 ∧ y.2.1 ≤ y.2.2 ∧ y.2.2 ≤ W'.heap.size)) : Hold w0 W' (y :: R) := by
  have hx := h.sits x List.mem_cons_self
  have ho := List.pairwise_cons.1 h.off
  have hr : ∀ z ∈ R, Sits w0 W' z ∧ Off y z := by
    intro z hz
    have hs := h.sits z (List.mem_cons_of_mem _ hz)
    have hf := ho.1 z hz
    refine ⟨⟨z.1.move hs.1 (fun k k1 k2 k3 => hk.2 k k3 (fun hi => ?_)), hs.2.1, hs.2.2.1, Nat.le_trans hs.2.2.2 hk.1⟩, ?_⟩
    · have h1 := hi.1
      have h2 := hi.2
      rcases hf with hf | hf <;> omega
    · rcases hI with ⟨e1, e2⟩ | ⟨e1, _, _⟩
      · unfold Off
        rw [e1, e2]
        exact hf
      · have := hs.2.2.2
        exact .inr (by omega)
  refine ⟨hb, fun z hz => ?_, List.Pairwise.cons (fun z hz => (hr z hz).2) ho.2⟩
  rcases List.mem_cons.1 hz with rfl | hz
  · have h1 := hx.2.1
    have h2 := hx.2.2.1
    have h3 := hx.2.2.2
    have h4 := hk.1
    have h5 := h.below.size
    rcases hI with ⟨e1, e2⟩ | ⟨e1, e2, e3⟩
    · exact ⟨hy, by omega, by omega, by omega⟩
    · exact ⟨hy, by omega, e2, e3⟩
  · exact (hr z hz).1
theorem swap (h : Hold w0 W L) (u : Sw x y L L') (hb : Below w0.heap.size w0 W') (hk : Kept W W' (In x.2.1 x.2.2)) (hy : y.1.P W' y.2.1 y.2.2)
    (hI : (y.2.1 = x.2.1 ∧ y.2.2 = x.2.2) ∨ (W.heap.size ≤ y.2.1 ∧ y.2.1 ≤ y.2.2 ∧ y.2.2 ≤ W'.heap.size)) : Hold w0 W' L' := by
  obtain ⟨R, h1, h2⟩ := u.split
  exact ((h.perm h1).front hb hk hy hI).perm h2.symm
/-- A call that wrote into one item's blocks alone. -/
theorem only {S : Nat → Prop} (h : Hold w0 W L) (u : Sw (T, lo, hi) (T', lo, hi) L L') (hO : Only W W' S) (hS : ∀ k, S k → lo ≤ k ∧ k < hi) (hp : T'.P W' lo hi) : Hold w0 W' L' := by
  obtain ⟨_, hlo, hlh, hhi⟩ := h.get u.mem
  exact h.swap u (h.below.trans (hO.below h.below.size (fun k hk => Nat.le_trans hlo (hS k hk).1))) ⟨hO.size, fun k hk hn => hO.block k hk (fun e => hn (hS k e))⟩ hp (.inl ⟨rfl, rfl⟩)
theorem box (h : Hold w0 W L) (cs : Array Value) (t : TypeId) : Hold w0 (W.alloc (.cells cs t)) ((boxT cs t, W.heap.size, W.heap.size + 1) :: L) := by
  have h2 := h.add (T := boxT cs t) (below_alloc (Below.refl _ _) (.cells cs t)) ⟨heap_alloc_new W _, by simp⟩
  simpa using h2
theorem cell (h : Hold w0 W L) {cs : Array Value} {t : TypeId} {g g' : Nat} (hm : (boxT cs t, g, g') ∈ L) (j : Nat) (v : Value) (hj : cs[j]? = some v) : W.cell? ⟨g, j, none⟩ = some v := by
  have := (h.get hm).1.1
  simp [World.cell?, this, hj]
theorem thaw (h : Hold w0 W L) {cs : Array Value} {t : TypeId} {g g' : Nat} (hm : (boxT cs t, g, g') ∈ L) (j : Nat) : W.frozen? ⟨g, j, none⟩ = false := by
  have := (h.get hm).1.1
  simp [World.frozen?, this]
theorem blk (h : Hold w0 W L) {cs : Array Value} {t : TypeId} {g g' : Nat} (hm : (boxT cs t, g, g') ∈ L) : W.heap[g]? = some (.cells cs t (0, 0)) := (h.get hm).1.1
theorem below_set (h : Hold w0 W L) {g j : Nat} (hg : w0.heap.size ≤ g) (v : Value) : Below w0.heap.size w0 (W.setCell ⟨g, j, none⟩ v) :=
  h.below.setCell hg v
theorem kept_set {g j : Nat} (v : Value) {lo hi : Nat} (h1 : lo ≤ g) (h2 : g < hi) : Kept W (W.setCell ⟨g, j, none⟩ v) (In lo hi) :=
  ⟨by simp [World.setCell], fun k _ hk => Below.heap_setCell W ⟨g, j, none⟩ v k (fun e => hk (by have e2 : k = g := e; exact ⟨by omega, by omega⟩))⟩
/-- A store into a variable. -/
theorem setBox {cs : Array Value} {t : TypeId} {g g' : Nat} (h : Hold w0 W L) (j : Nat) (v : Value) (u : Sw (boxT cs t, g, g') (boxT (cs.setIfInBounds j v) t, g, g') L L') : Hold w0 (W.setCell ⟨g, j, none⟩ v) L' := by
  obtain ⟨⟨hp, he⟩, hlo, _, hi⟩ := h.get u.mem
  refine h.swap u (h.below_set hlo v) (kept_set v (Nat.le_refl _) (by show g < g'; omega)) ⟨?_, he⟩ (.inl ⟨rfl, rfl⟩)
  exact set_same hp v
section
variable {α : Type} {enc : α → Value} {h1 : ∀ x, (enc x).oneCell' = true} {e b n c : Nat} {v : Value} {l : List α}
theorem row_form {d : Kd α} (h : Hold w0 W L) (hm : (flat d e v l, lo, hi) ∈ L) (hp : 0 < l.length) : ∃ b c, v = .slice (some ⟨b, 0, none⟩) l.length c ∧ lo ≤ b ∧ b < hi := by
  have hg := h.get hm
  have hP : d.R e W lo (In lo hi) v l := hg.1
  obtain ⟨b, c, rfl, hb, _, _⟩ := Kd.R_form hP hp
  have := (hP.1 b (by simp [Value.ownBlock])).2
  exact ⟨b, c, rfl, hb, this⟩
/-- A store into a row. -/
theorem setRow (h : Hold w0 W L) (i : Int) (z : α) (u : Sw (flat (Kd.scalar enc h1) e (.slice (some ⟨b, 0, none⟩) n c) l, lo, hi) (flat (Kd.scalar enc h1) e (.slice (some ⟨b, 0, none⟩) n c) (l.set i.toNat z), lo, hi) L L') : Hold w0 (W.setCell ⟨b, i.toNat, none⟩ (enc z)) L' := by
  obtain ⟨hP, hlo, _, hi'⟩ := h.get u.mem
  have hP' : (Kd.scalar enc h1).R e W lo (In lo hi) (.slice (some ⟨b, 0, none⟩) n c) l := hP
  have hin := hP'.1 b (by simp [Value.ownBlock])
  refine h.swap u (h.below_set (Nat.le_trans hlo hin.1) _) (kept_set _ hin.1 hin.2) ?_ (.inl ⟨rfl, rfl⟩)
  obtain ⟨rfl, _, _⟩ := Kd.R_reads' hP'
  show (Kd.scalar enc h1).R e _ lo (In lo hi) _ _
  exact (Kd.R_put hP' i z).1
theorem rowCell (h : Hold w0 W L) (hm : (flat (Kd.scalar enc h1) e (.slice (some ⟨b, 0, none⟩) n c) l, lo, hi) ∈ L) (z : α) (i : Int) (h0 : 0 ≤ i) (hi0 : i < l.length) : W.cell? ⟨b, i.toNat, none⟩ = some (enc (rdOf z l i)) ∧ W.frozen? ⟨b, i.toNat, none⟩ = false := by
  have hP : (Kd.scalar enc h1).R e W lo (In lo hi) (.slice (some ⟨b, 0, none⟩) n c) l := (h.get hm).1
  obtain ⟨rfl, _, _⟩ := Kd.R_reads' hP
  exact Kd.R_cell z hP i h0 hi0
end
section
variable {α : Type} {d : Kd α} {e : Nat} {v v' : Value} {l l' : List α} {ok : Nat → Prop} {base : Nat}
theorem reads (h : Hold w0 W L) (hm : (flat d e v l, lo, hi) ∈ L) : ∃ A c, v = .slice A l.length c ∧ l.length ≤ c ∧ d.C W A l.length l := flat_reads (h.get hm).1
theorem reads' {A : Option Addr} {n c : Nat} (h : Hold w0 W L) (hm : (flat d e (.slice A n c) l, lo, hi) ∈ L) : n = l.length ∧ l.length ≤ c ∧ d.C W A l.length l := by
  obtain ⟨rfl, h1, h2⟩ := Kd.R_reads' (show d.R e W lo (In lo hi) (.slice A n c) l from (h.get hm).1)
  exact ⟨rfl, h1, h2⟩
/-- A row that was made by a call. -/
theorem made (h : Hold w0 W L) (hb : Below W.heap.size W W') (hr : d.R e W' W.heap.size (fun _ => True) v l) : Hold w0 W' ((flat d e v l, W.heap.size, W'.heap.size) :: L) := h.add hb (flat_new hr)
/-- A row (of elements that lead to nothing) has been written, or moved to a new block. -/
theorem grew (h : Hold w0 W L) (hE : d.E = []) (hM : ∀ w b b' ok x cs, d.M w b ok x cs → d.M w b' ok x cs) (hm : (flat d e v l, lo, hi) ∈ L) (hg : W.grownBy W' v.ownBlock) (hr : d.R e W' base ok v' l') (hat : v'.ownBlock = v.ownBlock ∨ ∃ b, v'.ownBlock = some b ∧ W.heap.size ≤ b) :
    ∃ lo' hi', ∀ L', Sw (flat d e v l, lo, hi) (flat d e v' l', lo', hi') L L' → Hold w0 W' L' := by
  obtain ⟨hP, hlo, hlh, hhi⟩ := h.get hm
  have hP' : d.R e W lo (In lo hi) v l := hP
  have hsz : W.heap.size ≤ W'.heap.size := hg.size
  have hk : Kept W W' (In lo hi) := ⟨hsz, fun k hk hn => hg.block k hk (fun e => hn (hP'.1 k e.symm))⟩
  have hB : Below w0.heap.size w0 W' := h.below.grown hg (Nat.le_trans (Nat.le_trans hlo hlh) hhi) (fun k hk => Nat.le_trans hlo (hP'.1 k hk).1)
  rcases hat with hat | ⟨b, hb, hle⟩
  · refine ⟨lo, hi, fun L' u => h.swap u hB hk ?_ (.inl ⟨rfl, rfl⟩)⟩
    show d.R e W' lo (In lo hi) v' l'
    refine Kd.R_reok hE (Kd.R_raise (fun w ok x cs => hM w base lo ok x cs) hr (fun k hk => ?_)) (fun k hk => ?_)
    · exact (hP'.1 k (hat ▸ hk)).1
    · exact hP'.1 k (hat ▸ hk)
  · refine ⟨W.heap.size, W'.heap.size, fun L' u => h.swap u hB hk ?_ (.inr ⟨Nat.le_refl _, hsz, Nat.le_refl _⟩)⟩
    show d.R e W' W.heap.size (In W.heap.size W'.heap.size) v' l'
    refine Kd.R_reok hE (Kd.R_raise (fun w ok x cs => hM w base _ ok x cs) hr (fun k hk => ?_)) (fun k hk => ?_)
    · rw [hb] at hk; cases hk; exact hle
    · have := Kd.R_lt hr k hk
      rw [hb] at hk; cases hk; exact ⟨hle, this⟩
theorem nilRow (h : Hold w0 W L) (d : Kd α) (e : Nat) : Hold w0 W ((flat d e (.slice none 0 0) [], W.heap.size, W.heap.size) :: L) :=
  h.add (T := flat d e (.slice none 0 0) []) (Below.refl _ _) (Kd.R_nil _ _ _ _ _)
end
end Hold
section
variable {P : Program} {ops : Array Oper} {rest : List Oper} {o : Oper} {a : Act} {Q : Exit → Act → World → Prop} {α : Type} {enc : α → Value} {h1 : ∀ x, (enc x).oneCell' = true}
/-- append(v, y), v a row of the list; behind 'at_builtin'. -/
theorem Hold.append {w0 W : World} {L : List (Thing × Nat × Nat)} {lo hi : Nat} (h : Hold w0 W L) (hgd : o.guard = none) (s x : Operand) (t e : TypeId) (z : Value) (bytes : Nat)
    (ho : o.op = .call { callee := .builtin .append, args := #[s, x], argTypes := #[t, t] })
    (ht : P.underlying t = some (.slice e)) (hinfo : (P.info? e).map (fun i => (i.zero, i.size, i.bytes)) = some (some z, 1, bytes)) (hz : z.cells.size = 1) (hb0 : 0 < bytes)
    (v : Value) (l : List α) (y : α) (hs : a.eval s = v) (hx : a.eval x = .slice (some ⟨W.heap.size, 0, none⟩) 1 1) (hm : (flat (Kd.scalar enc h1) e v l, lo, hi) ∈ L) (hl : (l.length + 1) * bytes ≤ 140737488355328)
    (k : ∀ A c lo' hi' w1, (∀ L', Sw (flat (Kd.scalar enc h1) e v l, lo, hi) (flat (Kd.scalar enc h1) e (.slice A (l.length + 1) c) (l ++ [y]), lo', hi') L L' → Hold w0 w1 L') → wpList P ops Q rest (a.put o.dst (.slice A (l.length + 1) c)) w1) :
    wpList P ops Q (o :: rest) a (W.alloc (.cells #[enc y] e)) := by
  obtain ⟨hP, hlo, hlh, hhi⟩ := h.get hm
  have hP' : (Kd.scalar enc h1).R e W lo (In lo hi) v l := hP
  have hR : (Kd.scalar enc h1).R e W w0.heap.size (fun _ => True) v l := Kd.R_mono (Kd.R_lower hP' hlo) (fun _ _ => trivial)
  refine Kd.R_append (Kd.scalar enc h1) (w0 := w0) w0.heap.size hgd s x t e z bytes ho ht hinfo hz Nat.one_pos hb0 v l y [enc y] (fun _ => True) (fun _ => False) hs hx rfl (fun _ hk => hk.elim) (fun _ _ => trivial) hR h.below h.below.size hl ?_
  intro v1 w1 hr1 _ hg hat
  obtain ⟨A, c, hv⟩ := Kd.R_slice hr1
  rw [List.length_append, List.length_singleton] at hv
  subst hv
  obtain ⟨lo', hi', hQ⟩ := h.grew (d := Kd.scalar enc h1) rfl (fun _ _ _ _ _ _ hM => hM) hm hg hr1 hat
  exact k A c lo' hi' w1 hQ
end
theorem Hold.appendI {P : Program} {ops : Array Oper} {rest : List Oper} {o : Oper} {a : Act} {Q : Exit → Act → World → Prop} {w0 W : World} {L : List (Thing × Nat × Nat)} {lo hi : Nat} (h : Hold w0 W L) (hgd : o.guard = none) (s x : Operand) (t e : TypeId)
    (ho : o.op = .call { callee := .builtin .append, args := #[s, x], argTypes := #[t, t] })
    (ht : P.underlying t = some (.slice e)) (hinfo : (P.info? e).map (fun i => (i.zero, i.size, i.bytes)) = some (some (.int .i64 0), 1, 8))
    (v : Value) (l : List Int) (y : Int) (hs : a.eval s = v) (hx : a.eval x = .slice (some ⟨W.heap.size, 0, none⟩) 1 1) (hm : (flat (Kd.int .i64) e v l, lo, hi) ∈ L) (hl : l.length ≤ 1048576)
    (k : ∀ A c lo' hi' w1, (∀ L', Sw (flat (Kd.int .i64) e v l, lo, hi) (flat (Kd.int .i64) e (.slice A (l.length + 1) c) (l ++ [y]), lo', hi') L L' → Hold w0 w1 L') → wpList P ops Q rest (a.put o.dst (.slice A (l.length + 1) c)) w1) :
    wpList P ops Q (o :: rest) a (W.alloc (.cells #[.int .i64 y] e)) :=
  Hold.append (enc := Value.int .i64) (h1 := fun _ => rfl) h hgd s x t e (.int .i64 0) 8 ho ht hinfo rfl (by decide) v l y hs hx hm (by omega) k
theorem Hold.setI {w0 W : World} {L L' : List (Thing × Nat × Nat)} {lo hi e b n c : Nat} {l : List Int} (h : Hold w0 W L) (i : Int) (z : Int) (u : Sw (flat (Kd.int .i64) e (.slice (some ⟨b, 0, none⟩) n c) l, lo, hi) (flat (Kd.int .i64) e (.slice (some ⟨b, 0, none⟩) n c) (l.set i.toNat z), lo, hi) L L') : Hold w0 (W.setCell ⟨b, i.toNat, none⟩ (.int .i64 z)) L' :=
  Hold.setRow (enc := Value.int .i64) (h1 := fun _ => rfl) h i z u
theorem Hold.cellI {w0 W : World} {L : List (Thing × Nat × Nat)} {lo hi e b n c : Nat} {l : List Int} (h : Hold w0 W L) (hm : (flat (Kd.int .i64) e (.slice (some ⟨b, 0, none⟩) n c) l, lo, hi) ∈ L) (i : Int) (h0 : 0 ≤ i) (hi0 : i < l.length) : W.cell? ⟨b, i.toNat, none⟩ = some (.int .i64 (l.getD i.toNat 0)) ∧ W.frozen? ⟨b, i.toNat, none⟩ = false :=
  Hold.rowCell (enc := Value.int .i64) (h1 := fun _ => rfl) h hm 0 i h0 hi0
theorem Hold.one {α : Type} {d : Kd α} {e : Nat} {v : Value} {l : List α} {w0 W : World} {L : List (Thing × Nat × Nat)} {lo hi : Nat} (h : Hold w0 W L) (hm : (flat d e v l, lo, hi) ∈ L) : d.R e W w0.heap.size (fun _ => True) v l := by
  have h1 := h.sits _ hm
  have p1 : d.R e W lo (In lo hi) v l := h1.1
  exact Kd.R_mono (Kd.R_lower p1 h1.2.1) (fun _ _ => trivial)
/-- A slice that is read, whatever is done beside R. -/
def Rd {α : Type} (w0 : World) (R : List (Thing × Nat × Nat)) (d : Kd α) (A : Option Addr) (l : List α) : Prop := ∀ W L, Hold w0 W L → (∀ x ∈ R, x ∈ L) → d.C W A l.length l
theorem Rd.row {α : Type} {w0 : World} {d : Kd α} {A : Option Addr} {l : List α} {e n c lo hi : Nat} {R : List (Thing × Nat × Nat)} (hm : (flat d e (.slice A n c) l, lo, hi) ∈ R) : Rd w0 R d A l := fun W L hW hs => (hW.reads' (hs _ hm)).2.2
theorem Rd.mono {α : Type} {w0 : World} {d : Kd α} {A : Option Addr} {l : List α} {R R' : List (Thing × Nat × Nat)} (h : Rd w0 R d A l) (hs : ∀ x ∈ R, x ∈ R') : Rd w0 R' d A l := fun W L hW k => h W L hW (fun x hx => k x (hs x hx))
theorem Rd.at {α : Type} {w0 W : World} {d : Kd α} {A : Option Addr} {l : List α} {R L : List (Thing × Nat × Nat)} (h : Rd w0 R d A l) (hW : Hold w0 W L) (hs : ∀ x ∈ R, x ∈ L) : d.C W A l.length l := h W L hW hs
end Go.Proofs.YtpooojgeonpmnaaW.PrintWords
