/- Blocks told whole: what a call that writes into some blocks leaves as it was. -/
import Derived.Test.YtpooojgeonpmnaaZExactAccuracyOfX3
import Derived.Laws.IdiomCopy
namespace Go.Proofs.YtpooojgeonpmnaaW.PrintWords
set_option linter.unusedVariables false
open Go.RowKit
/-- How many cells a block has, and of which type. -/
def shapeOf : Option Obj → Option (Nat × TypeId × (Nat × Nat))
  | some (.cells cs t fr) => some (cs.size, t, fr)
  | _ => none
/-- W' is W with new blocks, and with writes to blocks of S alone. -/
structure Only (W W' : World) (S : Nat → Prop) : Prop where
  os : W'.os = W.os
  tape : W'.tape = W.tape
  output : W'.output = W.output
  size : W.heap.size ≤ W'.heap.size
  block : ∀ k, k < W.heap.size → ¬ S k → W'.heap[k]? = W.heap[k]?
  shape : ∀ k, k < W.heap.size → shapeOf W'.heap[k]? = shapeOf W.heap[k]?
theorem shape_setCell (W : World) (a : Addr) (v : Value) (k : Nat) : shapeOf (W.setCell a v).heap[k]? = shapeOf W.heap[k]? := by
  unfold World.setCell
  simp only [Array.getElem?_modify]
  split
  · rename_i e
    subst e
    cases h : W.heap[a.block]? with
    | none => rfl
    | some o =>
      cases o with
      | cells cs t fr =>
        show some (_, _, _) = some (_, _, _)
        split <;> simp
      | _ => rfl
  · rfl
namespace Only
variable {W W1 W2 : World} {S S' : Nat → Prop}
theorem refl (W : World) (S : Nat → Prop) : Only W W S := ⟨rfl, rfl, rfl, Nat.le_refl _, fun _ _ _ => rfl, fun _ _ => rfl⟩
theorem trans (h : Only W W1 S) (k : Only W1 W2 S) : Only W W2 S :=
  ⟨k.os.trans h.os, k.tape.trans h.tape, k.output.trans h.output, Nat.le_trans h.size k.size, fun i hi hs => (k.block i (Nat.lt_of_lt_of_le hi h.size) hs).trans (h.block i hi hs), fun i hi => (k.shape i (Nat.lt_of_lt_of_le hi h.size)).trans (h.shape i hi)⟩
theorem mono (h : Only W W1 S) (hs : ∀ k, S k → S' k) : Only W W1 S' := ⟨h.os, h.tape, h.output, h.size, fun i hi hn => h.block i hi (fun z => hn (hs i z)), h.shape⟩
theorem of_below (h : Below W.heap.size W W1) : Only W W1 S := ⟨h.os, h.tape, h.output, h.size, fun i hi _ => h.block i hi, fun i hi => by rw [h.block i hi]⟩
/-- A callee's blocks that are the caller's own, or new. -/
theorem then_ (h : Only W W1 S) (k : Only W1 W2 S') (hs : ∀ i, S' i → i < W.heap.size → S i) : Only W W2 S :=
  ⟨k.os.trans h.os, k.tape.trans h.tape, k.output.trans h.output, Nat.le_trans h.size k.size, fun i hi hn => (k.block i (Nat.lt_of_lt_of_le hi h.size) (fun z => hn (hs i z hi))).trans (h.block i hi hn), fun i hi => (k.shape i (Nat.lt_of_lt_of_le hi h.size)).trans (h.shape i hi)⟩
theorem below {B : Nat} (h : Only W W1 S) (hB : B ≤ W.heap.size) (hs : ∀ k, S k → B ≤ k) : Below B W W1 :=
  ⟨h.os, h.tape, h.output, h.size, fun i hi => h.block i (Nat.lt_of_lt_of_le hi hB) (fun z => by have := hs i z; omega)⟩
theorem alloc (h : Only W W1 S) (o : Obj) : Only W (W1.alloc o) S := h.trans (of_below (below_alloc (Below.refl _ _) o))
theorem drew (h : Only W W1 S) : Only W W1.drew S := ⟨h.os, h.tape, h.output, h.size, h.block, h.shape⟩
theorem drewN (h : Only W W1 S) (n : Nat) : Only W (W1.drewN n) S := ⟨h.os, h.tape, h.output, h.size, h.block, h.shape⟩
theorem setCell (h : Only W W1 S) (a : Addr) (v : Value) (hs : S a.block) : Only W (W1.setCell a v) S :=
  ⟨h.os, h.tape, h.output, by simpa [World.setCell] using h.size, fun i hi hn => (Below.heap_setCell W1 a v i (fun e => hn (e ▸ hs))).trans (h.block i hi hn), fun i hi => (shape_setCell W1 a v i).trans (h.shape i hi)⟩
theorem cell (h : Only W W1 S) {p : Addr} {v : Value} (hc : W.cell? p = some v) (hs : ¬ S p.block) : W1.cell? p = some v := by
  have hb := World.block_lt_of_cell? W _ hc
  rw [← hc]
  simp only [World.cell?, h.block p.block hb hs]
theorem blk (h : Only W W1 S) {k : Nat} {o : Obj} (hc : W.heap[k]? = some o) (hs : ¬ S k) : W1.heap[k]? = some o := (h.block k (blk_lt hc) hs).trans hc
end Only
theorem set_same {W : World} {b i : Nat} {cs : Array Value} {t : TypeId} (h : W.heap[b]? = some (.cells cs t (0, 0))) (v : Value) : (W.setCell ⟨b, i, none⟩ v).heap[b]? = some (.cells (cs.setIfInBounds i v) t (0, 0)) := by
  unfold World.setCell
  simp only [Array.getElem?_modify, if_true, h]
  rfl
theorem Only.setCells {S : Nat → Prop} {W : World} (b : Nat) (hb : S b) : ∀ (vs : List Value) (o : Nat) (W1 : World), Only W W1 S → Only W (W1.setCells b o vs) S
  | [], _, _, h => h
  | v :: r, o, W1, h => Only.setCells b hb r (o + 1) _ (h.setCell ⟨b, o, none⟩ v hb)
/-- A block that holds a list of numbers, then what lies behind it. -/
def RowB {α : Type} (enc : α → Value) (W : World) (b : Nat) (l : List α) (t : TypeId) : Prop := ∃ s, W.heap[b]? = some (.cells (l.map enc ++ s).toArray t (0, 0))
namespace RowB
variable {α : Type} {enc : α → Value} {W W' : World} {b : Nat} {l : List α} {t : TypeId}
theorem lt (h : RowB enc W b l t) : b < W.heap.size := by obtain ⟨s, h⟩ := h; exact blk_lt h
theorem cell (h : RowB enc W b l t) {i : Nat} (hi : i < l.length) (z : α) : W.cell? ⟨b, i, none⟩ = some (enc (l.getD i z)) := by
  obtain ⟨s, h⟩ := h
  rw [blk_cell h i]
  simp only [List.getElem?_toArray]
  rw [List.getElem?_append_left (by simpa using hi)]
  simp [List.getD_eq_getElem?_getD, hi]
theorem thaw (h : RowB enc W b l t) (i : Nat) : W.frozen? ⟨b, i, none⟩ = false := by
  obtain ⟨s, h⟩ := h
  exact blk_frozen h i
theorem put (h : RowB enc W b l t) {i : Nat} (hi : i < l.length) (x : α) (v : Value) (hv : v = enc x) : RowB enc (W.setCell ⟨b, i, none⟩ v) b (l.set i x) t := by
  obtain ⟨s, h⟩ := h
  refine ⟨s, ?_⟩
  rw [set_same h v, hv]
  congr 2
  simp only [List.setIfInBounds_toArray]
  rw [List.set_append_left _ _ (by simpa using hi), List.map_set]
theorem heap (h : RowB enc W b l t) (he : W'.heap[b]? = W.heap[b]?) : RowB enc W' b l t := by
  obtain ⟨s, h⟩ := h
  exact ⟨s, he.trans h⟩
theorem only (h : RowB enc W b l t) {S : Nat → Prop} (k : Only W W' S) (hs : ¬ S b) : RowB enc W' b l t := h.heap (k.block b h.lt hs)
theorem below (h : RowB enc W b l t) (k : Below W.heap.size W W') : RowB enc W' b l t := h.heap (k.block b h.lt)
theorem toC {h1 : ∀ x, (enc x).oneCell' = true} (h : RowB enc W b l t) (hl : l.length ≤ 9223372036854775807) : (Kd.scalar enc h1).C W (some ⟨b, 0, none⟩) l.length l := by
  refine ⟨rfl, hl, fun _ => ⟨⟨b, 0, none⟩, rfl, fun j x hj => ⟨[enc x], rfl, rfl, fun i u hu => ?_⟩⟩⟩
  have hjl : j < l.length := (List.getElem?_eq_some_iff.1 hj).1
  have hi0 : i = 0 := by have := (List.getElem?_eq_some_iff.1 hu).1; simpa using this
  subst hi0
  have hu' : enc x = u := by simpa using hu
  have ha : Addr.add ⟨b, 0, none⟩ (j * 1 + 0) = ⟨b, j, none⟩ := by
    unfold Addr.add
    split
    · rename_i e; have : j = 0 := by omega
      subst this; rfl
    · simp
  have hs : (Kd.scalar enc h1).sz = 1 := rfl
  rw [hs, ha, h.cell hjl x, ← hu']
  simp [List.getD_eq_getElem?_getD, hj]
theorem of_owns {n base : Nat} {v : Value} (h : W.ownsRow base t 1 v n (l.map enc)) (hp : 0 < n) : ∃ b d, v = .slice (some ⟨b, 0, none⟩) n d ∧ n ≤ d ∧ base ≤ b ∧ b < W.heap.size ∧ RowB enc W b l t := by
  obtain ⟨_, h⟩ := h
  rcases h with ⟨_, h0⟩ | ⟨g, cap, cur, rfl, hb, hh, hn, _, hs, ht⟩
  · omega
  · refine ⟨g, cap, rfl, hn, hb, blk_lt hh, ⟨cur.toList.drop (n * 1), ?_⟩⟩
    rw [hh, ← ht, List.take_append_drop]
theorem of_R {h1 : ∀ x, (enc x).oneCell' = true} {base : Nat} {ok : Nat → Prop} {v : Value} (h : (Kd.scalar enc h1).R t W base ok v l) (hp : 0 < l.length) : ∃ b d, v = .slice (some ⟨b, 0, none⟩) l.length d ∧ l.length ≤ d ∧ base ≤ b ∧ b < W.heap.size ∧ RowB enc W b l t := by
  obtain ⟨_, inner, ho, hr⟩ := h
  have hs : (Kd.scalar enc h1).sz = 1 := rfl
  have hi : inner = l.map enc := by
    apply List.ext_getElem
    · have := hr.1; rw [hs] at this; simp; omega
    · intro i h2 h3
      have hil : i < l.length := by simpa using h3
      have := hr.2 i l[i] (by simp [hil])
      have h4 : (inner.drop (i * (Kd.scalar enc h1).sz)).take (Kd.scalar enc h1).sz = [enc l[i]] := this
      rw [hs, Nat.mul_one] at h4
      have h5 : ((inner.drop i).take 1)[0]? = some (enc l[i]) := by rw [h4]; rfl
      rw [List.getElem?_take_of_lt (by omega), List.getElem?_drop, Nat.add_zero, List.getElem?_eq_getElem h2] at h5
      simpa using h5
  rw [hi, hs] at ho
  exact of_owns ho hp
end RowB
end Go.Proofs.YtpooojgeonpmnaaW.PrintWords
