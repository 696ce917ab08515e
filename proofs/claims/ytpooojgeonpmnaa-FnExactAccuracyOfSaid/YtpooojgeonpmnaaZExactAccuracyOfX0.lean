/- Plain lemmas of this session on lists and searches, which the contracts put into the print use. -/
import Derived.Test.YtpooojgeonpmnaaZExactAccuracyOfWWords
import Derived.Test.YtpooojgeonpmnaaZExactAccuracyOfWLast
import Derived.Test.YtpooojgeonpmnaaZExactAccuracyOfWMore
namespace Go.Proofs.YtpooojgeonpmnaaW.PrintWords
open Go.RowKit
/-- The place of the first element of which p holds, counted from i; -1 if there is none. -/
def xIdx {α : Type} (p : α → Bool) : List α → Int → Int
  | [], _ => -1
  | y :: r, i => if p y = true then i else xIdx p r (i + 1)
theorem xIdx_ge {α : Type} (p : α → Bool) : ∀ (l : List α) (i : Int), xIdx p l i = -1 ∨ i ≤ xIdx p l i ∧ xIdx p l i < i + l.length
  | [], _ => .inl rfl
  | y :: r, i => by
    unfold xIdx
    split
    · right; simp; omega
    · rcases xIdx_ge p r (i + 1) with h | h
      · exact .inl h
      · right; simp; omega
theorem xIdx_nonneg {α : Type} (p : α → Bool) : ∀ (l : List α) (i : Int), 0 ≤ i → decide (xIdx p l i ≥ 0) = l.any p
  | [], _, _ => by simp [xIdx]
  | y :: r, i, h => by
    unfold xIdx
    rw [List.any_cons]
    split
    · rename_i hp; rw [hp]; simp; omega
    · rename_i hp
      have hp' : p y = false := by simpa using hp
      rw [hp', Bool.false_or]
      exact xIdx_nonneg p r (i + 1) (by omega)
theorem xIdx_drop_hit {α : Type} (p : α → Bool) (l : List α) (k : Nat) (z : α) (hk : k < l.length) (i : Int) (hp : p (l.getD k z) = true) : xIdx p (l.drop k) i = i := by
  rw [List.drop_eq_getElem_cons hk]
  have : l.getD k z = l[k] := by simp [List.getD_eq_getElem?_getD, hk]
  rw [this] at hp
  simp [xIdx, hp]
theorem xIdx_drop_miss {α : Type} (p : α → Bool) (l : List α) (k : Nat) (z : α) (hk : k < l.length) (i : Int) (hp : p (l.getD k z) = false) : xIdx p (l.drop k) i = xIdx p (l.drop (k + 1)) (i + 1) := by
  rw [List.drop_eq_getElem_cons hk]
  have : l.getD k z = l[k] := by simp [List.getD_eq_getElem?_getD, hk]
  rw [this] at hp
  simp [xIdx, hp]
theorem xIdx_drop_end {α : Type} (p : α → Bool) (l : List α) (k : Nat) (hk : l.length ≤ k) (i : Int) : xIdx p (l.drop k) i = -1 := by
  rw [List.drop_eq_nil_of_le hk]; rfl
theorem below_le {w w1 : World} (h : Below w.heap.size w w1) {w2 : World} (h2 : Below w1.heap.size w1 w2) : Below w.heap.size w w2 := below_then h h.size h2
/-- An element that is a slice: its cell, and what it reads as. -/
theorem at_row {α : Type} {d : Kd α} {e : Nat} {w : World} {A : Option Addr} {n : Nat} {xs : List (List α)} (h : Kd.C (Kd.slice e d) w A n xs) (i : Nat) (hi : i < n) :
    ∃ ad A' c', A = some ad ∧ w.cell? (ad.add i) = some (.slice A' (xs.getD i []).length c') ∧ (xs.getD i []).length ≤ c' ∧ Kd.C d w A' (xs.getD i []).length (xs.getD i []) := by
  obtain ⟨ad, c, e1, hl, ⟨A', c', rfl, h1, h2⟩, hc⟩ := Kd.C_get h [] (i : Int) (by omega) (by omega)
  rw [Int.toNat_natCast] at hc h1 h2
  refine ⟨ad, A', c', e1, ?_, h1, h2⟩
  have := hc 0 _ rfl
  simpa [Kd.slice] using this
theorem at_int {k : IntKind} {w : World} {A : Option Addr} {n : Nat} {xs : List Int} (h : Kd.C (Kd.int k) w A n xs) (i : Nat) (hi : i < n) :
    ∃ ad, A = some ad ∧ w.cell? (ad.add i) = some (.int k (xs.getD i 0)) := by
  obtain ⟨ad, c, e1, hl, hk, hc⟩ := Kd.C_get h 0 (i : Int) (by omega) (by omega)
  rw [Int.toNat_natCast] at hc hk
  obtain rfl : c = [.int k (xs.getD i 0)] := hk
  have := hc 0 _ rfl
  exact ⟨ad, e1, by simpa [Kd.int, Kd.scalar] using this⟩
end Go.Proofs.YtpooojgeonpmnaaW.PrintWords
