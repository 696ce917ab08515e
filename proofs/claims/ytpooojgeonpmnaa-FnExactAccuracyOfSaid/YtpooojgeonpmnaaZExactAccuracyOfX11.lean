/- Things in whatever order: the words of X3 (Upd) told for Hold, and two rows that one call made. -/
import Derived.Test.YtpooojgeonpmnaaZExactAccuracyOfX10
namespace Go.Proofs.YtpooojgeonpmnaaW.PrintWords
set_option linter.unusedVariables false
set_option linter.unusedSimpArgs false
open Go.RowKit
theorem Upd.sw {T T' : Thing} {lo hi : Nat} {L L' : List (Thing × Nat × Nat)} (u : Upd T T' lo hi L L') : Sw (T, lo, hi) (T', lo, hi) L L' := by
  induction u with
  | here => exact .here
  | there _ ih => exact .there ih
/-- A store behind a row's length: the row is as it was. -/
theorem R_slack {α : Type} {d : Kd α} {e base g n c j : Nat} {ok : Nat → Prop} {W : World} {xs : List α} (h : d.R e W base ok (.slice (some ⟨g, 0, none⟩) n c) xs) (hj : n * d.sz ≤ j) (u : Value) : d.R e (W.setCell ⟨g, j, none⟩ u) base ok (.slice (some ⟨g, 0, none⟩) n c) xs := by
  obtain ⟨hok, inner, hown, hr⟩ := h
  refine ⟨hok, inner, ⟨hown.1, ?_⟩, hr.imp_ (fun p cs hp => Kd.M_far (p := ⟨g, j, none⟩) hp (fun k hk e => hk.2 ?_) u)⟩
  · rcases hown.2 with ⟨hv, _⟩ | ⟨g', cap', cur, hv, hb, hh, hn, hm, hs, ht⟩
    · cases hv
    · injection hv with ha hnn hc
      injection ha with ha
      injection ha with hg
      subst hg
      refine .inr ⟨g, cap', cur.setIfInBounds j u, by rw [hc, ← hnn], hb, set_same hh u, hn, hm, by simpa using hs, ?_⟩
      rw [← hnn] at ht ⊢
      rw [← ht]
      apply List.ext_getElem?
      intro q
      rw [List.getElem?_take, List.getElem?_take]
      split
      · rw [Array.getElem?_toList, Array.getElem?_toList, Array.getElem?_setIfInBounds_ne (by omega)]
      · rfl
  · have e : k = g := e
    rw [e]; simp [Value.ownBlock]
/-- The cells of a row's block, as far as its capacity goes. -/
theorem R_room {α : Type} {d : Kd α} {e base g n c j : Nat} {ok : Nat → Prop} {W : World} {xs : List α} (h : d.R e W base ok (.slice (some ⟨g, 0, none⟩) n c) xs) (hj : j < c * d.sz) : (W.cell? ⟨g, j, none⟩).isSome = true ∧ W.frozen? ⟨g, j, none⟩ = false := by
  obtain ⟨_, inner, hown, _⟩ := h
  rcases hown.2 with ⟨hv, _⟩ | ⟨g', cap', cur, hv, hb, hh, hn, hm, hs, ht⟩
  · cases hv
  · injection hv with ha _ hc
    injection ha with ha
    injection ha with hg
    subst hg; subst hc
    refine ⟨?_, by simp [World.frozen?, hh]⟩
    simp only [World.cell?, hh]
    rw [Array.getElem?_eq_getElem (by omega)]
    rfl
namespace Hold
variable {w0 W W' : World} {L L' : List (Thing × Nat × Nat)} {T T' : Thing} {lo hi : Nat}
theorem upd (h : Hold w0 W L) (u : Upd T T' lo hi L L') (hB : Below w0.heap.size w0 W') (hk : Kept W W' (In lo hi)) (hp : T'.P W' lo hi) : Hold w0 W' L' := h.swap u.sw hB hk hp (.inl ⟨rfl, rfl⟩)
/-- Something is written behind the end of the first row. -/
theorem slack {α : Type} {d : Kd α} {e g n c j : Nat} {l : List α} {R : List (Thing × Nat × Nat)} (h : Hold w0 W ((flat d e (.slice (some ⟨g, 0, none⟩) n c) l, lo, hi) :: R)) (hj : n * d.sz ≤ j) (u : Value) : Hold w0 (W.setCell ⟨g, j, none⟩ u) ((flat d e (.slice (some ⟨g, 0, none⟩) n c) l, lo, hi) :: R) := by
  obtain ⟨hP, hlo, hlh, hhi⟩ := h.sits _ List.mem_cons_self
  have hP' : d.R e W lo (In lo hi) (.slice (some ⟨g, 0, none⟩) n c) l := hP
  have hin := hP'.1 g (by simp [Value.ownBlock])
  exact h.front (h.below_set (Nat.le_trans hlo hin.1) u) (kept_set u hin.1 hin.2) (R_slack hP' hj u) (.inl ⟨rfl, rfl⟩)
end Hold
end Go.Proofs.YtpooojgeonpmnaaW.PrintWords
