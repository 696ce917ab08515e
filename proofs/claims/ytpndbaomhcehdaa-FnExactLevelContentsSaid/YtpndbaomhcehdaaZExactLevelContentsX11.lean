/- Things in whatever order: the words of X3 (Upd) told for Hold, and two rows that one call made. -/
import Derived.Test.YtpndbaomhcehdaaZExactLevelContentsX10
namespace Go.Proofs.YtpndbaomhcehdaaW.PrintWords
set_option linter.unusedVariables false
open Go.RowKit

theorem Upd.sw {T T' : Thing} {lo hi : Nat} {L L' : List (Thing × Nat × Nat)} (u : Upd T T' lo hi L L') : Sw (T, lo, hi) (T', lo, hi) L L' := by
  induction u with
  | here => exact .here
  | there _ ih => exact .there ih
namespace Hold
variable {w0 W W' : World} {L L' : List (Thing × Nat × Nat)} {T T' : Thing} {lo hi : Nat}
theorem upd (h : Hold w0 W L) (u : Upd T T' lo hi L L') (hB : Below w0.heap.size w0 W') (hk : Kept W W' (In lo hi)) (hp : T'.P W' lo hi) : Hold w0 W' L' := h.swap u.sw hB hk hp (.inl ⟨rfl, rfl⟩)
theorem setBoxU {cs : Array Value} {t : TypeId} {g g' : Nat} (h : Hold w0 W L) (j : Nat) (v : Value) (u : Upd (boxT cs t) (boxT (cs.setIfInBounds j v) t) g g' L L') : Hold w0 (W.setCell ⟨g, j, none⟩ v) L' := h.setBox j v u.sw
/-- One more item of the world as it stands. -/
theorem more (h : Hold w0 W L) (hp : T.P W lo hi) (h1 : w0.heap.size ≤ lo) (h2 : lo ≤ hi) (h3 : hi ≤ W.heap.size) (ho : ∀ x ∈ L, Off (T, lo, hi) x) : Hold w0 W ((T, lo, hi) :: L) := by
  refine ⟨h.below, fun x hx => ?_, List.Pairwise.cons ho h.off⟩
  rcases List.mem_cons.1 hx with rfl | hx
  · exact ⟨hp, h1, h2, h3⟩
  · exact h.sits x hx
/-- The blocks of a row whose elements lead to nothing. -/
theorem row_at {α : Type} {d : Kd α} {e : Nat} {v : Value} {l : List α} {base : Nat} {ok : Nat → Prop} (hE : d.E = []) (hM : ∀ w b b' ok x cs, d.M w b ok x cs → d.M w b' ok x cs) (h : d.R e W base ok v l) (hb : base ≤ W.heap.size) :
    ∃ lo hi, (flat d e v l).P W lo hi ∧ base ≤ lo ∧ lo ≤ hi ∧ hi ≤ W.heap.size ∧ ((v.ownBlock = none ∧ lo = base ∧ hi = base) ∨ ∃ b, v.ownBlock = some b ∧ lo = b ∧ hi = b + 1) := by
  cases hv : v.ownBlock with
  | none =>
    refine ⟨base, base, ?_, Nat.le_refl _, Nat.le_refl _, hb, .inl ⟨rfl, rfl, rfl⟩⟩
    exact Kd.R_reok hE h (fun k hk => by rw [hv] at hk; cases hk)
  | some b =>
    have h1 := Kd.R_base h b hv
    have h2 := Kd.R_lt h b hv
    refine ⟨b, b + 1, ?_, h1, Nat.le_succ _, h2, .inr ⟨b, rfl, rfl, rfl⟩⟩
    refine Kd.R_reok hE (Kd.R_raise (fun w ok x cs => hM w base b ok x cs) h (fun k hk => ?_)) (fun k hk => ?_)
    · rw [hv] at hk; cases hk; exact Nat.le_refl _
    · rw [hv] at hk; cases hk; exact ⟨Nat.le_refl _, Nat.lt_succ_self _⟩
/-- Two rows that one call made. -/
theorem add2 {α β : Type} {d : Kd α} {d' : Kd β} {e e' : Nat} {v v' : Value} {l : List α} {l' : List β} {ok ok' : Nat → Prop} (h : Hold w0 W L) (hb : Below W.heap.size W W') (hE : d.E = []) (hM : ∀ w b b' ok x cs, d.M w b ok x cs → d.M w b' ok x cs) (hE' : d'.E = []) (hM' : ∀ w b b' ok x cs, d'.M w b ok x cs → d'.M w b' ok x cs)
    (h1 : d.R e W' W.heap.size ok v l) (h2 : d'.R e' W' W.heap.size ok' v' l') (hne : ∀ k, ok k → some k ≠ v'.ownBlock) :
    ∃ lo hi lo' hi', Hold w0 W' ((flat d e v l, lo, hi) :: (flat d' e' v' l', lo', hi') :: L) := by
  have hs := h.step hb
  obtain ⟨lo, hi, p1, a1, a2, a3, a4⟩ := row_at hE hM h1 hb.size
  obtain ⟨lo', hi', p2, b1, b2, b3, b4⟩ := row_at hE' hM' h2 hb.size
  have hold : ∀ x ∈ L, x.2.2 ≤ W.heap.size := fun x hx => (h.sits x hx).2.2.2
  have hw := h.below.size
  have hs2 : Hold w0 W' ((flat d' e' v' l', lo', hi') :: L) := hs.more p2 (by omega) b2 b3 (fun x hx => .inr (by have := hold x hx; show x.2.2 ≤ lo'; omega))
  refine ⟨lo, hi, lo', hi', hs2.more p1 (by omega) a2 a3 (fun x hx => ?_)⟩
  rcases List.mem_cons.1 hx with rfl | hx
  · show hi ≤ lo' ∨ hi' ≤ lo
    rcases a4 with ⟨_, e1, e2⟩ | ⟨b, hv, e1, e2⟩
    · left; omega
    · rcases b4 with ⟨_, f1, f2⟩ | ⟨b', hv', f1, f2⟩
      · right; omega
      · have hb1 : b ≠ b' := fun e => hne b (h1.1 b hv) (by rw [hv', e])
        omega
  · exact .inr (by have := hold x hx; show x.2.2 ≤ lo; omega)
end Hold
end Go.Proofs.YtpndbaomhcehdaaW.PrintWords
