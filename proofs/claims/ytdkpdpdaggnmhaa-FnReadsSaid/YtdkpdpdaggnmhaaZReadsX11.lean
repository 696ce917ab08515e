/- Things in whatever order: the words of X3 (Upd) told for Hold, and two rows that one call made. -/
import Derived.Test.YtdkpdpdaggnmhaaZReadsX10
namespace Go.Proofs.YtdkpdpdaggnmhaaW.PrintWords
set_option linter.unusedVariables false
set_option linter.unusedSimpArgs false
open Go.RowKit
theorem Upd.sw {T T' : Thing} {lo hi : Nat} {L L' : List (Thing × Nat × Nat)} (u : Upd T T' lo hi L L') : Sw (T, lo, hi) (T', lo, hi) L L' := by
  induction u with
  | here => exact .here
  | there _ ih => exact .there ih
namespace Hold
variable {w0 W W' : World} {L L' : List (Thing × Nat × Nat)} {T T' : Thing} {lo hi : Nat}
theorem upd (h : Hold w0 W L) (u : Upd T T' lo hi L L') (hB : Below w0.heap.size w0 W') (hk : Kept W W' (In lo hi)) (hp : T'.P W' lo hi) : Hold w0 W' L' := h.swap u.sw hB hk hp (.inl ⟨rfl, rfl⟩)
end Hold
end Go.Proofs.YtdkpdpdaggnmhaaW.PrintWords
