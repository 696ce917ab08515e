/- The set of a list: its members, in rising order. -/
import Derived.Test.YtdkpdpdaggnmhaaZReadsX6
namespace Go.Proofs.YtdkpdpdaggnmhaaW.PrintWords
set_option linter.unusedVariables false
theorem sortI_le (zs : List Int) : (sortI zs).Pairwise (· ≤ ·) := by
  unfold sortI
  have := List.pairwise_mergeSort (le := fun x y : Int => decide (x ≤ y)) (fun a b c h1 h2 => by simp at *; omega) (fun a b => by simp; omega) zs
  exact this.imp (fun h => by simpa using h)
theorem sortI_perm (zs : List Int) : (sortI zs).Perm zs := List.mergeSort_perm _ _
end Go.Proofs.YtdkpdpdaggnmhaaW.PrintWords
