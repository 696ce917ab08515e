/- The statement FnExactValidPrefetcher over numbers alone: both programs test the same four ranges. -/
import Derived.Test.YtnocikchdkaabaaPFnExactValidPrefetcherx
import Derived.Test.YtnocikchdkaabaaX2
namespace Go.Proofs.Ytnocikchdkaabaa.Pure
open Go.RowKit Go.Proofs.YtnocikchdkaabaaW.PrintWords Go.Proofs.Ytnocikchdkaabaa.PFnExactValidPrefetcher

theorem in_impl (a b c : Int) : impl_inRange.f a b c = some (decide (b ≤ a) && decide (a ≤ c)) := by
  unfold impl_inRange.f
  by_cases h : b ≤ a <;> simp [h]
theorem in_spec (a b c : Int) : spec_l00In.f a b c = some (decide (b ≤ a) && decide (a ≤ c)) := by
  unfold spec_l00In.f
  by_cases h : b ≤ a <;> simp [h]

theorem FnExactValidPrefetcher : laws_FnExactValidPrefetcher.Pure := by
  intro a b c d _ _ _ _
  have e : spec_ValidPrefetcher.f a b c d = impl_ValidPrefetcher.f a b c d := by
    unfold spec_ValidPrefetcher.f impl_ValidPrefetcher.f spec_l09Is.f spec_l03Ways.f impl_isWays.f
    simp only [in_impl, in_spec, Option.bind_some]
    cases decide (0 ≤ a) && decide (a ≤ 2) <;> cases decide (0 ≤ b) && decide (b ≤ 4) <;> cases decide (0 ≤ c) && decide (c ≤ 8) <;> simp
  obtain ⟨v, hv⟩ : ∃ v, impl_ValidPrefetcher.f a b c d = some v := by
    unfold impl_ValidPrefetcher.f impl_isWays.f
    simp only [in_impl, Option.bind_some]
    split
    · split
      · split <;> exact ⟨_, rfl⟩
      · exact ⟨_, rfl⟩
    · exact ⟨_, rfl⟩
  unfold laws_FnExactValidPrefetcher.f laws_toPrefetcher.f
  simp only [Option.bind_some, e, hv]
  simp

end Go.Proofs.Ytnocikchdkaabaa.Pure
