/- The set of a list: its members, in rising order. -/
import Derived.Test.YtdkpdpdaggnmhaaGreatZExactDirtyLinesX6
namespace Go.Proofs.YtdkpdpdaggnmhaaGreatW.PrintWords
set_option linter.unusedVariables false
theorem compact_mem (zs : List Int) (x : Int) : x ∈ Lib.compact zs ↔ x ∈ zs := by
  unfold Lib.compact Lib.compactUpTo
  simp only [List.mem_map, List.mem_filter, List.mem_range]
  constructor
  · rintro ⟨j, ⟨hj, _⟩, rfl⟩
    have : (zs.toArray)[j]! = zs[j] := by simp [hj]
    rw [this]; exact List.getElem_mem _
  · intro hx
    have key : ∀ j, j < zs.length → ∃ i, (i < zs.length ∧ Lib.keeps zs.toArray i = true) ∧ zs.toArray[i]! = zs.toArray[j]! := by
      intro j
      induction j with
      | zero => intro hj; exact ⟨0, ⟨hj, Lib.keeps_lt_one _ 0 (by omega)⟩, rfl⟩
      | succ j ih =>
        intro hj
        by_cases he : zs.toArray[j + 1]! = zs.toArray[j + 1 - 1]!
        · obtain ⟨i, hi, e⟩ := ih (by omega)
          exact ⟨i, hi, by rw [e, he]; rfl⟩
        · exact ⟨j + 1, ⟨hj, Lib.keeps_pos he⟩, rfl⟩
    obtain ⟨j, hj, e⟩ := List.getElem_of_mem hx
    obtain ⟨i, hi, e'⟩ := key j hj
    refine ⟨i, hi, ?_⟩
    rw [e', ← e]
    simp [hj]
theorem compact_lt (zs : List Int) (hs : zs.Pairwise (· ≤ ·)) : (Lib.compact zs).Pairwise (· < ·) := by
  unfold Lib.compact Lib.compactUpTo
  rw [List.pairwise_map]
  have h0 : ((List.range zs.length).filter (Lib.keeps zs.toArray)).Pairwise (· < ·) := List.Pairwise.filter _ List.pairwise_lt_range
  refine h0.imp_of_mem ?_
  intro i j hi hj hij
  simp only [List.mem_filter, List.mem_range] at hi hj
  have hle : ∀ a b, a ≤ b → b < zs.length → zs.toArray[a]! ≤ zs.toArray[b]! := by
    intro a b hab hb
    have ha : a < zs.length := by omega
    have e1 : zs.toArray[a]! = zs[a] := by simp [ha]
    have e2 : zs.toArray[b]! = zs[b] := by simp [hb]
    rw [e1, e2]
    by_cases e : a = b
    · subst e; exact Int.le_refl _
    · exact List.pairwise_iff_getElem.1 hs a b ha hb (by omega)
  have hk := hj.2
  have hne : zs.toArray[j]! ≠ zs.toArray[j - 1]! := by
    intro e
    have := Lib.keeps_neg (d := zs.toArray) (m := j) (by omega) e
    rw [this] at hk
    cases hk
  have h1 := hle i (j - 1) (by omega) (by omega)
  have h2 := hle (j - 1) j (by omega) hj.1
  omega
theorem sortI_le (zs : List Int) : (sortI zs).Pairwise (· ≤ ·) := by
  unfold sortI
  have := List.pairwise_mergeSort (le := fun x y : Int => decide (x ≤ y)) (fun a b c h1 h2 => by simp at *; omega) (fun a b => by simp; omega) zs
  exact this.imp (fun h => by simpa using h)
theorem sortI_perm (zs : List Int) : (sortI zs).Perm zs := List.mergeSort_perm _ _
theorem mem_setI {zs : List Int} {x : Int} : x ∈ setI zs ↔ x ∈ zs := by
  unfold setI
  rw [compact_mem]
  exact (sortI_perm zs).mem_iff
theorem setI_lt (zs : List Int) : (setI zs).Pairwise (· < ·) := compact_lt _ (sortI_le zs)
/-- Two rising lists with the same members are one. -/
theorem rising_ext : ∀ {l m : List Int}, l.Pairwise (· < ·) → m.Pairwise (· < ·) → (∀ x, x ∈ l ↔ x ∈ m) → l = m
  | [], [], _, _, _ => rfl
  | [], y :: m, _, _, h => absurd ((h y).2 List.mem_cons_self) List.not_mem_nil
  | x :: l, [], _, _, h => absurd ((h x).1 List.mem_cons_self) List.not_mem_nil
  | x :: l, y :: m, hl, hm, h => by
    rw [List.pairwise_cons] at hl hm
    have hxy : x = y := by
      have h1 := (h x).1 List.mem_cons_self
      have h2 := (h y).2 List.mem_cons_self
      rcases List.mem_cons.1 h1 with e | e
      · exact e
      · rcases List.mem_cons.1 h2 with e2 | e2
        · exact e2.symm
        · have a := hm.1 x e; have b := hl.1 y e2; omega
    subst hxy
    congr 1
    refine rising_ext hl.2 hm.2 (fun z => ?_)
    constructor
    · intro hz
      have a := hl.1 z hz
      rcases List.mem_cons.1 ((h z).1 (List.mem_cons_of_mem _ hz)) with e | e
      · omega
      · exact e
    · intro hz
      have a := hm.1 z hz
      rcases List.mem_cons.1 ((h z).2 (List.mem_cons_of_mem _ hz)) with e | e
      · omega
      · exact e
end Go.Proofs.YtdkpdpdaggnmhaaGreatW.PrintWords
