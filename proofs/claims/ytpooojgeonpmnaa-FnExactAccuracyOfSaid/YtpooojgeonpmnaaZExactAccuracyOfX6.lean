/- The set of a list of whole numbers, and whether a list holds each number below n once: what the library's sorting comes to. -/
import Derived.Test.YtpooojgeonpmnaaZExactAccuracyOfX5
import Derived.Shelf.SlGeneric
import Derived.Shelf.SortM.Plain
import Derived.Shelf.SortM.SortNone
import Derived.Ground.SlgmProg
import Derived.Test.YtpooojgeonpmnaaProg
import Derived.Lib.SlKeysI
import Derived.Shelf.SlicesG.CompactI
namespace Go.Proofs.YtpooojgeonpmnaaW.PrintWords
set_option linter.unusedVariables false
set_option linter.unusedSimpArgs false
open Go.RowKit Go.Shelf Go.Proofs Go.Sort
attribute [local go_sem] Oper.semAt_some
def sortI (zs : List Int) : List Int := zs.mergeSort fun x y => decide (x ≤ y)
theorem sv_of_C {w : World} {A : Option Addr} {zs : List Int} (c : Nat) (h : (Kd.int .i64).C w A zs.length zs) : (∃ p, A = p ∧ zs = []) ∨ ∃ b off, A = some ⟨b, off, none⟩ ∧ 0 < zs.length ∧ b < w.heap.size ∧ ∀ j, j < zs.length → w.cell? ⟨b, off + j, none⟩ = some (.int .i64 (zs[j]?.getD 0)) := by
  by_cases h0 : zs.length = 0
  · exact .inl ⟨A, rfl, List.eq_nil_of_length_eq_zero h0⟩
  · obtain ⟨ad, e, hc⟩ := Kd.at_int h 0 (Int.le_refl _) (by omega)
    obtain ⟨b, off, spot⟩ := ad
    have hc' : w.cell? ⟨b, off, spot⟩ = some (.int .i64 (rd zs 0)) := hc
    have hs : spot = none := by
      unfold World.cell? at hc'
      cases spot with
      | none => rfl
      | some x => simp only [Option.isSome_some, if_true] at hc'; split at hc' <;> cases hc'
    subst hs
    refine .inr ⟨b, off, e, by omega, World.block_lt_of_cell? w _ hc', fun j hj => ?_⟩
    obtain ⟨ad, e', hj'⟩ := Kd.at_int h (j : Int) (by omega) (by omega)
    rw [e] at e'
    cases e'
    have : Addr.add ⟨b, off, none⟩ (j : Int).toNat = ⟨b, off + j, none⟩ := by
      unfold Addr.add
      split
      · rename_i hz
        have : j = 0 := by simpa using hz
        subst this; rfl
      · simp
    rw [this] at hj'
    rw [hj']
    simp [rd, List.getD_eq_getElem?_getD]
/-- The set of a list, as impl.setOf makes it. -/
def setI (zs : List Int) : List Int := Lib.compact (sortI zs)
end Go.Proofs.YtpooojgeonpmnaaW.PrintWords
