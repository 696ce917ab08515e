/- The set of a list of whole numbers, and whether a list holds each number below n once: what the library's sorting comes to. -/
import Derived.Test.YtdkpdpdaggnmhaaZReadsX5
import Derived.Test.YtdkpdpdaggnmhaaZReadsLay1
import Derived.Lib.SlKeysI
import Derived.Shelf.SlicesG.CompactI
namespace Go.Proofs.YtdkpdpdaggnmhaaW.PrintWords
set_option linter.unusedVariables false
set_option linter.unusedSimpArgs false
open Go.RowKit Go.Shelf Go.Proofs Go.Sort
attribute [local go_sem] Oper.semAt_some
def sortI (zs : List Int) : List Int := zs.mergeSort fun x y => decide (x ≤ y)
theorem sortI_nil : sortI [] = [] := by simp [sortI]
theorem sortI_length (zs : List Int) : (sortI zs).length = zs.length := List.length_mergeSort _
theorem sv_of_C {w : World} {A : Option Addr} {zs : List Int} (c : Nat) (h : (Kd.int .i64).C w A zs.length zs) : (∃ p, A = p ∧ zs = []) ∨ ∃ b off, A = some ⟨b, off, none⟩ ∧ 0 < zs.length ∧ b < w.heap.size ∧ ∀ j, j < zs.length → w.cell? ⟨b, off + j, none⟩ = some (.int .i64 (zs[j]?.getD 0)) := by
  by_cases h0 : zs.length = 0
  · exact .inl ⟨A, rfl, List.eq_nil_of_length_eq_zero h0⟩
  · obtain ⟨ad, e, hc⟩ := Kd.at_int h 0 (Int.le_refl _) (by omega)
    obtain ⟨b, off, spot⟩ := ad
    have hc' : w.cell? ⟨b, off, spot⟩ = some (.int .i64 (rd zs 0)) := hc
    have hs : spot = none := by
      unfold World.cell? at hc'
      cases spot with
      | none => rfl
      | some x => simp only [Option.isSome_some, if_true] at hc'; split at hc' <;> cases hc'
    subst hs
    refine .inr ⟨b, off, e, by omega, World.block_lt_of_cell? w _ hc', fun j hj => ?_⟩
    obtain ⟨ad, e', hj'⟩ := Kd.at_int h (j : Int) (by omega) (by omega)
    rw [e] at e'
    cases e'
    have : Addr.add ⟨b, off, none⟩ (j : Int).toNat = ⟨b, off + j, none⟩ := by
      unfold Addr.add
      split
      · rename_i hz
        have : j = 0 := by simpa using hz
        subst this; rfl
      · simp
    rw [this] at hj'
    rw [hj']
    simp [rd, List.getD_eq_getElem?_getD]
set_option maxHeartbeats 1000000 in
/-- slices.Sorted over slices.Values's closure: a new row, sorted. -/
theorem svSorted (zs : List Int) (hl : zs.length * 8 ≤ 140737488351232) (Bs : Nat) (sv : Value) (n₀ : Nat) (w : World) (hn₀ : n₀ ≤ w.heap.size) (hBs : Bs < w.heap.size) (hc : w.cell? ⟨Bs, 0, none⟩ = some sv) (hI : SvInts n₀ w sv zs) :
    Calls Try.prog 95 #[.func (.func 103) #[] #[.pointer (some ⟨Bs, 0, none⟩)]] w fun e w' => ∃ v, e = .returned v ∧ w'.ownsRow w.heap.size 2 1 v zs.length ((sortI zs).map (Value.int .i64)) ∧ Below w.heap.size w w' := by
  have HI := Aside0.mk hI
  have hlm : zs.length ≤ maxLen := by unfold maxLen; omega
  have HC := Aside0.mk (callsIn_wide.1 (svCollect_in Fence.wide 5 trivial trivial rfl (by decide) 103 #[.pointer (some ⟨Bs, 0, none⟩)] trivial (enters_of Try.func103 (by kernel_rfl) rfl) zs (fun pre => pre <+: zs) n₀ hlm (by omega) w hn₀ (svValues_stops Fence.wide _ trivial rfl (by decide) Bs n₀ sv zs hl w hBs hn₀ hc hI)))
  clear hI hc
  by_cases h0 : zs = []
  · subst h0
    go_enter Try.func95, Try.ntmps95
    go_wp2_with fail
    refine HC.out.mono ?_
    rintro e w1 ⟨v, rfl, hrow, hb⟩
    rcases hrow.2 with ⟨rfl, _⟩ | ⟨g, cap, cur, rfl, hbase, hgb, r1, r2, r3, r4⟩
    · have HR := Aside0.mk hrow
      clear hrow
      go_wp2_with fail
      refine (AnyM.slices_Sort_int_none Ytdkpdpdaggnmhaa.laySort none 0 w1).mono ?_
      rintro e w' ⟨rfl, rfl⟩
      go_wp2
      go_ret
      exact ⟨_, rfl, by have h := HR.out; have e : (sortI []) = [] := sortI_nil; rw [e]; exact h, hb⟩
    · have HR := Aside0.mk hrow
      clear hrow
      go_wp2_with fail
      refine (AnyM.slices_Sort_int_none Ytdkpdpdaggnmhaa.laySort (some ⟨g, 0, none⟩) cap w1).mono ?_
      rintro e w' ⟨rfl, rfl⟩
      go_wp2
      go_ret
      exact ⟨_, rfl, by have h := HR.out; have e : (sortI []) = [] := sortI_nil; rw [e]; exact h, hb⟩
  · have hp : 0 < zs.length := List.length_pos_iff.2 h0
    go_enter Try.func95, Try.ntmps95
    go_wp2_with fail
    refine HC.out.mono ?_
    rintro e w1 ⟨v, rfl, hrow, hb⟩
    rcases hrow.2 with ⟨_, hz⟩ | ⟨g, cap, cur, rfl, hbase, hgb, r1, r2, r3, r4⟩
    · omega
    · have hH : Holds encZ w1 g 0 zs.toArray := holds_of_block_i hgb (by simpa using r4)
      have hgl : g < w1.heap.size := (Array.getElem?_eq_some_iff.1 hgb).1
      have HS := Aside0.mk (AnyM.slices_Sort_int Ytdkpdpdaggnmhaa.laySort g 0 cap zs w1 hH hgl (by omega))
      have HG := Aside0.mk hgb
      have R4 := Aside0.mk r4
      clear hrow hH hgb r4
      go_wp2_with fail
      refine HS.out.mono ?_
      rintro e w' ⟨rfl, nn, os, rfl⟩
      go_wp2
      go_ret
      exact ⟨_, rfl, ownsRow_sorted_i (by simp) hbase HG.out r1 r2 r3, hb.grown (grownBy_sorted_i _) hb.size (fun j hj => by cases hj; exact hbase)⟩
/-- The set of a list, as impl.setOf makes it. -/
def setI (zs : List Int) : List Int := Lib.compact (sortI zs)
end Go.Proofs.YtdkpdpdaggnmhaaW.PrintWords
