/- impl.setOf makes the set of a list. -/
import Derived.Test.YtdkpdpdaggnmhaaGreatZExactDirtyLinesX6
import Derived.Test.YtdkpdpdaggnmhaaGreatZExactDirtyLinesLay5
namespace Go.Proofs.YtdkpdpdaggnmhaaGreatW.PrintWords
set_option linter.unusedVariables false
set_option linter.unusedSimpArgs false
open Go.RowKit Go.Shelf Go.Proofs Go.Sort
attribute [local go_sem] Oper.semAt_some
set_option maxHeartbeats 1000000 in
theorem svSetOf (A : Option Addr) (c : Nat) (zs : List Int) (w : World) (hr : (Kd.int .i64).C w A zs.length zs) (hl : zs.length * 8 ≤ 140737488351232) :
    Calls Tryz.prog 34 #[.slice A zs.length c] w fun e w' => ∃ v, e = .returned v ∧ (Kd.int .i64).R 2 w' w.heap.size (fun _ => True) v (setI zs) ∧ Below w.heap.size w w' := by
  have hz : SvInts w.heap.size w (.slice A zs.length c) zs := by
    rcases sv_of_C c hr with ⟨p, rfl, rfl⟩ | ⟨b, off, rfl, _, hb, hc⟩
    · exact .inl ⟨⟨_, _, rfl⟩, rfl⟩
    · exact .inr ⟨b, off, c, rfl, hb, hc⟩
  clear hr
  have HZ := Aside0.mk hz
  clear hz
  have hB0 : Below w.heap.size w (w.alloc (.cells #[.slice A zs.length c] 23)) := (Below.refl _ w).alloc (Nat.le_refl _) _
  have HS := Aside0.mk (svSorted zs hl w.heap.size (.slice A zs.length c) w.heap.size (w.alloc (.cells #[.slice A zs.length c] 23)) (by simp) (by simp) (Boxed.new w 23 (.slice A zs.length c)).cell (HZ.out.below hB0))
  go_enter Tryz.func34, Tryz.ntmps34
  go_wp2_with fail
  refine (callsIn_wide.1 (svValues_in Fence.wide 5 trivial rfl A zs.length c w)).mono ?_
  rintro e w1 ⟨rfl, rfl⟩
  go_wp2_with fail
  refine HS.out.mono ?_
  rintro e w2 ⟨v, rfl, hrow, hb⟩
  have hb2 : Below w.heap.size w w2 := hB0.trans (hb.mono (by simp))
  rcases hrow.2 with ⟨rfl, hz⟩ | ⟨g, cap, cur, rfl, hbase, hgb, r1, r2, r3, r4⟩
  · have hzn : zs = [] := List.eq_nil_of_length_eq_zero hz
    subst hzn
    clear hrow
    go_wp2_with fail
    refine (AnyG.slices_Compact_int_empty YtdkpdpdaggnmhaaGreat.layCompact none 0 w2).mono ?_
    rintro e w' ⟨rfl, rfl⟩
    go_wp2
    go_ret
    exact ⟨_, rfl, by rw [setI_nil]; exact Kd.R_nil _ _ _ _ _, hb2⟩
  · have r4' : cur.toList.take (sortI zs).length = (sortI zs).map encZ := by rw [sortI_length]; simpa using r4
    have hH : Holds encZ w2 g 0 (sortI zs).toArray := holds_of_block_i hgb r4'
    have hgl : g < w2.heap.size := (Array.getElem?_eq_some_iff.1 hgb).1
    have HC := Aside0.mk (AnyG.slices_Compact_int YtdkpdpdaggnmhaaGreat.layCompact g 0 cap (sortI zs) w2 hH (by rw [sortI_length]; omega) (by rw [sortI_length]; exact r1))
    have e1 := sortI_length zs
    have HG := Aside0.mk hgb
    have E1 := Aside0.mk e1
    rw [e1] at HC
    clear hrow hH hgb r4 r4' e1
    go_wp2_with fail
    refine HC.out.mono ?_
    rintro e w' ⟨rfl, q, rfl⟩
    go_wp2
    go_ret
    have hown := ownsRow_cut (q := q) (ts := setI zs) (setI_le zs) (base := w.heap.size) (Nat.le_trans (by simp) hbase) HG.out r1 r2 r3
    refine ⟨_, rfl, Kd.R_of_own hown (fun _ _ => trivial), ?_⟩
    have hg := grownBy_sorted_i (w := w2) (g := g) (n := q) (os := #[]) (setI zs ++ List.replicate (zs.length - (setI zs).length) 0).toArray
    rw [show ∀ W : World, grow W #[] = W from fun W => by simp [grow]] at hg
    exact hb2.grown hg hb2.size (fun j hj => by cases hj; exact Nat.le_trans (by simp) hbase)
end Go.Proofs.YtdkpdpdaggnmhaaGreatW.PrintWords
