-- Printed by this session's own program (wip/tools/xprint.py) over the kit's print; not trusted: Lean checks it.
import Derived.Test.YtdkpdpdaggnmhaaGreatZExactCacheMemoryPFnExactCacheMemoryx0
import Derived.Test.YtdkpdpdaggnmhaaGreatZExactCacheMemoryPFnExactCacheMemoryx5
namespace Go.Proofs.YtdkpdpdaggnmhaaGreat.PFnExactCacheMemory
open Go.RowKit Go.Proofs.YtdkpdpdaggnmhaaGreatW.PrintWords Go.Proofs.YtdkpdpdaggnmhaaGreatW.PrintLast Go.Proofs.YtdkpdpdaggnmhaaGreatW.PrintMore
attribute [local go_sem] max2_int min2_int max_two min_two max_three min_three max_four min_four   -- for this text's walks alone
set_option linter.unusedVariables false
set_option linter.unusedSimpArgs false

/-! ### impl_isOrderOf: function 81 -/
theorem xAscending_ev (n : Nat) (h : n ≤ 1048576) : Ev (fun k => impl_ascending.f k (n : Int)) ((List.range n).map fun (j : Nat) => (j : Int)) := by
  unfold impl_ascending.f
  have key : ∀ d i, i + d = n → Ev (fun k => impl_ascending.l0 k ((List.range i).map fun (j : Nat) => (j : Int)) (n : Int) (i : Int)) ((List.range n).map fun (j : Nat) => (j : Int)) := by
    intro d
    induction d with
    | zero =>
      intro i hi
      obtain rfl : i = n := by omega
      refine Ev.step (f := fun _ => some ((List.range i).map fun (j : Nat) => (j : Int))) (fun k => ?_) (Ev.now _)
      simp only [impl_ascending.l0]
      rw [if_neg (by omega)]
    | succ d ih =>
      intro i hi
      have e : ((List.range i).map fun (j : Nat) => (j : Int)) ++ [(i : Int)] = (List.range (i + 1)).map fun (j : Nat) => (j : Int) := by simp [List.range_succ]
      have e2 : wrap64 ((i : Int) + 1) = ((i + 1 : Nat) : Int) := by unfold wrap64; omega
      refine Ev.step (fun k => ?_) (ih (i + 1) (by omega))
      simp only [impl_ascending.l0]
      rw [if_pos (by omega), if_pos (by simp; omega), e, e2]
  exact key n 0 (by omega)
theorem xEqual_ev (l m : List Int) (hl : l.length ≤ 1048576) : Ev (fun k => slices_Equal_int64_int64.f k l m) (decide (l = m)) := by
  unfold slices_Equal_int64_int64.f
  by_cases hlm : l.length = m.length
  · have key : ∀ d i, i + d = l.length → l.take i = m.take i → Ev (fun k => slices_Equal_int64_int64.l0 k l m (l.length : Int) (i : Int)) (decide (l = m)) := by
      intro d
      induction d with
      | zero =>
        intro i hi he
        refine Ev.step (f := fun _ => some (decide (l = m))) (fun k => ?_) (Ev.now _)
        simp only [slices_Equal_int64_int64.l0]
        rw [if_neg (by omega)]
        have : l = m := by rwa [List.take_of_length_le (by omega), List.take_of_length_le (by omega)] at he
        rw [decide_eq_true this]
      | succ d ih =>
        intro i hi he
        have e2 : wrap64 ((i : Int) + 1) = ((i + 1 : Nat) : Int) := by unfold wrap64; omega
        have g1 : rd l (i : Int) = l[i]'(by omega) := by show l.getD i 0 = _; simp [List.getD_eq_getElem?_getD, show i < l.length by omega]
        have g2 : rd m (i : Int) = m[i]'(by omega) := by show m.getD i 0 = _; simp [List.getD_eq_getElem?_getD, show i < m.length by omega]
        by_cases hx : l[i]'(by omega) = m[i]'(by omega)
        · refine Ev.step (fun k => ?_) (ih (i + 1) (by omega) ?_)
          · simp only [slices_Equal_int64_int64.l0]
            rw [if_pos (by omega), if_pos (by omega), if_pos (by omega), if_pos (by omega), g1, g2, if_pos hx, e2]
          · rw [List.take_succ_eq_append_getElem (by omega), List.take_succ_eq_append_getElem (by omega), he, hx]
        · refine Ev.step (f := fun _ => some (decide (l = m))) (fun k => ?_) (Ev.now _)
          simp only [slices_Equal_int64_int64.l0]
          rw [if_pos (by omega), if_pos (by omega), if_pos (by omega), if_pos (by omega), g1, g2, if_neg hx]
          have : l ≠ m := fun e => hx (by subst e; rfl)
          rw [decide_eq_false this]
    simp only [if_pos (show (l.length : Int) = (m.length : Int) by omega)]
    exact key l.length 0 (by omega) rfl
  · simp only [if_neg (show ¬ (l.length : Int) = (m.length : Int) by omega)]
    have : l ≠ m := fun e => hlm (by rw [e])
    rw [decide_eq_false this]
    exact Ev.now _
def orderB (l0 : List Int) (n : Int) : Bool := decide ((l0.length : Int) = n) && decide (sortI l0 = (List.range l0.length).map fun (j : Nat) => (j : Int))
def impl_isOrderOf.f (l0 : List Int) (a1 : Int) : Option Bool := if l0.length ≤ 1048576 then some (orderB l0 a1) else none
theorem drawn_below {w w' : World} (h : Drawn0 w w') : Below w.heap.size w w' := by
  obtain ⟨nq, rfl⟩ := h
  exact pw_below_drewN (Below.refl _ _) nq
set_option maxHeartbeats 800000 in
theorem xIsOrder (A0 : Option Addr) (c0 : Nat) (l0 : List Int) (a1 : Int) (w : World) (hr0 : Kd.C (Kd.int .i64) w A0 l0.length l0) (hc0 : l0.length ≤ c0) (hl : l0.length ≤ 1048576) :
    Calls Tryz.prog 81 #[.slice A0 l0.length c0, .int .i64 a1] w fun e w' => e = .returned (.bool (orderB l0 a1)) ∧ Below w.heap.size w w' := by
  have HR0 := Aside0.mk hr0
  have HC0 := Aside0.mk hc0
  by_cases h1 : (l0.length : Int) = a1
  · have HB : Aside0 (orderB l0 a1 = decide (sortI l0 = (List.range l0.length).map fun (j : Nat) => (j : Int))) := ⟨by unfold orderB; rw [decide_eq_true h1, Bool.true_and]⟩
    obtain ⟨ka, hka⟩ := xAscending_ev l0.length hl
    have HA := Aside0.mk (hka ka (Nat.le_refl _))
    obtain ⟨ke, hke⟩ := xEqual_ev (sortI l0) ((List.range l0.length).map fun (j : Nat) => (j : Int)) (by rw [sortI_length]; exact hl)
    have HE := Aside0.mk (hke ke (Nat.le_refl _))
    have HSL := Aside0.mk (sortI_length l0)
    have HLL : Aside0 (((List.range l0.length).map fun (j : Nat) => (j : Int)).length = l0.length) := ⟨by simp⟩
    clear hr0 hc0 hka hke
    obtain ⟨L, hL⟩ : ∃ L, L = (List.range l0.length).map fun (j : Nat) => (j : Int) := ⟨_, rfl⟩
    obtain ⟨Q, hQ⟩ : ∃ L, L = sortI l0 := ⟨_, rfl⟩
    have HQ := Aside0.mk hQ
    rw [← hL] at HA HE HLL HB
    rw [← hQ] at HE HSL HB
    obtain ⟨bb, hbb⟩ : ∃ b, b = decide (Q = L) := ⟨_, rfl⟩
    rw [← hbb] at HE HB
    clear hL hQ hbb
    subst h1
    rw [HB.out]
    go_enter Tryz.func81, Tryz.ntmps81
    go_wp2_with fail
    refine (impl_length_int64_78.calls A0 c0 l0 _ w HR0.out HC0.out rfl).mono ?_
    rintro e w1 ⟨rfl, hd1⟩
    have HB1 := Aside0.mk (drawn_below hd1)
    have HR1 := Aside0.mk (Kd.C_below HR0.out HB1.out)
    clear hd1
    go_wp2_with fail
    refine (callsIn_wide.1 (svValues_in Fence.wide 5 trivial rfl A0 l0.length c0 w1)).mono ?_
    rintro e w2 ⟨rfl, rfl⟩
    have hz : SvInts w1.heap.size w1 (.slice A0 l0.length c0) l0 := by
      rcases sv_of_C c0 HR1.out with ⟨p, rfl, rfl⟩ | ⟨b, off, rfl, _, hb, hc⟩
      · exact .inl ⟨⟨_, _, rfl⟩, rfl⟩
      · exact .inr ⟨b, off, c0, rfl, hb, hc⟩
    have HZ := Aside0.mk hz
    have HB2 : Aside0 (Below w1.heap.size w1 (w1.alloc (.cells #[.slice A0 l0.length c0] 23))) := ⟨(Below.refl _ w1).alloc (Nat.le_refl _) _⟩
    clear hz
    go_wp2_with fail
    refine (svSorted l0 (by omega) w1.heap.size (.slice A0 l0.length c0) w1.heap.size (w1.alloc (.cells #[.slice A0 l0.length c0] 23)) (by simp) (by simp) (Boxed.new w1 23 (.slice A0 l0.length c0)).cell (HZ.out.below HB2.out)).mono ?_
    rintro e w3 ⟨v, rfl, hrow, hb3⟩
    have HB3 := Aside0.mk (below_le (below_le HB1.out HB2.out) hb3)
    have hR : Kd.R (Kd.int .i64) 2 w3 0 (fun _ => True) v Q := Kd.R_of_own (by have h := hrow; rw [← HQ.out] at h; rw [HSL.out]; exact own_weaken h (Nat.zero_le _)) (fun _ _ => trivial)
    obtain ⟨A3, c3, rfl, hc3, hC3⟩ := Kd.R_reads hR
    have HC3 := Aside0.mk hC3
    have HL3 := Aside0.mk hc3
    clear hrow hR hC3 hc3 hb3
    go_wp2_with fail
    refine (impl_ascending.calls ka _ L w3 HA.out).mono ?_
    rintro e w4 ⟨v, rfl, hrow, hb4⟩
    have HB4 := Aside0.mk (below_le HB3.out hb4)
    have HC4 := Aside0.mk (Kd.C_below HC3.out hb4)
    obtain ⟨A4, c4, rfl, hc4, hC4⟩ := Kd.R_reads hrow
    have HC5 := Aside0.mk hC4
    have HL5 := Aside0.mk hc4
    clear hrow hC4 hc4 hb4
    go_wp2_with fail
    refine (slices_Equal_int64_int64.calls ke A3 c3 Q A4 c4 L bb w4 HC4.out HL3.out HC5.out HL5.out HE.out).mono ?_
    rintro e w5 ⟨rfl, hd5⟩
    go_wp2
    go_ret
    exact ⟨rfl, below_le HB4.out (drawn_below hd5)⟩
  · have hb : ((l0.length : Int) == a1) = false := by simp [h1]
    have HB : Aside0 (orderB l0 a1 = false) := ⟨by unfold orderB; rw [decide_eq_false h1, Bool.false_and]⟩
    rw [HB.out]
    clear hr0 hc0
    go_enter Tryz.func81, Tryz.ntmps81
    go_wp2_with fail
    refine (impl_length_int64_78.calls A0 c0 l0 _ w HR0.out HC0.out rfl).mono ?_
    rintro e w1 ⟨rfl, hd1⟩
    have HB1 := Aside0.mk (drawn_below hd1)
    clear hd1
    go_wp2
    go_ret
    exact ⟨rfl, HB1.out⟩
theorem impl_isOrderOf.calls (A0 : Option Addr) (c0 : Nat) (l0 : List Int) (a1 : Int) (r : Bool) (w : World) (hr0 : Kd.C (Kd.int .i64) w A0 l0.length l0) (hc0 : l0.length ≤ c0) (h : impl_isOrderOf.f l0 a1 = some r) :
    Calls Tryz.prog 81 #[.slice A0 l0.length c0, .int .i64 a1] w fun e w' => e = .returned (.bool r) ∧ Below w.heap.size w w' := by
  unfold impl_isOrderOf.f at h
  split at h
  · obtain rfl := Option.some.inj h
    exact xIsOrder A0 c0 l0 a1 w hr0 hc0 (by assumption)
  · cases h


end Go.Proofs.YtdkpdpdaggnmhaaGreat.PFnExactCacheMemory
