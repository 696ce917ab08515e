-- Printed by this session's own program (wip/tools/xprint.py) over the kit's print; not trusted: Lean checks it.
import Derived.Test.YtnocikchdkaabaaPFnExactValidLitmusx0
import Derived.Test.YtnocikchdkaabaaPFnExactValidLitmusx2
namespace Go.Proofs.Ytnocikchdkaabaa.PFnExactValidLitmus
open Go.RowKit Go.Proofs.YtnocikchdkaabaaW.PrintWords Go.Proofs.YtnocikchdkaabaaW.PrintLast Go.Proofs.YtnocikchdkaabaaW.PrintMore
attribute [local go_sem] max2_int min2_int max_two min_two max_three min_three max_four min_four   -- for this text's walks alone
set_option linter.unusedVariables false
set_option linter.unusedSimpArgs false

/-! ### spec_l10Litmus: function 91 -/
mutual
def spec_l10Litmus.l0 : Nat → List (List (S126)) → Int → Option (Bool)
  | 0, _, _ => none
  | k + 1, x0, x3 => if x3 < (x0.length : Int) then (if 0 ≤ x3 then (if ((rd_L4 x0 x3).length : Int) > 4 then (some false) else (spec_l10Litmus.l1 k x0 x3 0)) else (none)) else ((spec_l00In.f (x0.length : Int) 1 2).bind fun t103 => (some t103))
def spec_l10Litmus.l1 : Nat → List (List (S126)) → Int → Int → Option (Bool)
  | 0, _, _, _ => none
  | k + 1, x0, x3, x4 => if 0 ≤ x3 then (if x3 < (x0.length : Int) then (if x4 < ((rd_L4 x0 x3).length : Int) then (if 0 ≤ x4 then (if ((rd_T126 (rd_L4 x0 x3) x4).f0) = 2 then (if ((rd_T126 (rd_L4 x0 x3) x4).f1) = 0 then (spec_l10Litmus.j2 k x0 x3 x4 (((rd_T126 (rd_L4 x0 x3) x4).f2) == 0) ((rd_T126 (rd_L4 x0 x3) x4).f0) ((rd_T126 (rd_L4 x0 x3) x4).f1) ((rd_T126 (rd_L4 x0 x3) x4).f2)) else (spec_l10Litmus.j2 k x0 x3 x4 false ((rd_T126 (rd_L4 x0 x3) x4).f0) ((rd_T126 (rd_L4 x0 x3) x4).f1) ((rd_T126 (rd_L4 x0 x3) x4).f2))) else (spec_l10Litmus.j2 k x0 x3 x4 false ((rd_T126 (rd_L4 x0 x3) x4).f0) ((rd_T126 (rd_L4 x0 x3) x4).f1) ((rd_T126 (rd_L4 x0 x3) x4).f2))) else (none)) else (spec_l10Litmus.l0 k x0 (wrap64 (x3 + 1)))) else (none)) else (none)
def spec_l10Litmus.j2 : Nat → List (List (S126)) → Int → Int → Bool → Int → Int → Int → Option (Bool)
  | 0, _, _, _, _, _, _, _ => none
  | k + 1, x0, x3, x4, x6, x109000, x109001, x109002 => if x109000 = 0 then ((spec_l00In.f x109001 0 1).bind fun t109 => (if t109 = true then (spec_l10Litmus.j3 k x0 x3 x4 x6 (x109002 == 0) x109000 x109001 x109002) else (spec_l10Litmus.j3 k x0 x3 x4 x6 false x109000 x109001 x109002))) else (spec_l10Litmus.j3 k x0 x3 x4 x6 false x109000 x109001 x109002)
def spec_l10Litmus.j3 : Nat → List (List (S126)) → Int → Int → Bool → Bool → Int → Int → Int → Option (Bool)
  | 0, _, _, _, _, _, _, _, _ => none
  | k + 1, x0, x3, x4, x6, x7, x109000, x109001, x109002 => if x109000 = 1 then ((spec_l00In.f x109001 0 1).bind fun t110 => (if t110 = true then ((spec_l00In.f x109002 1 2).bind fun t111 => (if x6 = true then (spec_l10Litmus.l1 k x0 x3 (wrap64 (x4 + 1))) else (if x7 = true then (spec_l10Litmus.l1 k x0 x3 (wrap64 (x4 + 1))) else (if t111 = true then (spec_l10Litmus.l1 k x0 x3 (wrap64 (x4 + 1))) else (some false))))) else (if x6 = true then (spec_l10Litmus.l1 k x0 x3 (wrap64 (x4 + 1))) else (if x7 = true then (spec_l10Litmus.l1 k x0 x3 (wrap64 (x4 + 1))) else (some false))))) else (if x6 = true then (spec_l10Litmus.l1 k x0 x3 (wrap64 (x4 + 1))) else (if x7 = true then (spec_l10Litmus.l1 k x0 x3 (wrap64 (x4 + 1))) else (some false)))
end
def spec_l10Litmus.f (k : Nat) (l0 : List (List (S126))) : Option (Bool) := spec_l10Litmus.l0 k l0 0
theorem spec_l10Litmus.mono_l : ∀ k, (∀ y0 y1, LeO (spec_l10Litmus.l0 k y0 y1) (spec_l10Litmus.l0 (k + 1) y0 y1)) ∧ (∀ y0 y1 y2, LeO (spec_l10Litmus.l1 k y0 y1 y2) (spec_l10Litmus.l1 (k + 1) y0 y1 y2)) ∧ (∀ y0 y1 y2 y3 y4 y5 y6, LeO (spec_l10Litmus.j2 k y0 y1 y2 y3 y4 y5 y6) (spec_l10Litmus.j2 (k + 1) y0 y1 y2 y3 y4 y5 y6)) ∧ (∀ y0 y1 y2 y3 y4 y5 y6 y7, LeO (spec_l10Litmus.j3 k y0 y1 y2 y3 y4 y5 y6 y7) (spec_l10Litmus.j3 (k + 1) y0 y1 y2 y3 y4 y5 y6 y7))
  | 0 => ⟨fun _ _ r h => by simp [spec_l10Litmus.l0] at h, fun _ _ _ r h => by simp [spec_l10Litmus.l1] at h, fun _ _ _ _ _ _ _ r h => by simp [spec_l10Litmus.j2] at h, fun _ _ _ _ _ _ _ _ r h => by simp [spec_l10Litmus.j3] at h⟩
  | k + 1 => by
    obtain ⟨ih0, ih1, ih2, ih3⟩ := spec_l10Litmus.mono_l k
    refine ⟨?_, ?_, ?_, ?_⟩
    · intro y0 y1
      unfold spec_l10Litmus.l0
      repeat' first
      | (with_reducible exact ih0 _ _)
      | (with_reducible exact ih1 _ _ _)
      | (with_reducible exact ih2 _ _ _ _ _ _ _)
      | (with_reducible exact ih3 _ _ _ _ _ _ _ _)
      | (with_reducible exact LeO.refl _)
      | (with_reducible exact LeO.none _)
      | (with_reducible refine LeO.ite ?_ ?_)
      | (with_reducible refine LeO.bind ?_ (fun _ => ?_))
      | exact ih0 _ _
      | exact ih1 _ _ _
      | exact ih2 _ _ _ _ _ _ _
      | exact ih3 _ _ _ _ _ _ _ _
      | exact LeO.none _
      | refine LeO.ite ?_ ?_
      | refine LeO.bind ?_ (fun _ => ?_)
    · intro y0 y1 y2
      unfold spec_l10Litmus.l1
      repeat' first
      | (with_reducible exact ih0 _ _)
      | (with_reducible exact ih1 _ _ _)
      | (with_reducible exact ih2 _ _ _ _ _ _ _)
      | (with_reducible exact ih3 _ _ _ _ _ _ _ _)
      | (with_reducible exact LeO.refl _)
      | (with_reducible exact LeO.none _)
      | (with_reducible refine LeO.ite ?_ ?_)
      | (with_reducible refine LeO.bind ?_ (fun _ => ?_))
      | exact ih0 _ _
      | exact ih1 _ _ _
      | exact ih2 _ _ _ _ _ _ _
      | exact ih3 _ _ _ _ _ _ _ _
      | exact LeO.none _
      | refine LeO.ite ?_ ?_
      | refine LeO.bind ?_ (fun _ => ?_)
    · intro y0 y1 y2 y3 y4 y5 y6
      unfold spec_l10Litmus.j2
      repeat' first
      | (with_reducible exact ih0 _ _)
      | (with_reducible exact ih1 _ _ _)
      | (with_reducible exact ih2 _ _ _ _ _ _ _)
      | (with_reducible exact ih3 _ _ _ _ _ _ _ _)
      | (with_reducible exact LeO.refl _)
      | (with_reducible exact LeO.none _)
      | (with_reducible refine LeO.ite ?_ ?_)
      | (with_reducible refine LeO.bind ?_ (fun _ => ?_))
      | exact ih0 _ _
      | exact ih1 _ _ _
      | exact ih2 _ _ _ _ _ _ _
      | exact ih3 _ _ _ _ _ _ _ _
      | exact LeO.none _
      | refine LeO.ite ?_ ?_
      | refine LeO.bind ?_ (fun _ => ?_)
    · intro y0 y1 y2 y3 y4 y5 y6 y7
      unfold spec_l10Litmus.j3
      repeat' first
      | (with_reducible exact ih0 _ _)
      | (with_reducible exact ih1 _ _ _)
      | (with_reducible exact ih2 _ _ _ _ _ _ _)
      | (with_reducible exact ih3 _ _ _ _ _ _ _ _)
      | (with_reducible exact LeO.refl _)
      | (with_reducible exact LeO.none _)
      | (with_reducible refine LeO.ite ?_ ?_)
      | (with_reducible refine LeO.bind ?_ (fun _ => ?_))
      | exact ih0 _ _
      | exact ih1 _ _ _
      | exact ih2 _ _ _ _ _ _ _
      | exact ih3 _ _ _ _ _ _ _ _
      | exact LeO.none _
      | refine LeO.ite ?_ ?_
      | refine LeO.bind ?_ (fun _ => ?_)
theorem spec_l10Litmus.mono : ∀ a0 k, LeO (spec_l10Litmus.f k a0) (spec_l10Litmus.f (k + 1) a0) := by
  intro a0 k
  obtain ⟨ih0, ih1, ih2, ih3⟩ := spec_l10Litmus.mono_l k
  unfold spec_l10Litmus.f
  repeat' first
      | (with_reducible exact ih0 _ _)
      | (with_reducible exact ih1 _ _ _)
      | (with_reducible exact ih2 _ _ _ _ _ _ _)
      | (with_reducible exact ih3 _ _ _ _ _ _ _ _)
      | (with_reducible exact LeO.refl _)
      | (with_reducible exact LeO.none _)
      | (with_reducible refine LeO.ite ?_ ?_)
      | (with_reducible refine LeO.bind ?_ (fun _ => ?_))
      | exact ih0 _ _
      | exact ih1 _ _ _
      | exact ih2 _ _ _ _ _ _ _
      | exact ih3 _ _ _ _ _ _ _ _
      | exact LeO.none _
      | refine LeO.ite ?_ ?_
      | refine LeO.bind ?_ (fun _ => ?_)
set_option maxHeartbeats 8000000 in
set_option maxRecDepth 100000 in
theorem spec_l10Litmus.calls (k : Nat) (A0 : Option Addr) (c0 : Nat) (l0 : List (List (S126))) (r : Bool) (w : World) (hr0 : Kd.C (Kd.slice 126 k126) w A0 l0.length l0) (hc0 : l0.length ≤ c0) (h : spec_l10Litmus.f k l0 = some r) :
    Calls Try.prog 91 #[.slice A0 l0.length c0] w fun e w' => e = .returned (.bool r) ∧ Below w.heap.size w w' := by
  have hu126 := Try.underlying126
  have HR0 := Aside0.mk hr0
  have HC0 := Aside0.mk hc0
  clear hr0 hc0
  have HB := Aside0.mk (Below.refl w.heap.size w)
  have H : (spec_l10Litmus.l0 k l0 0) = some r := h
  clear h
  have H' := Aside0.mk H
  clear H
  go_enter Try.func91, Try.ntmps91
  go_wp2
  go_loopg [3] k (fun kq v3 w' => ∃ (x3_1 : Int), v3 = .int .i64 x3_1 ∧ Aside0 (spec_l10Litmus.l0 kq l0 x3_1 = some r) ∧ Aside0 (kq ≤ k) ∧ Aside0 (Below w.heap.size w w'))
  case atStart => exact ⟨(0), (by first | rfl | (simp; done) | (simp [*]; done)), H', ⟨Nat.le_refl _⟩, ⟨by repeat (first | (with_reducible first | exact HB.out | apply below_alloc | apply pw_below_drewN | apply below_drew1) | exact HB.out)⟩⟩
  case round =>
    clear H'
    obtain ⟨x3_1, rfl, HA, HK1, HB⟩ := hrel
    cases gk with
    | zero => exact absurd HA.out (by simp [spec_l10Litmus.l0])
    | succ k1 =>
      have H := HA.out
      clear HA
      simp only [spec_l10Litmus.l0] at H
      by_cases c2 : x3_1 < (l0.length : Int)
      · rw [if_pos c2] at H
        have c2b0 : decide (x3_1 < (l0.length : Int)) = true := decide_eq_true c2
        clear c2
        by_cases c3 : 0 ≤ x3_1
        · rw [if_pos c3] at H
          have c3b0 : decide (0 ≤ x3_1) = true := decide_eq_true c3
          clear c3
          by_cases c4 : ((rd_L4 l0 x3_1).length : Int) > 4
          · rw [if_pos c4] at H
            have c4b0 : decide (4 < ((rd_L4 l0 x3_1).length : Int)) = true := decide_eq_true c4
            have c4b1 : decide (4 < (rd_L4 l0 x3_1).length) = true := decide_eq_true (by omega)
            clear c4
            obtain rfl := Option.some.inj H
            have p104 : 0 ≤ (x3_1 : Int) := of_decide_eq_true (by first | (with_reducible assumption) | assumption)
            have q104 : x3_1 < (l0.length : Int) := of_decide_eq_true (by first | (with_reducible assumption) | assumption)
            obtain ⟨ad104, A104_0, c104_0, e104, hx104_0, hl104_0, hi104_0⟩ := at_L4 HR0.out x3_1 p104 q104
            cases e104
            replace hx104_0 := (HB.out.cell (World.block_lt_of_cell? w _ hx104_0)).trans hx104_0
            have HR104_0 := Aside0.mk hi104_0
            have HC104_0 := Aside0.mk hl104_0
            clear hi104_0 hl104_0
            replace p104 := eq_true p104
            replace q104 := eq_true q104
            go_wp2
            go_ret
            exact ⟨by first | rfl | (simp [errW_none, errW_some] <;> rfl) | (simp [*, errW_none, errW_some] <;> rfl), by repeat (first | (with_reducible first | exact HB.out | apply below_alloc | apply pw_below_drewN | apply below_drew1) | exact HB.out)⟩
          · rw [if_neg c4] at H
            have c4b0 : decide (4 < ((rd_L4 l0 x3_1).length : Int)) = false := decide_eq_false c4
            have c4b1 : decide (4 < (rd_L4 l0 x3_1).length) = false := decide_eq_false (by omega)
            clear c4
            have H' := Aside0.mk H
            clear H
            have p104 : 0 ≤ (x3_1 : Int) := of_decide_eq_true (by first | (with_reducible assumption) | assumption)
            have q104 : x3_1 < (l0.length : Int) := of_decide_eq_true (by first | (with_reducible assumption) | assumption)
            obtain ⟨ad104, A104_0, c104_0, e104, hx104_0, hl104_0, hi104_0⟩ := at_L4 HR0.out x3_1 p104 q104
            cases e104
            replace hx104_0 := (HB.out.cell (World.block_lt_of_cell? w _ hx104_0)).trans hx104_0
            have HR104_0 := Aside0.mk hi104_0
            have HC104_0 := Aside0.mk hl104_0
            clear hi104_0 hl104_0
            replace p104 := eq_true p104
            replace q104 := eq_true q104
            go_wp2
            go_loopg [4] k1 (fun kq v4 w' => ∃ (x4_2 : Int), v4 = .int .i64 x4_2 ∧ Aside0 (spec_l10Litmus.l1 kq l0 x3_1 x4_2 = some r) ∧ Aside0 (kq ≤ k1) ∧ Aside0 (Below w.heap.size w w'))
            case atStart => exact ⟨(0), (by first | rfl | (simp; done) | (simp [*]; done)), H', ⟨Nat.le_refl _⟩, ⟨by repeat (first | (with_reducible first | exact HB.out | apply below_alloc | apply pw_below_drewN | apply below_drew1) | exact HB.out)⟩⟩
            case round =>
              clear H'
              try clear c1
              try clear p1
              try clear q1
              try clear hx1
              try clear c2
              try clear c2b0
              try clear p2
              try clear c3
              try clear c3b0
              try clear c4
              try clear c4b0
              try clear c4b1
              try clear hx104_0
              try clear p104
              try clear q104
              obtain ⟨x4_2, rfl, HA, HK2, HB⟩ := hrel
              cases gk with
              | zero => exact absurd HA.out (by simp [spec_l10Litmus.l1])
              | succ k2 =>
                have H := HA.out
                clear HA
                simp only [spec_l10Litmus.l1] at H
                by_cases c5 : 0 ≤ x3_1
                · rw [if_pos c5] at H
                  have c5b0 : decide (0 ≤ x3_1) = true := decide_eq_true c5
                  clear c5
                  by_cases c6 : x3_1 < (l0.length : Int)
                  · rw [if_pos c6] at H
                    have c6b0 : decide (x3_1 < (l0.length : Int)) = true := decide_eq_true c6
                    clear c6
                    by_cases c7 : x4_2 < ((rd_L4 l0 x3_1).length : Int)
                    · rw [if_pos c7] at H
                      have c7b0 : decide (x4_2 < ((rd_L4 l0 x3_1).length : Int)) = true := decide_eq_true c7
                      clear c7
                      by_cases c8 : 0 ≤ x4_2
                      · rw [if_pos c8] at H
                        have c8b0 : decide (0 ≤ x4_2) = true := decide_eq_true c8
                        clear c8
                        have HC9 := Aside0.mk H
                        clear H
                        have p105 : 0 ≤ (x3_1 : Int) := of_decide_eq_true (by first | (with_reducible assumption) | assumption)
                        have q105 : x3_1 < (l0.length : Int) := of_decide_eq_true (by first | (with_reducible assumption) | assumption)
                        obtain ⟨ad105, A105_0, c105_0, e105, hx105_0, hl105_0, hi105_0⟩ := at_L4 HR0.out x3_1 p105 q105
                        obtain rfl : ad104 = ad105 := (by injection e105)
                        replace hx105_0 := (HB.out.cell (World.block_lt_of_cell? w _ hx105_0)).trans hx105_0
                        have HR105_0 := Aside0.mk hi105_0
                        have HC105_0 := Aside0.mk hl105_0
                        clear hi105_0 hl105_0
                        replace p105 := eq_true p105
                        replace q105 := eq_true q105
                        have p106 : 0 ≤ (x3_1 : Int) := of_decide_eq_true (by first | (with_reducible assumption) | assumption)
                        have q106 : x3_1 < (l0.length : Int) := of_decide_eq_true (by first | (with_reducible assumption) | assumption)
                        obtain ⟨ad106, A106_0, c106_0, e106, hx106_0, hl106_0, hi106_0⟩ := at_L4 HR0.out x3_1 p106 q106
                        obtain rfl : ad104 = ad106 := (by injection e106)
                        replace hx106_0 := (HB.out.cell (World.block_lt_of_cell? w _ hx106_0)).trans hx106_0
                        have HR106_0 := Aside0.mk hi106_0
                        have HC106_0 := Aside0.mk hl106_0
                        clear hi106_0 hl106_0
                        replace p106 := eq_true p106
                        replace q106 := eq_true q106
                        have ea_ := Option.some.inj (hx105_0.symm.trans hx106_0)
                        injection ea_ with ea_ en_ ec_
                        subst ea_
                        subst ec_
                        clear en_
                        have p107 : 0 ≤ (x4_2 : Int) := of_decide_eq_true (by first | (with_reducible assumption) | assumption)
                        have q107 : x4_2 < ((rd_L4 l0 x3_1).length : Int) := of_decide_eq_true (by first | (with_reducible assumption) | assumption)
                        obtain ⟨ad107, e107, hx107_0, hx107_1, hx107_2⟩ := at_T126 HR106_0.out x4_2 p107 q107
                        cases e107
                        replace hx107_0 := (HB.out.cell (World.block_lt_of_cell? w _ hx107_0)).trans hx107_0
                        replace hx107_1 := (HB.out.cell (World.block_lt_of_cell? w _ hx107_1)).trans hx107_1
                        replace hx107_2 := (HB.out.cell (World.block_lt_of_cell? w _ hx107_2)).trans hx107_2
                        replace p107 := eq_true p107
                        replace q107 := eq_true q107
                        go_upto_region 10 with (first | ((with_reducible refine gate_dst (N := 5) rfl ?_); refine box_event ?hg (N := 5) ?hd (cs := #[.int .i64 0, .int .i64 0, .int .i64 0]) (t := 126) ?hr ?_; (case hd => rfl); (case hg => rfl); (case hr => first | (go_simp; done) | (go_simp; rfl)); intro gb108 hg w10 hbox hb; have n0_ := Aside0.mk (below_step (by repeat (first | (with_reducible first | exact HB.out | apply below_alloc | apply pw_below_drewN | apply below_drew1) | exact HB.out)) hb); have n1_ := Aside0.mk (hbox); have n2_ := Aside0.mk ((by rw [hg]; exact (below_size (by repeat (first | (with_reducible first | exact HB.out | apply below_alloc | apply pw_below_drewN | apply below_drew1) | exact HB.out))) : w.heap.size ≤ gb108)); have n3_ := Aside0.mk ((by rw [hg]; exact (below_size (by repeat (first | (with_reducible first | exact HB.out | apply below_alloc | apply pw_below_drewN | apply below_drew1) | exact HB.out))) : w.heap.size ≤ gb108)); clear HB; have HB := n0_; have BK108 := n1_; have GW108 := n2_; have GE108 := n3_; clear n0_ n1_ n2_ n3_; clear hb hbox hg; have hcz11_0 : w10.cell? ⟨gb108, 0, none⟩ = some (.int .i64 0) := (blk_cell BK108.out 0).trans rfl; have hcz11_1 : w10.cell? ⟨gb108, 1, none⟩ = some (.int .i64 0) := (blk_cell BK108.out 1).trans rfl; have hcz11_2 : w10.cell? ⟨gb108, 2, none⟩ = some (.int .i64 0) := (blk_cell BK108.out 2).trans rfl; have hfz11_0 := blk_frozen BK108.out 0; have hfz11_1 := blk_frozen BK108.out 1; have hfz11_2 := blk_frozen BK108.out 2))
                        (try simp only [Act.put, List.setIfInBounds_toArray, List.set_cons_zero, List.set_cons_succ])
                        go_cut [6] (fun v6 wc => ∃ (kq : Nat) (x6_8 : Bool), v6 = .bool x6_8 ∧ Aside0 (spec_l10Litmus.j2 kq l0 x3_1 x4_2 x6_8 ((rd_T126 (rd_L4 l0 x3_1) x4_2).f0) ((rd_T126 (rd_L4 l0 x3_1) x4_2).f1) ((rd_T126 (rd_L4 l0 x3_1) x4_2).f2) = some r) ∧ Aside0 (kq ≤ k2) ∧ Aside0 (wc.heap[gb108]? = some (.cells #[.int .i64 ((rd_T126 (rd_L4 l0 x3_1) x4_2).f0), .int .i64 ((rd_T126 (rd_L4 l0 x3_1) x4_2).f1), .int .i64 ((rd_T126 (rd_L4 l0 x3_1) x4_2).f2)] 126 (0, 0))) ∧ Aside0 (Below w.heap.size w wc))
                        case first =>
                          have H := HC9.out
                          clear HC9
                          by_cases c12 : ((rd_T126 (rd_L4 l0 x3_1) x4_2).f0) = 2
                          · rw [if_pos c12] at H
                            have c12b0 : (((rd_T126 (rd_L4 l0 x3_1) x4_2).f0) == 2) = true := beq_iff_eq.mpr c12
                            have c12b1 : (((rd_T126 (rd_L4 l0 x3_1) x4_2).f0) != 2) = false := bne_eq_false_iff_eq.mpr c12
                            clear c12
                            (first | rw [c12b0] | (simp only [i64_w, i32_w]; rw [c12b0]) | skip)
                            by_cases c13 : ((rd_T126 (rd_L4 l0 x3_1) x4_2).f1) = 0
                            · rw [if_pos c13] at H
                              have c13b0 : (((rd_T126 (rd_L4 l0 x3_1) x4_2).f1) == 0) = true := beq_iff_eq.mpr c13
                              have c13b1 : (((rd_T126 (rd_L4 l0 x3_1) x4_2).f1) != 0) = false := bne_eq_false_iff_eq.mpr c13
                              clear c13
                              have H' := Aside0.mk H
                              clear H
                              have hcz14_0 : w10.cell? ⟨gb108, 0, none⟩ = some (.int .i64 0) := (blk_cell BK108.out 0).trans rfl
                              have hcz14_1 : w10.cell? ⟨gb108, 1, none⟩ = some (.int .i64 0) := (blk_cell BK108.out 1).trans rfl
                              have hcz14_2 : w10.cell? ⟨gb108, 2, none⟩ = some (.int .i64 0) := (blk_cell BK108.out 2).trans rfl
                              have hfz14_0 := blk_frozen BK108.out 0
                              have hfz14_1 := blk_frozen BK108.out 1
                              have hfz14_2 := blk_frozen BK108.out 2
                              go_wp2
                              go_meet
                              case rel => exact ⟨_, ((((rd_T126 (rd_L4 l0 x3_1) x4_2).f2) == 0)), (by first | rfl | (simp; done) | (simp [*]; done)), H', ⟨by have := HK1.out; have := HK2.out; first | omega | exact Nat.le_refl _⟩, ⟨by (with_reducible repeat (first | refine blk_drewN ?_ _ | refine blk_drew ?_ | refine blk_alloc ?_ _)); refine blk_put (cs := #[.int .i64 ((rd_T126 (rd_L4 l0 x3_1) x4_2).f0), .int .i64 ((rd_T126 (rd_L4 l0 x3_1) x4_2).f1), .int .i64 0]) ?_ 2 _ rfl; (with_reducible repeat (first | refine blk_drewN ?_ _ | refine blk_drew ?_ | refine blk_alloc ?_ _)); refine blk_put (cs := #[.int .i64 ((rd_T126 (rd_L4 l0 x3_1) x4_2).f0), .int .i64 0, .int .i64 0]) ?_ 1 _ rfl; (with_reducible repeat (first | refine blk_drewN ?_ _ | refine blk_drew ?_ | refine blk_alloc ?_ _)); refine blk_put (cs := #[.int .i64 0, .int .i64 0, .int .i64 0]) ?_ 0 _ rfl; (with_reducible repeat (first | refine blk_drewN ?_ _ | refine blk_drew ?_ | refine blk_alloc ?_ _)); exact BK108.out⟩, ⟨by repeat (first | (with_reducible first | exact HB.out | apply below_alloc | apply pw_below_drewN | apply below_drew1 | refine below_set ?_ GE108.out) | exact HB.out)⟩⟩
                            · rw [if_neg c13] at H
                              have c13b0 : (((rd_T126 (rd_L4 l0 x3_1) x4_2).f1) == 0) = false := beq_eq_false_iff_ne.mpr c13
                              have c13b1 : (((rd_T126 (rd_L4 l0 x3_1) x4_2).f1) != 0) = true := bne_iff_ne.mpr c13
                              have H' := Aside0.mk H
                              clear H
                              have hcz15_0 : w10.cell? ⟨gb108, 0, none⟩ = some (.int .i64 0) := (blk_cell BK108.out 0).trans rfl
                              have hcz15_1 : w10.cell? ⟨gb108, 1, none⟩ = some (.int .i64 0) := (blk_cell BK108.out 1).trans rfl
                              have hcz15_2 : w10.cell? ⟨gb108, 2, none⟩ = some (.int .i64 0) := (blk_cell BK108.out 2).trans rfl
                              have hfz15_0 := blk_frozen BK108.out 0
                              have hfz15_1 := blk_frozen BK108.out 1
                              have hfz15_2 := blk_frozen BK108.out 2
                              go_wp2
                              go_meet
                              case rel => exact ⟨_, (false), (by first | rfl | (simp; done) | (simp [*]; done)), H', ⟨by have := HK1.out; have := HK2.out; first | omega | exact Nat.le_refl _⟩, ⟨by (with_reducible repeat (first | refine blk_drewN ?_ _ | refine blk_drew ?_ | refine blk_alloc ?_ _)); refine blk_put (cs := #[.int .i64 ((rd_T126 (rd_L4 l0 x3_1) x4_2).f0), .int .i64 ((rd_T126 (rd_L4 l0 x3_1) x4_2).f1), .int .i64 0]) ?_ 2 _ rfl; (with_reducible repeat (first | refine blk_drewN ?_ _ | refine blk_drew ?_ | refine blk_alloc ?_ _)); refine blk_put (cs := #[.int .i64 ((rd_T126 (rd_L4 l0 x3_1) x4_2).f0), .int .i64 0, .int .i64 0]) ?_ 1 _ rfl; (with_reducible repeat (first | refine blk_drewN ?_ _ | refine blk_drew ?_ | refine blk_alloc ?_ _)); refine blk_put (cs := #[.int .i64 0, .int .i64 0, .int .i64 0]) ?_ 0 _ rfl; (with_reducible repeat (first | refine blk_drewN ?_ _ | refine blk_drew ?_ | refine blk_alloc ?_ _)); exact BK108.out⟩, ⟨by repeat (first | (with_reducible first | exact HB.out | apply below_alloc | apply pw_below_drewN | apply below_drew1 | refine below_set ?_ GE108.out) | exact HB.out)⟩⟩
                          · rw [if_neg c12] at H
                            have c12b0 : (((rd_T126 (rd_L4 l0 x3_1) x4_2).f0) == 2) = false := beq_eq_false_iff_ne.mpr c12
                            have c12b1 : (((rd_T126 (rd_L4 l0 x3_1) x4_2).f0) != 2) = true := bne_iff_ne.mpr c12
                            (first | rw [c12b0] | (simp only [i64_w, i32_w]; rw [c12b0]) | skip)
                            have H' := Aside0.mk H
                            clear H
                            have hcz16_0 : w10.cell? ⟨gb108, 0, none⟩ = some (.int .i64 0) := (blk_cell BK108.out 0).trans rfl
                            have hcz16_1 : w10.cell? ⟨gb108, 1, none⟩ = some (.int .i64 0) := (blk_cell BK108.out 1).trans rfl
                            have hcz16_2 : w10.cell? ⟨gb108, 2, none⟩ = some (.int .i64 0) := (blk_cell BK108.out 2).trans rfl
                            have hfz16_0 := blk_frozen BK108.out 0
                            have hfz16_1 := blk_frozen BK108.out 1
                            have hfz16_2 := blk_frozen BK108.out 2
                            go_wp2
                            go_meet
                            case rel => exact ⟨_, (false), (by first | rfl | (simp; done) | (simp [*]; done)), H', ⟨by have := HK1.out; have := HK2.out; first | omega | exact Nat.le_refl _⟩, ⟨by (with_reducible repeat (first | refine blk_drewN ?_ _ | refine blk_drew ?_ | refine blk_alloc ?_ _)); refine blk_put (cs := #[.int .i64 ((rd_T126 (rd_L4 l0 x3_1) x4_2).f0), .int .i64 ((rd_T126 (rd_L4 l0 x3_1) x4_2).f1), .int .i64 0]) ?_ 2 _ rfl; (with_reducible repeat (first | refine blk_drewN ?_ _ | refine blk_drew ?_ | refine blk_alloc ?_ _)); refine blk_put (cs := #[.int .i64 ((rd_T126 (rd_L4 l0 x3_1) x4_2).f0), .int .i64 0, .int .i64 0]) ?_ 1 _ rfl; (with_reducible repeat (first | refine blk_drewN ?_ _ | refine blk_drew ?_ | refine blk_alloc ?_ _)); refine blk_put (cs := #[.int .i64 0, .int .i64 0, .int .i64 0]) ?_ 0 _ rfl; (with_reducible repeat (first | refine blk_drewN ?_ _ | refine blk_drew ?_ | refine blk_alloc ?_ _)); exact BK108.out⟩, ⟨by repeat (first | (with_reducible first | exact HB.out | apply below_alloc | apply pw_below_drewN | apply below_drew1 | refine below_set ?_ GE108.out) | exact HB.out)⟩⟩
                        case rest =>
                          clear HC9
                          try clear c1
                          try clear p1
                          try clear q1
                          try clear hx1
                          try clear c2
                          try clear c2b0
                          try clear p2
                          try clear c3
                          try clear c3b0
                          try clear c4
                          try clear c4b0
                          try clear c4b1
                          try clear c5
                          try clear c5b0
                          try clear c6
                          try clear c6b0
                          try clear c7
                          try clear c7b0
                          try clear c8
                          try clear c8b0
                          try clear c9
                          try clear c10
                          try clear p10
                          try clear q10
                          try clear hx10
                          try clear c12
                          try clear c12b0
                          try clear c12b1
                          try clear c13
                          try clear c13b0
                          try clear c13b1
                          try clear hcz11_0
                          try clear hcz11_1
                          try clear hcz11_2
                          try clear hcz14_0
                          try clear hcz14_1
                          try clear hcz14_2
                          try clear hcz15_0
                          try clear hcz15_1
                          try clear hcz15_2
                          try clear hcz16_0
                          try clear hcz16_1
                          try clear hcz16_2
                          try clear hfz11_0
                          try clear hfz11_1
                          try clear hfz11_2
                          try clear hfz14_0
                          try clear hfz14_1
                          try clear hfz14_2
                          try clear hfz15_0
                          try clear hfz15_1
                          try clear hfz15_2
                          try clear hfz16_0
                          try clear hfz16_1
                          try clear hfz16_2
                          try clear hx104_0
                          try clear hx105_0
                          try clear hx106_0
                          try clear hx107_0
                          try clear hx107_1
                          try clear hx107_2
                          try clear p1
                          try clear p104
                          try clear p105
                          try clear p106
                          try clear p107
                          try clear p2
                          try clear q1
                          try clear q104
                          try clear q105
                          try clear q106
                          try clear q107
                          obtain ⟨kq, x6_8, rfl, HA, HJ8, BK108, HB⟩ := hcut
                          cases kq with
                          | zero => exact absurd HA.out (by simp [spec_l10Litmus.j2])
                          | succ kj8 =>
                            have H := HA.out
                            clear HA
                            simp only [spec_l10Litmus.j2] at H
                            have HC17 := Aside0.mk H
                            clear H
                            go_upto_region 11 with (fail)
                            go_cut [7] (fun v7 wc => ∃ (kq : Nat) (x7_16 : Bool), v7 = .bool x7_16 ∧ Aside0 (spec_l10Litmus.j3 kq l0 x3_1 x4_2 x6_8 x7_16 ((rd_T126 (rd_L4 l0 x3_1) x4_2).f0) ((rd_T126 (rd_L4 l0 x3_1) x4_2).f1) ((rd_T126 (rd_L4 l0 x3_1) x4_2).f2) = some r) ∧ Aside0 (kq ≤ kj8) ∧ Aside0 (wc.heap[gb108]? = some (.cells #[.int .i64 ((rd_T126 (rd_L4 l0 x3_1) x4_2).f0), .int .i64 ((rd_T126 (rd_L4 l0 x3_1) x4_2).f1), .int .i64 ((rd_T126 (rd_L4 l0 x3_1) x4_2).f2)] 126 (0, 0))) ∧ Aside0 (Below w.heap.size w wc))
                            case first =>
                              have H := HC17.out
                              clear HC17
                              by_cases c18 : ((rd_T126 (rd_L4 l0 x3_1) x4_2).f0) = 0
                              · rw [if_pos c18] at H
                                have c18b0 : (((rd_T126 (rd_L4 l0 x3_1) x4_2).f0) == 0) = true := beq_iff_eq.mpr c18
                                have c18b1 : (((rd_T126 (rd_L4 l0 x3_1) x4_2).f0) != 0) = false := bne_eq_false_iff_eq.mpr c18
                                clear c18
                                (first | rw [c18b0] | (simp only [i64_w, i32_w]; rw [c18b0]) | skip)
                                replace H := Option.bind_eq_some_iff.mp H
                                obtain ⟨t109, A190, H⟩ := H
                                replace H : (if t109 = true then (spec_l10Litmus.j3 kj8 l0 x3_1 x4_2 x6_8 (((rd_T126 (rd_L4 l0 x3_1) x4_2).f2) == 0) ((rd_T126 (rd_L4 l0 x3_1) x4_2).f0) ((rd_T126 (rd_L4 l0 x3_1) x4_2).f1) ((rd_T126 (rd_L4 l0 x3_1) x4_2).f2)) else (spec_l10Litmus.j3 kj8 l0 x3_1 x4_2 x6_8 false ((rd_T126 (rd_L4 l0 x3_1) x4_2).f0) ((rd_T126 (rd_L4 l0 x3_1) x4_2).f1) ((rd_T126 (rd_L4 l0 x3_1) x4_2).f2))) = some r := H
                                have A19 := Aside0.mk A190
                                clear A190
                                by_cases c20 : t109 = true
                                · subst c20
                                  have H1 : (spec_l10Litmus.j3 kj8 l0 x3_1 x4_2 x6_8 (((rd_T126 (rd_L4 l0 x3_1) x4_2).f2) == 0) ((rd_T126 (rd_L4 l0 x3_1) x4_2).f0) ((rd_T126 (rd_L4 l0 x3_1) x4_2).f1) ((rd_T126 (rd_L4 l0 x3_1) x4_2).f2)) = some r := by rw [if_pos rfl] at H; exact H
                                  clear H
                                  have H := H1
                                  clear H1
                                  have H' := Aside0.mk H
                                  clear H
                                  have hcz21_0 : wc.cell? ⟨gb108, 0, none⟩ = some (.int .i64 ((rd_T126 (rd_L4 l0 x3_1) x4_2).f0)) := (blk_cell BK108.out 0).trans rfl
                                  have hcz21_1 : wc.cell? ⟨gb108, 1, none⟩ = some (.int .i64 ((rd_T126 (rd_L4 l0 x3_1) x4_2).f1)) := (blk_cell BK108.out 1).trans rfl
                                  have hcz21_2 : wc.cell? ⟨gb108, 2, none⟩ = some (.int .i64 ((rd_T126 (rd_L4 l0 x3_1) x4_2).f2)) := (blk_cell BK108.out 2).trans rfl
                                  have hfz21_0 := blk_frozen BK108.out 0
                                  have hfz21_1 := blk_frozen BK108.out 1
                                  have hfz21_2 := blk_frozen BK108.out 2
                                  go_wp2_with (first | (go_at_call 134; (with_reducible refine (spec_l00In.calls ((rd_T126 (rd_L4 l0 x3_1) x4_2).f1) 0 1 true _ A19.out).mono ?_); rintro e w' ⟨rfl, ⟨nd, rfl⟩⟩))
                                  go_meet
                                  case rel => exact ⟨_, ((((rd_T126 (rd_L4 l0 x3_1) x4_2).f2) == 0)), (by first | rfl | (simp; done) | (simp [*]; done)), H', ⟨by have := HK1.out; have := HK2.out; have := HJ8.out; first | omega | exact Nat.le_refl _⟩, ⟨by (with_reducible repeat (first | refine blk_drewN ?_ _ | refine blk_drew ?_ | refine blk_alloc ?_ _)); exact BK108.out⟩, ⟨by repeat (first | (with_reducible first | exact HB.out | apply below_alloc | apply pw_below_drewN | apply below_drew1 | refine below_set ?_ GE108.out) | exact HB.out)⟩⟩
                                · replace c20 := Bool.eq_false_iff.mpr c20
                                  subst c20
                                  have H1 : (spec_l10Litmus.j3 kj8 l0 x3_1 x4_2 x6_8 false ((rd_T126 (rd_L4 l0 x3_1) x4_2).f0) ((rd_T126 (rd_L4 l0 x3_1) x4_2).f1) ((rd_T126 (rd_L4 l0 x3_1) x4_2).f2)) = some r := by rw [if_neg (show ¬ (false = true) by decide)] at H; exact H
                                  clear H
                                  have H := H1
                                  clear H1
                                  have H' := Aside0.mk H
                                  clear H
                                  have hcz22_0 : wc.cell? ⟨gb108, 0, none⟩ = some (.int .i64 ((rd_T126 (rd_L4 l0 x3_1) x4_2).f0)) := (blk_cell BK108.out 0).trans rfl
                                  have hcz22_1 : wc.cell? ⟨gb108, 1, none⟩ = some (.int .i64 ((rd_T126 (rd_L4 l0 x3_1) x4_2).f1)) := (blk_cell BK108.out 1).trans rfl
                                  have hcz22_2 : wc.cell? ⟨gb108, 2, none⟩ = some (.int .i64 ((rd_T126 (rd_L4 l0 x3_1) x4_2).f2)) := (blk_cell BK108.out 2).trans rfl
                                  have hfz22_0 := blk_frozen BK108.out 0
                                  have hfz22_1 := blk_frozen BK108.out 1
                                  have hfz22_2 := blk_frozen BK108.out 2
                                  go_wp2_with (first | (go_at_call 134; (with_reducible refine (spec_l00In.calls ((rd_T126 (rd_L4 l0 x3_1) x4_2).f1) 0 1 false _ A19.out).mono ?_); rintro e w' ⟨rfl, ⟨nd, rfl⟩⟩))
                                  go_meet
                                  case rel => exact ⟨_, (false), (by first | rfl | (simp; done) | (simp [*]; done)), H', ⟨by have := HK1.out; have := HK2.out; have := HJ8.out; first | omega | exact Nat.le_refl _⟩, ⟨by (with_reducible repeat (first | refine blk_drewN ?_ _ | refine blk_drew ?_ | refine blk_alloc ?_ _)); exact BK108.out⟩, ⟨by repeat (first | (with_reducible first | exact HB.out | apply below_alloc | apply pw_below_drewN | apply below_drew1 | refine below_set ?_ GE108.out) | exact HB.out)⟩⟩
                              · rw [if_neg c18] at H
                                have c18b0 : (((rd_T126 (rd_L4 l0 x3_1) x4_2).f0) == 0) = false := beq_eq_false_iff_ne.mpr c18
                                have c18b1 : (((rd_T126 (rd_L4 l0 x3_1) x4_2).f0) != 0) = true := bne_iff_ne.mpr c18
                                (first | rw [c18b0] | (simp only [i64_w, i32_w]; rw [c18b0]) | skip)
                                have H' := Aside0.mk H
                                clear H
                                have hcz23_0 : wc.cell? ⟨gb108, 0, none⟩ = some (.int .i64 ((rd_T126 (rd_L4 l0 x3_1) x4_2).f0)) := (blk_cell BK108.out 0).trans rfl
                                have hcz23_1 : wc.cell? ⟨gb108, 1, none⟩ = some (.int .i64 ((rd_T126 (rd_L4 l0 x3_1) x4_2).f1)) := (blk_cell BK108.out 1).trans rfl
                                have hcz23_2 : wc.cell? ⟨gb108, 2, none⟩ = some (.int .i64 ((rd_T126 (rd_L4 l0 x3_1) x4_2).f2)) := (blk_cell BK108.out 2).trans rfl
                                have hfz23_0 := blk_frozen BK108.out 0
                                have hfz23_1 := blk_frozen BK108.out 1
                                have hfz23_2 := blk_frozen BK108.out 2
                                go_wp2
                                go_meet
                                case rel => exact ⟨_, (false), (by first | rfl | (simp; done) | (simp [*]; done)), H', ⟨by have := HK1.out; have := HK2.out; have := HJ8.out; first | omega | exact Nat.le_refl _⟩, ⟨by (with_reducible repeat (first | refine blk_drewN ?_ _ | refine blk_drew ?_ | refine blk_alloc ?_ _)); exact BK108.out⟩, ⟨by repeat (first | (with_reducible first | exact HB.out | apply below_alloc | apply pw_below_drewN | apply below_drew1 | refine below_set ?_ GE108.out) | exact HB.out)⟩⟩
                            case rest =>
                              clear HC17
                              try clear c1
                              try clear p1
                              try clear q1
                              try clear hx1
                              try clear c2
                              try clear c2b0
                              try clear p2
                              try clear c3
                              try clear c3b0
                              try clear c4
                              try clear c4b0
                              try clear c4b1
                              try clear c5
                              try clear c5b0
                              try clear c6
                              try clear c6b0
                              try clear c7
                              try clear c7b0
                              try clear c8
                              try clear c8b0
                              try clear c9
                              try clear c10
                              try clear p10
                              try clear q10
                              try clear hx10
                              try clear c12
                              try clear c12b0
                              try clear c12b1
                              try clear c13
                              try clear c13b0
                              try clear c13b1
                              try clear c18
                              try clear c18b0
                              try clear c18b1
                              try clear c20
                              try clear hcz11_0
                              try clear hcz11_1
                              try clear hcz11_2
                              try clear hcz14_0
                              try clear hcz14_1
                              try clear hcz14_2
                              try clear hcz15_0
                              try clear hcz15_1
                              try clear hcz15_2
                              try clear hcz16_0
                              try clear hcz16_1
                              try clear hcz16_2
                              try clear hcz21_0
                              try clear hcz21_1
                              try clear hcz21_2
                              try clear hcz22_0
                              try clear hcz22_1
                              try clear hcz22_2
                              try clear hcz23_0
                              try clear hcz23_1
                              try clear hcz23_2
                              try clear hfz11_0
                              try clear hfz11_1
                              try clear hfz11_2
                              try clear hfz14_0
                              try clear hfz14_1
                              try clear hfz14_2
                              try clear hfz15_0
                              try clear hfz15_1
                              try clear hfz15_2
                              try clear hfz16_0
                              try clear hfz16_1
                              try clear hfz16_2
                              try clear hfz21_0
                              try clear hfz21_1
                              try clear hfz21_2
                              try clear hfz22_0
                              try clear hfz22_1
                              try clear hfz22_2
                              try clear hfz23_0
                              try clear hfz23_1
                              try clear hfz23_2
                              try clear hx104_0
                              try clear hx105_0
                              try clear hx106_0
                              try clear hx107_0
                              try clear hx107_1
                              try clear hx107_2
                              try clear p1
                              try clear p10
                              try clear p104
                              try clear p105
                              try clear p106
                              try clear p107
                              try clear p2
                              try clear q1
                              try clear q10
                              try clear q104
                              try clear q105
                              try clear q106
                              try clear q107
                              obtain ⟨kq, x7_16, rfl, HA, HJ16, BK108, HB⟩ := hcut
                              cases kq with
                              | zero => exact absurd HA.out (by simp [spec_l10Litmus.j3])
                              | succ kj16 =>
                                have H := HA.out
                                clear HA
                                simp only [spec_l10Litmus.j3] at H
                                by_cases c24 : ((rd_T126 (rd_L4 l0 x3_1) x4_2).f0) = 1
                                · rw [if_pos c24] at H
                                  have c24b0 : (((rd_T126 (rd_L4 l0 x3_1) x4_2).f0) == 1) = true := beq_iff_eq.mpr c24
                                  have c24b1 : (((rd_T126 (rd_L4 l0 x3_1) x4_2).f0) != 1) = false := bne_eq_false_iff_eq.mpr c24
                                  clear c24
                                  replace H := Option.bind_eq_some_iff.mp H
                                  obtain ⟨t110, A250, H⟩ := H
                                  replace H : (if t110 = true then ((spec_l00In.f ((rd_T126 (rd_L4 l0 x3_1) x4_2).f2) 1 2).bind fun t111 => (if x6_8 = true then (spec_l10Litmus.l1 kj16 l0 x3_1 (wrap64 (x4_2 + 1))) else (if x7_16 = true then (spec_l10Litmus.l1 kj16 l0 x3_1 (wrap64 (x4_2 + 1))) else (if t111 = true then (spec_l10Litmus.l1 kj16 l0 x3_1 (wrap64 (x4_2 + 1))) else (some false))))) else (if x6_8 = true then (spec_l10Litmus.l1 kj16 l0 x3_1 (wrap64 (x4_2 + 1))) else (if x7_16 = true then (spec_l10Litmus.l1 kj16 l0 x3_1 (wrap64 (x4_2 + 1))) else (some false)))) = some r := H
                                  have A25 := Aside0.mk A250
                                  clear A250
                                  by_cases c26 : t110 = true
                                  · subst c26
                                    have H1 : ((spec_l00In.f ((rd_T126 (rd_L4 l0 x3_1) x4_2).f2) 1 2).bind fun t111 => (if x6_8 = true then (spec_l10Litmus.l1 kj16 l0 x3_1 (wrap64 (x4_2 + 1))) else (if x7_16 = true then (spec_l10Litmus.l1 kj16 l0 x3_1 (wrap64 (x4_2 + 1))) else (if t111 = true then (spec_l10Litmus.l1 kj16 l0 x3_1 (wrap64 (x4_2 + 1))) else (some false))))) = some r := by rw [if_pos rfl] at H; exact H
                                    clear H
                                    have H := H1
                                    clear H1
                                    replace H := Option.bind_eq_some_iff.mp H
                                    obtain ⟨t111, A270, H⟩ := H
                                    replace H : (if x6_8 = true then (spec_l10Litmus.l1 kj16 l0 x3_1 (wrap64 (x4_2 + 1))) else (if x7_16 = true then (spec_l10Litmus.l1 kj16 l0 x3_1 (wrap64 (x4_2 + 1))) else (if t111 = true then (spec_l10Litmus.l1 kj16 l0 x3_1 (wrap64 (x4_2 + 1))) else (some false)))) = some r := H
                                    have A27 := Aside0.mk A270
                                    clear A270
                                    by_cases c28 : x6_8 = true
                                    · subst c28
                                      have H1 : (spec_l10Litmus.l1 kj16 l0 x3_1 (wrap64 (x4_2 + 1))) = some r := by rw [if_pos rfl] at H; exact H
                                      clear H
                                      have H := H1
                                      clear H1
                                      have H' := Aside0.mk H
                                      clear H
                                      have hcz29_0 : wc.cell? ⟨gb108, 0, none⟩ = some (.int .i64 ((rd_T126 (rd_L4 l0 x3_1) x4_2).f0)) := (blk_cell BK108.out 0).trans rfl
                                      have hcz29_1 : wc.cell? ⟨gb108, 1, none⟩ = some (.int .i64 ((rd_T126 (rd_L4 l0 x3_1) x4_2).f1)) := (blk_cell BK108.out 1).trans rfl
                                      have hcz29_2 : wc.cell? ⟨gb108, 2, none⟩ = some (.int .i64 ((rd_T126 (rd_L4 l0 x3_1) x4_2).f2)) := (blk_cell BK108.out 2).trans rfl
                                      have hfz29_0 := blk_frozen BK108.out 0
                                      have hfz29_1 := blk_frozen BK108.out 1
                                      have hfz29_2 := blk_frozen BK108.out 2
                                      go_wp2_with (first | (go_at_call 134; (with_reducible refine (spec_l00In.calls ((rd_T126 (rd_L4 l0 x3_1) x4_2).f1) 0 1 true _ A25.out).mono ?_); rintro e w' ⟨rfl, ⟨nd, rfl⟩⟩) | (go_at_call 134; (with_reducible refine (spec_l00In.calls ((rd_T126 (rd_L4 l0 x3_1) x4_2).f2) 1 2 t111 _ A27.out).mono ?_); rintro e w' ⟨rfl, ⟨nd, rfl⟩⟩))
                                      go_roundg kj16
                                      case measure => have := HK1.out; have := HK2.out; have := HJ8.out; have := HJ16.out; omega
                                      case rel => exact ⟨(wrap64 (x4_2 + 1)), (by first | rfl | (simp; done) | (simp [*]; done)), H', ⟨by have := HK1.out; have := HK2.out; have := HJ8.out; have := HJ16.out; omega⟩, ⟨by repeat (first | (with_reducible first | exact HB.out | apply below_alloc | apply pw_below_drewN | apply below_drew1 | refine below_set ?_ GE108.out) | exact HB.out)⟩⟩
                                    · replace c28 := Bool.eq_false_iff.mpr c28
                                      subst c28
                                      have H1 : (if x7_16 = true then (spec_l10Litmus.l1 kj16 l0 x3_1 (wrap64 (x4_2 + 1))) else (if t111 = true then (spec_l10Litmus.l1 kj16 l0 x3_1 (wrap64 (x4_2 + 1))) else (some false))) = some r := by rw [if_neg (show ¬ (false = true) by decide)] at H; exact H
                                      clear H
                                      have H := H1
                                      clear H1
                                      by_cases c30 : x7_16 = true
                                      · subst c30
                                        have H1 : (spec_l10Litmus.l1 kj16 l0 x3_1 (wrap64 (x4_2 + 1))) = some r := by rw [if_pos rfl] at H; exact H
                                        clear H
                                        have H := H1
                                        clear H1
                                        have H' := Aside0.mk H
                                        clear H
                                        have hcz31_0 : wc.cell? ⟨gb108, 0, none⟩ = some (.int .i64 ((rd_T126 (rd_L4 l0 x3_1) x4_2).f0)) := (blk_cell BK108.out 0).trans rfl
                                        have hcz31_1 : wc.cell? ⟨gb108, 1, none⟩ = some (.int .i64 ((rd_T126 (rd_L4 l0 x3_1) x4_2).f1)) := (blk_cell BK108.out 1).trans rfl
                                        have hcz31_2 : wc.cell? ⟨gb108, 2, none⟩ = some (.int .i64 ((rd_T126 (rd_L4 l0 x3_1) x4_2).f2)) := (blk_cell BK108.out 2).trans rfl
                                        have hfz31_0 := blk_frozen BK108.out 0
                                        have hfz31_1 := blk_frozen BK108.out 1
                                        have hfz31_2 := blk_frozen BK108.out 2
                                        go_wp2_with (first | (go_at_call 134; (with_reducible refine (spec_l00In.calls ((rd_T126 (rd_L4 l0 x3_1) x4_2).f1) 0 1 true _ A25.out).mono ?_); rintro e w' ⟨rfl, ⟨nd, rfl⟩⟩) | (go_at_call 134; (with_reducible refine (spec_l00In.calls ((rd_T126 (rd_L4 l0 x3_1) x4_2).f2) 1 2 t111 _ A27.out).mono ?_); rintro e w' ⟨rfl, ⟨nd, rfl⟩⟩))
                                        go_roundg kj16
                                        case measure => have := HK1.out; have := HK2.out; have := HJ8.out; have := HJ16.out; omega
                                        case rel => exact ⟨(wrap64 (x4_2 + 1)), (by first | rfl | (simp; done) | (simp [*]; done)), H', ⟨by have := HK1.out; have := HK2.out; have := HJ8.out; have := HJ16.out; omega⟩, ⟨by repeat (first | (with_reducible first | exact HB.out | apply below_alloc | apply pw_below_drewN | apply below_drew1 | refine below_set ?_ GE108.out) | exact HB.out)⟩⟩
                                      · replace c30 := Bool.eq_false_iff.mpr c30
                                        subst c30
                                        have H1 : (if t111 = true then (spec_l10Litmus.l1 kj16 l0 x3_1 (wrap64 (x4_2 + 1))) else (some false)) = some r := by rw [if_neg (show ¬ (false = true) by decide)] at H; exact H
                                        clear H
                                        have H := H1
                                        clear H1
                                        by_cases c32 : t111 = true
                                        · subst c32
                                          have H1 : (spec_l10Litmus.l1 kj16 l0 x3_1 (wrap64 (x4_2 + 1))) = some r := by rw [if_pos rfl] at H; exact H
                                          clear H
                                          have H := H1
                                          clear H1
                                          have H' := Aside0.mk H
                                          clear H
                                          have hcz33_0 : wc.cell? ⟨gb108, 0, none⟩ = some (.int .i64 ((rd_T126 (rd_L4 l0 x3_1) x4_2).f0)) := (blk_cell BK108.out 0).trans rfl
                                          have hcz33_1 : wc.cell? ⟨gb108, 1, none⟩ = some (.int .i64 ((rd_T126 (rd_L4 l0 x3_1) x4_2).f1)) := (blk_cell BK108.out 1).trans rfl
                                          have hcz33_2 : wc.cell? ⟨gb108, 2, none⟩ = some (.int .i64 ((rd_T126 (rd_L4 l0 x3_1) x4_2).f2)) := (blk_cell BK108.out 2).trans rfl
                                          have hfz33_0 := blk_frozen BK108.out 0
                                          have hfz33_1 := blk_frozen BK108.out 1
                                          have hfz33_2 := blk_frozen BK108.out 2
                                          go_wp2_with (first | (go_at_call 134; (with_reducible refine (spec_l00In.calls ((rd_T126 (rd_L4 l0 x3_1) x4_2).f1) 0 1 true _ A25.out).mono ?_); rintro e w' ⟨rfl, ⟨nd, rfl⟩⟩) | (go_at_call 134; (with_reducible refine (spec_l00In.calls ((rd_T126 (rd_L4 l0 x3_1) x4_2).f2) 1 2 true _ A27.out).mono ?_); rintro e w' ⟨rfl, ⟨nd, rfl⟩⟩))
                                          go_roundg kj16
                                          case measure => have := HK1.out; have := HK2.out; have := HJ8.out; have := HJ16.out; omega
                                          case rel => exact ⟨(wrap64 (x4_2 + 1)), (by first | rfl | (simp; done) | (simp [*]; done)), H', ⟨by have := HK1.out; have := HK2.out; have := HJ8.out; have := HJ16.out; omega⟩, ⟨by repeat (first | (with_reducible first | exact HB.out | apply below_alloc | apply pw_below_drewN | apply below_drew1 | refine below_set ?_ GE108.out) | exact HB.out)⟩⟩
                                        · replace c32 := Bool.eq_false_iff.mpr c32
                                          subst c32
                                          have H1 : (some false) = some r := by rw [if_neg (show ¬ (false = true) by decide)] at H; exact H
                                          clear H
                                          have H := H1
                                          clear H1
                                          obtain rfl := Option.some.inj H
                                          have hcz34_0 : wc.cell? ⟨gb108, 0, none⟩ = some (.int .i64 ((rd_T126 (rd_L4 l0 x3_1) x4_2).f0)) := (blk_cell BK108.out 0).trans rfl
                                          have hcz34_1 : wc.cell? ⟨gb108, 1, none⟩ = some (.int .i64 ((rd_T126 (rd_L4 l0 x3_1) x4_2).f1)) := (blk_cell BK108.out 1).trans rfl
                                          have hcz34_2 : wc.cell? ⟨gb108, 2, none⟩ = some (.int .i64 ((rd_T126 (rd_L4 l0 x3_1) x4_2).f2)) := (blk_cell BK108.out 2).trans rfl
                                          have hfz34_0 := blk_frozen BK108.out 0
                                          have hfz34_1 := blk_frozen BK108.out 1
                                          have hfz34_2 := blk_frozen BK108.out 2
                                          go_wp2_with (first | (go_at_call 134; (with_reducible refine (spec_l00In.calls ((rd_T126 (rd_L4 l0 x3_1) x4_2).f1) 0 1 true _ A25.out).mono ?_); rintro e w' ⟨rfl, ⟨nd, rfl⟩⟩) | (go_at_call 134; (with_reducible refine (spec_l00In.calls ((rd_T126 (rd_L4 l0 x3_1) x4_2).f2) 1 2 false _ A27.out).mono ?_); rintro e w' ⟨rfl, ⟨nd, rfl⟩⟩))
                                          go_ret
                                          exact ⟨by first | rfl | (simp [errW_none, errW_some] <;> rfl) | (simp [*, errW_none, errW_some] <;> rfl), by repeat (first | (with_reducible first | exact HB.out | apply below_alloc | apply pw_below_drewN | apply below_drew1 | refine below_set ?_ GE108.out) | exact HB.out)⟩
                                  · replace c26 := Bool.eq_false_iff.mpr c26
                                    subst c26
                                    have H1 : (if x6_8 = true then (spec_l10Litmus.l1 kj16 l0 x3_1 (wrap64 (x4_2 + 1))) else (if x7_16 = true then (spec_l10Litmus.l1 kj16 l0 x3_1 (wrap64 (x4_2 + 1))) else (some false))) = some r := by rw [if_neg (show ¬ (false = true) by decide)] at H; exact H
                                    clear H
                                    have H := H1
                                    clear H1
                                    by_cases c35 : x6_8 = true
                                    · subst c35
                                      have H1 : (spec_l10Litmus.l1 kj16 l0 x3_1 (wrap64 (x4_2 + 1))) = some r := by rw [if_pos rfl] at H; exact H
                                      clear H
                                      have H := H1
                                      clear H1
                                      have H' := Aside0.mk H
                                      clear H
                                      have hcz36_0 : wc.cell? ⟨gb108, 0, none⟩ = some (.int .i64 ((rd_T126 (rd_L4 l0 x3_1) x4_2).f0)) := (blk_cell BK108.out 0).trans rfl
                                      have hcz36_1 : wc.cell? ⟨gb108, 1, none⟩ = some (.int .i64 ((rd_T126 (rd_L4 l0 x3_1) x4_2).f1)) := (blk_cell BK108.out 1).trans rfl
                                      have hcz36_2 : wc.cell? ⟨gb108, 2, none⟩ = some (.int .i64 ((rd_T126 (rd_L4 l0 x3_1) x4_2).f2)) := (blk_cell BK108.out 2).trans rfl
                                      have hfz36_0 := blk_frozen BK108.out 0
                                      have hfz36_1 := blk_frozen BK108.out 1
                                      have hfz36_2 := blk_frozen BK108.out 2
                                      go_wp2_with (first | (go_at_call 134; (with_reducible refine (spec_l00In.calls ((rd_T126 (rd_L4 l0 x3_1) x4_2).f1) 0 1 false _ A25.out).mono ?_); rintro e w' ⟨rfl, ⟨nd, rfl⟩⟩))
                                      go_roundg kj16
                                      case measure => have := HK1.out; have := HK2.out; have := HJ8.out; have := HJ16.out; omega
                                      case rel => exact ⟨(wrap64 (x4_2 + 1)), (by first | rfl | (simp; done) | (simp [*]; done)), H', ⟨by have := HK1.out; have := HK2.out; have := HJ8.out; have := HJ16.out; omega⟩, ⟨by repeat (first | (with_reducible first | exact HB.out | apply below_alloc | apply pw_below_drewN | apply below_drew1 | refine below_set ?_ GE108.out) | exact HB.out)⟩⟩
                                    · replace c35 := Bool.eq_false_iff.mpr c35
                                      subst c35
                                      have H1 : (if x7_16 = true then (spec_l10Litmus.l1 kj16 l0 x3_1 (wrap64 (x4_2 + 1))) else (some false)) = some r := by rw [if_neg (show ¬ (false = true) by decide)] at H; exact H
                                      clear H
                                      have H := H1
                                      clear H1
                                      by_cases c37 : x7_16 = true
                                      · subst c37
                                        have H1 : (spec_l10Litmus.l1 kj16 l0 x3_1 (wrap64 (x4_2 + 1))) = some r := by rw [if_pos rfl] at H; exact H
                                        clear H
                                        have H := H1
                                        clear H1
                                        have H' := Aside0.mk H
                                        clear H
                                        have hcz38_0 : wc.cell? ⟨gb108, 0, none⟩ = some (.int .i64 ((rd_T126 (rd_L4 l0 x3_1) x4_2).f0)) := (blk_cell BK108.out 0).trans rfl
                                        have hcz38_1 : wc.cell? ⟨gb108, 1, none⟩ = some (.int .i64 ((rd_T126 (rd_L4 l0 x3_1) x4_2).f1)) := (blk_cell BK108.out 1).trans rfl
                                        have hcz38_2 : wc.cell? ⟨gb108, 2, none⟩ = some (.int .i64 ((rd_T126 (rd_L4 l0 x3_1) x4_2).f2)) := (blk_cell BK108.out 2).trans rfl
                                        have hfz38_0 := blk_frozen BK108.out 0
                                        have hfz38_1 := blk_frozen BK108.out 1
                                        have hfz38_2 := blk_frozen BK108.out 2
                                        go_wp2_with (first | (go_at_call 134; (with_reducible refine (spec_l00In.calls ((rd_T126 (rd_L4 l0 x3_1) x4_2).f1) 0 1 false _ A25.out).mono ?_); rintro e w' ⟨rfl, ⟨nd, rfl⟩⟩))
                                        go_roundg kj16
                                        case measure => have := HK1.out; have := HK2.out; have := HJ8.out; have := HJ16.out; omega
                                        case rel => exact ⟨(wrap64 (x4_2 + 1)), (by first | rfl | (simp; done) | (simp [*]; done)), H', ⟨by have := HK1.out; have := HK2.out; have := HJ8.out; have := HJ16.out; omega⟩, ⟨by repeat (first | (with_reducible first | exact HB.out | apply below_alloc | apply pw_below_drewN | apply below_drew1 | refine below_set ?_ GE108.out) | exact HB.out)⟩⟩
                                      · replace c37 := Bool.eq_false_iff.mpr c37
                                        subst c37
                                        have H1 : (some false) = some r := by rw [if_neg (show ¬ (false = true) by decide)] at H; exact H
                                        clear H
                                        have H := H1
                                        clear H1
                                        obtain rfl := Option.some.inj H
                                        have hcz39_0 : wc.cell? ⟨gb108, 0, none⟩ = some (.int .i64 ((rd_T126 (rd_L4 l0 x3_1) x4_2).f0)) := (blk_cell BK108.out 0).trans rfl
                                        have hcz39_1 : wc.cell? ⟨gb108, 1, none⟩ = some (.int .i64 ((rd_T126 (rd_L4 l0 x3_1) x4_2).f1)) := (blk_cell BK108.out 1).trans rfl
                                        have hcz39_2 : wc.cell? ⟨gb108, 2, none⟩ = some (.int .i64 ((rd_T126 (rd_L4 l0 x3_1) x4_2).f2)) := (blk_cell BK108.out 2).trans rfl
                                        have hfz39_0 := blk_frozen BK108.out 0
                                        have hfz39_1 := blk_frozen BK108.out 1
                                        have hfz39_2 := blk_frozen BK108.out 2
                                        go_wp2_with (first | (go_at_call 134; (with_reducible refine (spec_l00In.calls ((rd_T126 (rd_L4 l0 x3_1) x4_2).f1) 0 1 false _ A25.out).mono ?_); rintro e w' ⟨rfl, ⟨nd, rfl⟩⟩))
                                        go_ret
                                        exact ⟨by first | rfl | (simp [errW_none, errW_some] <;> rfl) | (simp [*, errW_none, errW_some] <;> rfl), by repeat (first | (with_reducible first | exact HB.out | apply below_alloc | apply pw_below_drewN | apply below_drew1 | refine below_set ?_ GE108.out) | exact HB.out)⟩
                                · rw [if_neg c24] at H
                                  have c24b0 : (((rd_T126 (rd_L4 l0 x3_1) x4_2).f0) == 1) = false := beq_eq_false_iff_ne.mpr c24
                                  have c24b1 : (((rd_T126 (rd_L4 l0 x3_1) x4_2).f0) != 1) = true := bne_iff_ne.mpr c24
                                  by_cases c40 : x6_8 = true
                                  · subst c40
                                    have H1 : (spec_l10Litmus.l1 kj16 l0 x3_1 (wrap64 (x4_2 + 1))) = some r := by rw [if_pos rfl] at H; exact H
                                    clear H
                                    have H := H1
                                    clear H1
                                    have H' := Aside0.mk H
                                    clear H
                                    have hcz41_0 : wc.cell? ⟨gb108, 0, none⟩ = some (.int .i64 ((rd_T126 (rd_L4 l0 x3_1) x4_2).f0)) := (blk_cell BK108.out 0).trans rfl
                                    have hcz41_1 : wc.cell? ⟨gb108, 1, none⟩ = some (.int .i64 ((rd_T126 (rd_L4 l0 x3_1) x4_2).f1)) := (blk_cell BK108.out 1).trans rfl
                                    have hcz41_2 : wc.cell? ⟨gb108, 2, none⟩ = some (.int .i64 ((rd_T126 (rd_L4 l0 x3_1) x4_2).f2)) := (blk_cell BK108.out 2).trans rfl
                                    have hfz41_0 := blk_frozen BK108.out 0
                                    have hfz41_1 := blk_frozen BK108.out 1
                                    have hfz41_2 := blk_frozen BK108.out 2
                                    go_wp2
                                    go_roundg kj16
                                    case measure => have := HK1.out; have := HK2.out; have := HJ8.out; have := HJ16.out; omega
                                    case rel => exact ⟨(wrap64 (x4_2 + 1)), (by first | rfl | (simp; done) | (simp [*]; done)), H', ⟨by have := HK1.out; have := HK2.out; have := HJ8.out; have := HJ16.out; omega⟩, ⟨by repeat (first | (with_reducible first | exact HB.out | apply below_alloc | apply pw_below_drewN | apply below_drew1 | refine below_set ?_ GE108.out) | exact HB.out)⟩⟩
                                  · replace c40 := Bool.eq_false_iff.mpr c40
                                    subst c40
                                    have H1 : (if x7_16 = true then (spec_l10Litmus.l1 kj16 l0 x3_1 (wrap64 (x4_2 + 1))) else (some false)) = some r := by rw [if_neg (show ¬ (false = true) by decide)] at H; exact H
                                    clear H
                                    have H := H1
                                    clear H1
                                    by_cases c42 : x7_16 = true
                                    · subst c42
                                      have H1 : (spec_l10Litmus.l1 kj16 l0 x3_1 (wrap64 (x4_2 + 1))) = some r := by rw [if_pos rfl] at H; exact H
                                      clear H
                                      have H := H1
                                      clear H1
                                      have H' := Aside0.mk H
                                      clear H
                                      have hcz43_0 : wc.cell? ⟨gb108, 0, none⟩ = some (.int .i64 ((rd_T126 (rd_L4 l0 x3_1) x4_2).f0)) := (blk_cell BK108.out 0).trans rfl
                                      have hcz43_1 : wc.cell? ⟨gb108, 1, none⟩ = some (.int .i64 ((rd_T126 (rd_L4 l0 x3_1) x4_2).f1)) := (blk_cell BK108.out 1).trans rfl
                                      have hcz43_2 : wc.cell? ⟨gb108, 2, none⟩ = some (.int .i64 ((rd_T126 (rd_L4 l0 x3_1) x4_2).f2)) := (blk_cell BK108.out 2).trans rfl
                                      have hfz43_0 := blk_frozen BK108.out 0
                                      have hfz43_1 := blk_frozen BK108.out 1
                                      have hfz43_2 := blk_frozen BK108.out 2
                                      go_wp2
                                      go_roundg kj16
                                      case measure => have := HK1.out; have := HK2.out; have := HJ8.out; have := HJ16.out; omega
                                      case rel => exact ⟨(wrap64 (x4_2 + 1)), (by first | rfl | (simp; done) | (simp [*]; done)), H', ⟨by have := HK1.out; have := HK2.out; have := HJ8.out; have := HJ16.out; omega⟩, ⟨by repeat (first | (with_reducible first | exact HB.out | apply below_alloc | apply pw_below_drewN | apply below_drew1 | refine below_set ?_ GE108.out) | exact HB.out)⟩⟩
                                    · replace c42 := Bool.eq_false_iff.mpr c42
                                      subst c42
                                      have H1 : (some false) = some r := by rw [if_neg (show ¬ (false = true) by decide)] at H; exact H
                                      clear H
                                      have H := H1
                                      clear H1
                                      obtain rfl := Option.some.inj H
                                      have hcz44_0 : wc.cell? ⟨gb108, 0, none⟩ = some (.int .i64 ((rd_T126 (rd_L4 l0 x3_1) x4_2).f0)) := (blk_cell BK108.out 0).trans rfl
                                      have hcz44_1 : wc.cell? ⟨gb108, 1, none⟩ = some (.int .i64 ((rd_T126 (rd_L4 l0 x3_1) x4_2).f1)) := (blk_cell BK108.out 1).trans rfl
                                      have hcz44_2 : wc.cell? ⟨gb108, 2, none⟩ = some (.int .i64 ((rd_T126 (rd_L4 l0 x3_1) x4_2).f2)) := (blk_cell BK108.out 2).trans rfl
                                      have hfz44_0 := blk_frozen BK108.out 0
                                      have hfz44_1 := blk_frozen BK108.out 1
                                      have hfz44_2 := blk_frozen BK108.out 2
                                      go_wp2
                                      go_ret
                                      exact ⟨by first | rfl | (simp [errW_none, errW_some] <;> rfl) | (simp [*, errW_none, errW_some] <;> rfl), by repeat (first | (with_reducible first | exact HB.out | apply below_alloc | apply pw_below_drewN | apply below_drew1 | refine below_set ?_ GE108.out) | exact HB.out)⟩
                      · rw [if_neg c8] at H
                        exact absurd H (by simp)
                    · rw [if_neg c7] at H
                      have c7b0 : decide (x4_2 < ((rd_L4 l0 x3_1).length : Int)) = false := decide_eq_false c7
                      clear c7
                      have H' := Aside0.mk H
                      clear H
                      have p105 : 0 ≤ (x3_1 : Int) := of_decide_eq_true (by first | (with_reducible assumption) | assumption)
                      have q105 : x3_1 < (l0.length : Int) := of_decide_eq_true (by first | (with_reducible assumption) | assumption)
                      obtain ⟨ad105, A105_0, c105_0, e105, hx105_0, hl105_0, hi105_0⟩ := at_L4 HR0.out x3_1 p105 q105
                      obtain rfl : ad104 = ad105 := (by injection e105)
                      replace hx105_0 := (HB.out.cell (World.block_lt_of_cell? w _ hx105_0)).trans hx105_0
                      have HR105_0 := Aside0.mk hi105_0
                      have HC105_0 := Aside0.mk hl105_0
                      clear hi105_0 hl105_0
                      replace p105 := eq_true p105
                      replace q105 := eq_true q105
                      go_wp2
                      go_roundg k2
                      case measure => have := HK1.out; have := HK2.out; omega
                      case rel => exact ⟨(wrap64 (x3_1 + 1)), (by first | rfl | (simp; done) | (simp [*]; done)), H', ⟨by have := HK1.out; have := HK2.out; omega⟩, ⟨by repeat (first | (with_reducible first | exact HB.out | apply below_alloc | apply pw_below_drewN | apply below_drew1) | exact HB.out)⟩⟩
                  · rw [if_neg c6] at H
                    exact absurd H (by simp)
                · rw [if_neg c5] at H
                  exact absurd H (by simp)
        · rw [if_neg c3] at H
          exact absurd H (by simp)
      · rw [if_neg c2] at H
        have c2b0 : decide (x3_1 < (l0.length : Int)) = false := decide_eq_false c2
        clear c2
        replace H := Option.bind_eq_some_iff.mp H
        obtain ⟨t103, A450, H⟩ := H
        replace H : (some t103) = some r := H
        have A45 := Aside0.mk A450
        clear A450
        obtain rfl := Option.some.inj H
        go_wp2_with (first | ((with_reducible refine gate_callee (f := 134) rfl ?_); refine goesL_ (some 88) rfl rfl Try.func134 (by kernel_rfl) rfl #[.int .i64 (l0.length : Int), .int .i64 1, .int .i64 2] rfl (by (try simp only [List.map_toArray, List.map_cons, List.map_nil]); first | done | rfl | (simp only [List.length_drop, List.length_take]; rfl)) ?_; (with_reducible refine (spec_l00In.calls (l0.length : Int) 1 2 t103 _ A45.out).mono ?_); rintro e w' ⟨rfl, ⟨nd, rfl⟩⟩; refine ⟨_, rfl, ?_⟩))
        go_ret
        exact ⟨by first | rfl | (simp [errW_none, errW_some] <;> rfl) | (simp [*, errW_none, errW_some] <;> rfl), by repeat (first | (with_reducible first | exact HB.out | apply below_alloc | apply pw_below_drewN | apply below_drew1) | exact HB.out)⟩

/-! ### spec_ValidLitmus: function 29 -/
def spec_ValidLitmus.f (k : Nat) (l0 : List (List (S126))) : Option (Bool) := (spec_l10Litmus.f k l0).bind fun t112 => (some t112)
theorem spec_ValidLitmus.mono : ∀ a0 k, LeO (spec_ValidLitmus.f k a0) (spec_ValidLitmus.f (k + 1) a0) := by
  intro a0 k
  unfold spec_ValidLitmus.f
  repeat' first
      | (with_reducible exact spec_l10Litmus.mono _ _)
      | (with_reducible exact LeO.refl _)
      | (with_reducible exact LeO.none _)
      | (with_reducible refine LeO.ite ?_ ?_)
      | (with_reducible refine LeO.bind ?_ (fun _ => ?_))
      | exact spec_l10Litmus.mono _ _
      | exact LeO.none _
      | refine LeO.ite ?_ ?_
      | refine LeO.bind ?_ (fun _ => ?_)
set_option maxHeartbeats 8000000 in
set_option maxRecDepth 100000 in
theorem spec_ValidLitmus.calls (k : Nat) (A0 : Option Addr) (c0 : Nat) (l0 : List (List (S126))) (r : Bool) (w : World) (hr0 : Kd.C (Kd.slice 126 k126) w A0 l0.length l0) (hc0 : l0.length ≤ c0) (h : spec_ValidLitmus.f k l0 = some r) :
    Calls Try.prog 29 #[.slice A0 l0.length c0] w fun e w' => e = .returned (.bool r) ∧ Below w.heap.size w w' := by
  have HR0 := Aside0.mk hr0
  have HC0 := Aside0.mk hc0
  clear hr0 hc0
  have HB := Aside0.mk (Below.refl w.heap.size w)
  have H : ((spec_l10Litmus.f k l0).bind fun t112 => (some t112)) = some r := h
  clear h
  replace H := Option.bind_eq_some_iff.mp H
  obtain ⟨t112, A20, H⟩ := H
  replace H : (some t112) = some r := H
  have A2 := Aside0.mk A20
  clear A20
  obtain rfl := Option.some.inj H
  go_enter Try.func29, Try.ntmps29
  go_wp2_with (first | ((with_reducible refine gate_callee (f := 91) rfl ?_); refine goesL_ (some 4) rfl rfl Try.func91 (by kernel_rfl) rfl #[.slice A0 l0.length c0] rfl (by (try simp only [List.map_toArray, List.map_cons, List.map_nil]); first | done | rfl | (simp only [List.length_drop, List.length_take]; rfl)) ?_; (with_reducible refine (spec_l10Litmus.calls k _ _ l0 t112 _ ?side1 ?side2 A2.out).mono ?_); (case side1 => repeat (first | exact HR0.out | (with_reducible refine Kd.C_alloc ?_ _) | (with_reducible refine Kd.C_drewN ?_ _) | (with_reducible refine Kd.C_drew ?_))); (case side2 => exact HC0.out); rintro e w3 ⟨rfl, hb⟩; refine ⟨_, rfl, ?_⟩; have n0_ := Aside0.mk (below_step (by repeat (first | (with_reducible first | exact HB.out | apply below_alloc | apply pw_below_drewN | apply below_drew1) | exact HB.out)) hb); clear HB; have HB := n0_; clear n0_; (try clear hb); (try clear hb2); (try clear hk); (try clear hi)))
  go_ret
  exact ⟨by first | rfl | (simp [errW_none, errW_some] <;> rfl) | (simp [*, errW_none, errW_some] <;> rfl), by repeat (first | (with_reducible first | exact HB.out | apply below_alloc | apply pw_below_drewN | apply below_drew1) | exact HB.out)⟩

/-! ### laws_toStep: function 140 -/
def laws_toStep.f (a0_0 : Int) (a0_1 : Int) (a0_2 : Int) : Option (Int × Int × Int) := some (a0_0, a0_1, a0_2)
set_option maxHeartbeats 8000000 in
set_option maxRecDepth 100000 in
theorem laws_toStep.calls (a0_0 : Int) (a0_1 : Int) (a0_2 : Int) (r1 : Int) (r2 : Int) (r3 : Int) (w : World) (h : laws_toStep.f a0_0 a0_1 a0_2 = some (r1, r2, r3)) :
    Calls Try.prog 140 #[.agg #[.int .i64 a0_0, .int .i64 a0_1, .int .i64 a0_2]] w fun e w' => e = .returned (.agg #[.int .i64 r1, .int .i64 r2, .int .i64 r3]) ∧ Below w.heap.size w w' := by
  have hu186 := Try.underlying186
  have hu126 := Try.underlying126
  have HB := Aside0.mk (Below.refl w.heap.size w)
  have H : (some (a0_0, a0_1, a0_2)) = some (r1, r2, r3) := h
  clear h
  simp only [Option.some.injEq, Prod.mk.injEq] at H
  obtain ⟨rfl, rfl, rfl⟩ := H
  go_enter Try.func140, Try.ntmps140
  go_wp2_with (first | ((with_reducible refine gate_dst (N := 1) rfl ?_); refine box_event ?hg (N := 1) ?hd (cs := #[.int .i64 a0_0, .int .i64 a0_1, .int .i64 a0_2]) (t := 186) ?hr ?_; (case hd => rfl); (case hg => rfl); (case hr => first | (go_simp; done) | (go_simp; rfl)); intro gb113 hg w2 hbox hb; have n0_ := Aside0.mk (below_step (by repeat (first | (with_reducible first | exact HB.out | apply below_alloc | apply pw_below_drewN | apply below_drew1) | exact HB.out)) hb); have n1_ := Aside0.mk (hbox); have n2_ := Aside0.mk ((by rw [hg]; exact (below_size (by repeat (first | (with_reducible first | exact HB.out | apply below_alloc | apply pw_below_drewN | apply below_drew1) | exact HB.out))) : w.heap.size ≤ gb113)); have n3_ := Aside0.mk ((by rw [hg]; exact (below_size (by repeat (first | (with_reducible first | exact HB.out | apply below_alloc | apply pw_below_drewN | apply below_drew1) | exact HB.out))) : w.heap.size ≤ gb113)); clear HB; have HB := n0_; have BK113 := n1_; have GW113 := n2_; have GE113 := n3_; clear n0_ n1_ n2_ n3_; clear hb hbox hg) | ((with_reducible refine gate_dst (N := 2) rfl ?_); refine box_event ?hg (N := 2) ?hd (cs := #[.int .i64 0, .int .i64 0, .int .i64 0]) (t := 126) ?hr ?_; (case hd => rfl); (case hg => rfl); (case hr => first | (go_simp; done) | (go_simp; rfl)); intro gb114 hg w3 hbox hb; have n0_ := Aside0.mk (blk_below (g := gb113) (o := .cells #[.int .i64 a0_0, .int .i64 a0_1, .int .i64 a0_2] 186 (0, 0)) (by (with_reducible repeat (first | refine blk_drewN ?_ _ | refine blk_drew ?_ | refine blk_alloc ?_ _)); exact BK113.out) hb); have n1_ := Aside0.mk (below_step (by repeat (first | (with_reducible first | exact HB.out | apply below_alloc | apply pw_below_drewN | apply below_drew1 | refine below_set ?_ GE113.out) | exact HB.out)) hb); have n2_ := Aside0.mk (hbox); have n3_ := Aside0.mk ((by rw [hg]; exact (below_size (by repeat (first | (with_reducible first | exact HB.out | apply below_alloc | apply pw_below_drewN | apply below_drew1 | refine below_set ?_ GE113.out) | exact HB.out))) : w.heap.size ≤ gb114)); have n4_ := Aside0.mk ((by rw [hg]; exact (below_size (by repeat (first | (with_reducible first | exact HB.out | apply below_alloc | apply pw_below_drewN | apply below_drew1 | refine below_set ?_ GE113.out) | exact HB.out))) : w.heap.size ≤ gb114)); have n5_ := Aside0.mk ((by rw [hg]; exact Nat.ne_of_lt (blk_lt (g := gb113) (o := .cells #[.int .i64 a0_0, .int .i64 a0_1, .int .i64 a0_2] 186 (0, 0)) (by (with_reducible repeat (first | refine blk_drewN ?_ _ | refine blk_drew ?_ | refine blk_alloc ?_ _)); exact BK113.out)) : gb113 ≠ gb114)); have n6_ := Aside0.mk ((by rw [hg]; exact Nat.ne_of_gt (blk_lt (g := gb113) (o := .cells #[.int .i64 a0_0, .int .i64 a0_1, .int .i64 a0_2] 186 (0, 0)) (by (with_reducible repeat (first | refine blk_drewN ?_ _ | refine blk_drew ?_ | refine blk_alloc ?_ _)); exact BK113.out)) : gb114 ≠ gb113)); clear BK113; clear HB; have BK113 := n0_; have HB := n1_; have BK114 := n2_; have GW114 := n3_; have GE114 := n4_; have NB113_114 := n5_; have NB114_113 := n6_; clear n0_ n1_ n2_ n3_ n4_ n5_ n6_; clear hb hbox hg) | ((with_reducible refine gate_dst (N := 3) rfl ?_); refine box_event ?hg (N := 3) ?hd (cs := #[.int .i64 0, .int .i64 0, .int .i64 0]) (t := 126) ?hr ?_; (case hd => rfl); (case hg => rfl); (case hr => first | (go_simp; done) | (go_simp; rfl)); intro gb115 hg w4 hbox hb; have n0_ := Aside0.mk (blk_below (g := gb113) (o := .cells #[.int .i64 a0_0, .int .i64 a0_1, .int .i64 a0_2] 186 (0, 0)) (by (with_reducible repeat (first | refine blk_drewN ?_ _ | refine blk_drew ?_ | refine blk_alloc ?_ _)); exact BK113.out) hb); have n1_ := Aside0.mk (blk_below (g := gb114) (o := .cells #[.int .i64 0, .int .i64 0, .int .i64 0] 126 (0, 0)) (by (with_reducible repeat (first | refine blk_drewN ?_ _ | refine blk_drew ?_ | refine blk_alloc ?_ _)); exact BK114.out) hb); have n2_ := Aside0.mk (below_step (by repeat (first | (with_reducible first | exact HB.out | apply below_alloc | apply pw_below_drewN | apply below_drew1 | refine below_set ?_ GE113.out | refine below_set ?_ GE114.out) | exact HB.out)) hb); have n3_ := Aside0.mk (hbox); have n4_ := Aside0.mk ((by rw [hg]; exact (below_size (by repeat (first | (with_reducible first | exact HB.out | apply below_alloc | apply pw_below_drewN | apply below_drew1 | refine below_set ?_ GE113.out | refine below_set ?_ GE114.out) | exact HB.out))) : w.heap.size ≤ gb115)); have n5_ := Aside0.mk ((by rw [hg]; exact (below_size (by repeat (first | (with_reducible first | exact HB.out | apply below_alloc | apply pw_below_drewN | apply below_drew1 | refine below_set ?_ GE113.out | refine below_set ?_ GE114.out) | exact HB.out))) : w.heap.size ≤ gb115)); have n6_ := Aside0.mk ((by rw [hg]; exact Nat.ne_of_lt (blk_lt (g := gb113) (o := .cells #[.int .i64 a0_0, .int .i64 a0_1, .int .i64 a0_2] 186 (0, 0)) (by (with_reducible repeat (first | refine blk_drewN ?_ _ | refine blk_drew ?_ | refine blk_alloc ?_ _)); exact BK113.out)) : gb113 ≠ gb115)); have n7_ := Aside0.mk ((by rw [hg]; exact Nat.ne_of_gt (blk_lt (g := gb113) (o := .cells #[.int .i64 a0_0, .int .i64 a0_1, .int .i64 a0_2] 186 (0, 0)) (by (with_reducible repeat (first | refine blk_drewN ?_ _ | refine blk_drew ?_ | refine blk_alloc ?_ _)); exact BK113.out)) : gb115 ≠ gb113)); have n8_ := Aside0.mk ((by rw [hg]; exact Nat.ne_of_lt (blk_lt (g := gb114) (o := .cells #[.int .i64 0, .int .i64 0, .int .i64 0] 126 (0, 0)) (by (with_reducible repeat (first | refine blk_drewN ?_ _ | refine blk_drew ?_ | refine blk_alloc ?_ _)); exact BK114.out)) : gb114 ≠ gb115)); have n9_ := Aside0.mk ((by rw [hg]; exact Nat.ne_of_gt (blk_lt (g := gb114) (o := .cells #[.int .i64 0, .int .i64 0, .int .i64 0] 126 (0, 0)) (by (with_reducible repeat (first | refine blk_drewN ?_ _ | refine blk_drew ?_ | refine blk_alloc ?_ _)); exact BK114.out)) : gb115 ≠ gb114)); clear BK113; clear BK114; clear HB; have BK113 := n0_; have BK114 := n1_; have HB := n2_; have BK115 := n3_; have GW115 := n4_; have GE115 := n5_; have NB113_115 := n6_; have NB115_113 := n7_; have NB114_115 := n8_; have NB115_114 := n9_; clear n0_ n1_ n2_ n3_ n4_ n5_ n6_ n7_ n8_ n9_; clear hb hbox hg; have hnb5 := NB113_114.out; have hnc5 := NB114_113.out; have hnb6 := NB113_115.out; have hnc6 := NB115_113.out; have hcz7_0 : w4.cell? ⟨gb113, 0, none⟩ = some (.int .i64 a0_0) := (blk_cell BK113.out 0).trans rfl; have hcz7_1 : w4.cell? ⟨gb113, 1, none⟩ = some (.int .i64 a0_1) := (blk_cell BK113.out 1).trans rfl; have hcz7_2 : w4.cell? ⟨gb113, 2, none⟩ = some (.int .i64 a0_2) := (blk_cell BK113.out 2).trans rfl; have hfz7_0 := blk_frozen BK113.out 0; have hfz7_1 := blk_frozen BK113.out 1; have hfz7_2 := blk_frozen BK113.out 2; have hnb8 := NB115_114.out; have hnc8 := NB114_115.out; have hcz9_0 : w4.cell? ⟨gb115, 0, none⟩ = some (.int .i64 0) := (blk_cell BK115.out 0).trans rfl; have hcz9_1 : w4.cell? ⟨gb115, 1, none⟩ = some (.int .i64 0) := (blk_cell BK115.out 1).trans rfl; have hcz9_2 : w4.cell? ⟨gb115, 2, none⟩ = some (.int .i64 0) := (blk_cell BK115.out 2).trans rfl; have hfz9_0 := blk_frozen BK115.out 0; have hfz9_1 := blk_frozen BK115.out 1; have hfz9_2 := blk_frozen BK115.out 2; have hcz10_0 : w4.cell? ⟨gb114, 0, none⟩ = some (.int .i64 0) := (blk_cell BK114.out 0).trans rfl; have hcz10_1 : w4.cell? ⟨gb114, 1, none⟩ = some (.int .i64 0) := (blk_cell BK114.out 1).trans rfl; have hcz10_2 : w4.cell? ⟨gb114, 2, none⟩ = some (.int .i64 0) := (blk_cell BK114.out 2).trans rfl; have hfz10_0 := blk_frozen BK114.out 0; have hfz10_1 := blk_frozen BK114.out 1; have hfz10_2 := blk_frozen BK114.out 2))
  refine bodyPost_ret (results_cell_row rfl _ _ gb114 126 #[.int .i64 a0_0, .int .i64 a0_1, .int .i64 a0_2] (0, 0) _ rfl (by (with_reducible repeat (first | refine blk_drewN ?_ _ | refine blk_drew ?_ | refine blk_alloc ?_ _)); refine blk_put (cs := #[.int .i64 a0_0, .int .i64 a0_1, .int .i64 0]) ?_ 2 _ rfl; (with_reducible repeat (first | refine blk_drewN ?_ _ | refine blk_drew ?_ | refine blk_alloc ?_ _)); refine blk_put (cs := #[.int .i64 a0_0, .int .i64 0, .int .i64 0]) ?_ 1 _ rfl; (with_reducible repeat (first | refine blk_drewN ?_ _ | refine blk_drew ?_ | refine blk_alloc ?_ _)); refine blk_put (cs := #[.int .i64 0, .int .i64 0, .int .i64 0]) ?_ 0 _ rfl; (with_reducible repeat (first | refine blk_drewN ?_ _ | refine blk_drew ?_ | refine blk_alloc ?_ _)); refine blk_far ?_ NB114_115.out _; (with_reducible repeat (first | refine blk_drewN ?_ _ | refine blk_drew ?_ | refine blk_alloc ?_ _)); refine blk_far ?_ NB114_115.out _; (with_reducible repeat (first | refine blk_drewN ?_ _ | refine blk_drew ?_ | refine blk_alloc ?_ _)); refine blk_far ?_ NB114_115.out _; (with_reducible repeat (first | refine blk_drewN ?_ _ | refine blk_drew ?_ | refine blk_alloc ?_ _)); exact BK114.out) Try.underlying126 rfl (by kernel_rfl)) rfl ?_
  exact ⟨by first | rfl | (simp [errW_none, errW_some] <;> rfl) | (simp [*, errW_none, errW_some] <;> rfl), by repeat (first | (with_reducible first | exact HB.out | apply below_alloc | apply pw_below_drewN | apply below_drew1 | refine below_set ?_ GE113.out | refine below_set ?_ GE114.out | refine below_set ?_ GE115.out) | exact HB.out)⟩

end Go.Proofs.Ytnocikchdkaabaa.PFnExactValidLitmus
