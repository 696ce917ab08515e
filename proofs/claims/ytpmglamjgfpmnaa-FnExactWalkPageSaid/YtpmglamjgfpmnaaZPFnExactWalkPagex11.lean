-- Printed by this session's own program (wip/tools/xprint.py) over the kit's print; not trusted: Lean checks it.
import Derived.Test.YtpmglamjgfpmnaaZPFnExactWalkPagex0
import Derived.Test.YtpmglamjgfpmnaaZPFnExactWalkPagex9
import Derived.Test.YtpmglamjgfpmnaaZPFnExactWalkPagex10
namespace Go.Proofs.Ytpmglamjgfpmnaa.PFnExactWalkPage
open Go.RowKit Go.Proofs.YtpmglamjgfpmnaaW.PrintWords Go.Proofs.YtpmglamjgfpmnaaW.PrintLast Go.Proofs.YtpmglamjgfpmnaaW.PrintMore
attribute [local go_sem] max2_int min2_int max_two min_two max_three min_three max_four min_four   -- for this text's walks alone
set_option linter.unusedVariables false
set_option linter.unusedSimpArgs false

/-! ### impl_isPage: function 41 -/
def impl_isPage.f (l0_0 : List Int) (l0_1 : List (List (S37))) (l0_2 : List (S53)) (a1 : Int) : Option (Bool) := (impl_ValidSpace.f l0_0 l0_1 l0_2).bind fun t246 => (if t246 = true then ((impl_isAddress.f a1).bind fun t247 => (some t247)) else (some false))
set_option maxHeartbeats 8000000 in
set_option maxRecDepth 100000 in
theorem impl_isPage.calls (A0_0 : Option Addr) (c0_0 : Nat) (l0_0 : List Int) (A0_1 : Option Addr) (c0_1 : Nat) (l0_1 : List (List (S37))) (A0_2 : Option Addr) (c0_2 : Nat) (l0_2 : List (S53)) (a1 : Int) (r : Bool) (w : World) (hr0_0 : Kd.C (Kd.int .i64) w A0_0 l0_0.length l0_0) (hc0_0 : l0_0.length ≤ c0_0) (hr0_1 : Kd.C (Kd.slice 37 k37) w A0_1 l0_1.length l0_1) (hc0_1 : l0_1.length ≤ c0_1) (hr0_2 : Kd.C k53 w A0_2 l0_2.length l0_2) (hc0_2 : l0_2.length ≤ c0_2) (h : impl_isPage.f l0_0 l0_1 l0_2 a1 = some r) :
    Calls Try.prog 41 #[.agg #[.slice A0_0 l0_0.length c0_0, .slice A0_1 l0_1.length c0_1, .slice A0_2 l0_2.length c0_2], .int .i64 a1] w fun e w' => e = .returned (.bool r) ∧ Below w.heap.size w w' := by
  have hu32 := Try.underlying32
  have HR0_0 := Aside0.mk hr0_0
  have HC0_0 := Aside0.mk hc0_0
  clear hr0_0 hc0_0
  have HR0_1 := Aside0.mk hr0_1
  have HC0_1 := Aside0.mk hc0_1
  clear hr0_1 hc0_1
  have HR0_2 := Aside0.mk hr0_2
  have HC0_2 := Aside0.mk hc0_2
  clear hr0_2 hc0_2
  have HB := Aside0.mk (Below.refl w.heap.size w)
  have H : ((impl_ValidSpace.f l0_0 l0_1 l0_2).bind fun t246 => (if t246 = true then ((impl_isAddress.f a1).bind fun t247 => (some t247)) else (some false))) = some r := h
  clear h
  replace H := Option.bind_eq_some_iff.mp H
  obtain ⟨t246, A30, H⟩ := H
  replace H : (if t246 = true then ((impl_isAddress.f a1).bind fun t247 => (some t247)) else (some false)) = some r := H
  have A3 := Aside0.mk A30
  clear A30
  by_cases c4 : t246 = true
  · subst c4
    have H1 : ((impl_isAddress.f a1).bind fun t247 => (some t247)) = some r := by rw [if_pos rfl] at H; exact H
    clear H
    have H := H1
    clear H1
    replace H := Option.bind_eq_some_iff.mp H
    obtain ⟨t247, A50, H⟩ := H
    replace H : (some t247) = some r := H
    have A5 := Aside0.mk A50
    clear A50
    obtain rfl := Option.some.inj H
    go_enter Try.func41, Try.ntmps41
    go_wp2_with (first | ((with_reducible refine gate_dst (N := 2) rfl ?_); refine box_event ?hg (N := 2) ?hd (cs := #[.slice A0_0 l0_0.length c0_0, .slice A0_1 l0_1.length c0_1, .slice A0_2 l0_2.length c0_2]) (t := 32) ?hr ?_; (case hd => rfl); (case hg => rfl); (case hr => first | (go_simp; done) | (go_simp; rfl)); intro gb245 hg w6 hbox hb; have n0_ := Aside0.mk (below_step (by repeat (first | (with_reducible first | exact HB.out | apply below_alloc | apply pw_below_drewN | apply below_drew1) | exact HB.out)) hb); have n1_ := Aside0.mk (hbox); have n2_ := Aside0.mk ((by rw [hg]; exact (below_size (by repeat (first | (with_reducible first | exact HB.out | apply below_alloc | apply pw_below_drewN | apply below_drew1) | exact HB.out))) : w.heap.size ≤ gb245)); have n3_ := Aside0.mk ((by rw [hg]; exact (below_size (by repeat (first | (with_reducible first | exact HB.out | apply below_alloc | apply pw_below_drewN | apply below_drew1) | exact HB.out))) : w.heap.size ≤ gb245)); clear HB; have HB := n0_; have BK245 := n1_; have GW245 := n2_; have GE245 := n3_; clear n0_ n1_ n2_ n3_; clear hb hbox hg; have hcz7_0 : w6.cell? ⟨gb245, 0, none⟩ = some (.slice A0_0 l0_0.length c0_0) := (blk_cell BK245.out 0).trans rfl; have hcz7_1 : w6.cell? ⟨gb245, 1, none⟩ = some (.slice A0_1 l0_1.length c0_1) := (blk_cell BK245.out 1).trans rfl; have hcz7_2 : w6.cell? ⟨gb245, 2, none⟩ = some (.slice A0_2 l0_2.length c0_2) := (blk_cell BK245.out 2).trans rfl; have hfz7_0 := blk_frozen BK245.out 0; have hfz7_1 := blk_frozen BK245.out 1; have hfz7_2 := blk_frozen BK245.out 2) | ((with_reducible refine gate_callee (f := 34) rfl ?_); refine goesL_ (some 6) rfl rfl Try.func34 (by kernel_rfl) rfl #[.agg #[.slice A0_0 l0_0.length c0_0, .slice A0_1 l0_1.length c0_1, .slice A0_2 l0_2.length c0_2]] rfl (by (try simp only [List.map_toArray, List.map_cons, List.map_nil]); first | done | rfl | (simp only [List.length_drop, List.length_take]; rfl)) ?_; (with_reducible refine (impl_ValidSpace.calls _ _ l0_0 _ _ l0_1 _ _ l0_2 true _ ?side1 ?side2 ?side3 ?side4 ?side5 ?side6 A3.out).mono ?_); (case side1 => repeat (first | exact (Kd.C_below HR0_0.out HB.out) | (with_reducible refine Kd.C_alloc ?_ _) | (with_reducible refine Kd.C_drewN ?_ _) | (with_reducible refine Kd.C_drew ?_))); (case side2 => exact HC0_0.out); (case side3 => repeat (first | exact (Kd.C_below HR0_1.out HB.out) | (with_reducible refine Kd.C_alloc ?_ _) | (with_reducible refine Kd.C_drewN ?_ _) | (with_reducible refine Kd.C_drew ?_))); (case side4 => exact HC0_1.out); (case side5 => repeat (first | exact (Kd.C_below HR0_2.out HB.out) | (with_reducible refine Kd.C_alloc ?_ _) | (with_reducible refine Kd.C_drewN ?_ _) | (with_reducible refine Kd.C_drew ?_))); (case side6 => exact HC0_2.out); rintro e w8 ⟨rfl, hb⟩; refine ⟨_, rfl, ?_⟩; have n0_ := Aside0.mk (blk_below (g := gb245) (o := .cells #[.slice A0_0 l0_0.length c0_0, .slice A0_1 l0_1.length c0_1, .slice A0_2 l0_2.length c0_2] 32 (0, 0)) (by (with_reducible repeat (first | refine blk_drewN ?_ _ | refine blk_drew ?_ | refine blk_alloc ?_ _)); exact BK245.out) hb); have n1_ := Aside0.mk (below_step (by repeat (first | (with_reducible first | exact HB.out | apply below_alloc | apply pw_below_drewN | apply below_drew1 | refine below_set ?_ GE245.out) | exact HB.out)) hb); clear BK245; clear HB; have BK245 := n0_; have HB := n1_; clear n0_ n1_; (try clear hb); (try clear hb2); (try clear hk); (try clear hi)) | (go_at_call 68; (with_reducible refine (impl_isAddress.calls a1 t247 _ A5.out).mono ?_); rintro e w' ⟨rfl, ⟨nd, rfl⟩⟩))
    go_ret
    exact ⟨by first | rfl | (simp [errW_none, errW_some] <;> rfl) | (simp [*, errW_none, errW_some] <;> rfl), by repeat (first | (with_reducible first | exact HB.out | apply below_alloc | apply pw_below_drewN | apply below_drew1 | refine below_set ?_ GE245.out) | exact HB.out)⟩
  · replace c4 := Bool.eq_false_iff.mpr c4
    subst c4
    have H1 : (some false) = some r := by rw [if_neg (show ¬ (false = true) by decide)] at H; exact H
    clear H
    have H := H1
    clear H1
    obtain rfl := Option.some.inj H
    go_enter Try.func41, Try.ntmps41
    go_wp2_with (first | ((with_reducible refine gate_dst (N := 2) rfl ?_); refine box_event ?hg (N := 2) ?hd (cs := #[.slice A0_0 l0_0.length c0_0, .slice A0_1 l0_1.length c0_1, .slice A0_2 l0_2.length c0_2]) (t := 32) ?hr ?_; (case hd => rfl); (case hg => rfl); (case hr => first | (go_simp; done) | (go_simp; rfl)); intro gb245 hg w9 hbox hb; have n0_ := Aside0.mk (below_step (by repeat (first | (with_reducible first | exact HB.out | apply below_alloc | apply pw_below_drewN | apply below_drew1) | exact HB.out)) hb); have n1_ := Aside0.mk (hbox); have n2_ := Aside0.mk ((by rw [hg]; exact (below_size (by repeat (first | (with_reducible first | exact HB.out | apply below_alloc | apply pw_below_drewN | apply below_drew1) | exact HB.out))) : w.heap.size ≤ gb245)); have n3_ := Aside0.mk ((by rw [hg]; exact (below_size (by repeat (first | (with_reducible first | exact HB.out | apply below_alloc | apply pw_below_drewN | apply below_drew1) | exact HB.out))) : w.heap.size ≤ gb245)); clear HB; have HB := n0_; have BK245 := n1_; have GW245 := n2_; have GE245 := n3_; clear n0_ n1_ n2_ n3_; clear hb hbox hg; have hcz10_0 : w9.cell? ⟨gb245, 0, none⟩ = some (.slice A0_0 l0_0.length c0_0) := (blk_cell BK245.out 0).trans rfl; have hcz10_1 : w9.cell? ⟨gb245, 1, none⟩ = some (.slice A0_1 l0_1.length c0_1) := (blk_cell BK245.out 1).trans rfl; have hcz10_2 : w9.cell? ⟨gb245, 2, none⟩ = some (.slice A0_2 l0_2.length c0_2) := (blk_cell BK245.out 2).trans rfl; have hfz10_0 := blk_frozen BK245.out 0; have hfz10_1 := blk_frozen BK245.out 1; have hfz10_2 := blk_frozen BK245.out 2) | ((with_reducible refine gate_callee (f := 34) rfl ?_); refine goesL_ (some 6) rfl rfl Try.func34 (by kernel_rfl) rfl #[.agg #[.slice A0_0 l0_0.length c0_0, .slice A0_1 l0_1.length c0_1, .slice A0_2 l0_2.length c0_2]] rfl (by (try simp only [List.map_toArray, List.map_cons, List.map_nil]); first | done | rfl | (simp only [List.length_drop, List.length_take]; rfl)) ?_; (with_reducible refine (impl_ValidSpace.calls _ _ l0_0 _ _ l0_1 _ _ l0_2 false _ ?side1 ?side2 ?side3 ?side4 ?side5 ?side6 A3.out).mono ?_); (case side1 => repeat (first | exact (Kd.C_below HR0_0.out HB.out) | (with_reducible refine Kd.C_alloc ?_ _) | (with_reducible refine Kd.C_drewN ?_ _) | (with_reducible refine Kd.C_drew ?_))); (case side2 => exact HC0_0.out); (case side3 => repeat (first | exact (Kd.C_below HR0_1.out HB.out) | (with_reducible refine Kd.C_alloc ?_ _) | (with_reducible refine Kd.C_drewN ?_ _) | (with_reducible refine Kd.C_drew ?_))); (case side4 => exact HC0_1.out); (case side5 => repeat (first | exact (Kd.C_below HR0_2.out HB.out) | (with_reducible refine Kd.C_alloc ?_ _) | (with_reducible refine Kd.C_drewN ?_ _) | (with_reducible refine Kd.C_drew ?_))); (case side6 => exact HC0_2.out); rintro e w11 ⟨rfl, hb⟩; refine ⟨_, rfl, ?_⟩; have n0_ := Aside0.mk (blk_below (g := gb245) (o := .cells #[.slice A0_0 l0_0.length c0_0, .slice A0_1 l0_1.length c0_1, .slice A0_2 l0_2.length c0_2] 32 (0, 0)) (by (with_reducible repeat (first | refine blk_drewN ?_ _ | refine blk_drew ?_ | refine blk_alloc ?_ _)); exact BK245.out) hb); have n1_ := Aside0.mk (below_step (by repeat (first | (with_reducible first | exact HB.out | apply below_alloc | apply pw_below_drewN | apply below_drew1 | refine below_set ?_ GE245.out) | exact HB.out)) hb); clear BK245; clear HB; have BK245 := n0_; have HB := n1_; clear n0_ n1_; (try clear hb); (try clear hb2); (try clear hk); (try clear hi)))
    go_ret
    exact ⟨by first | rfl | (simp [errW_none, errW_some] <;> rfl) | (simp [*, errW_none, errW_some] <;> rfl), by repeat (first | (with_reducible first | exact HB.out | apply below_alloc | apply pw_below_drewN | apply below_drew1 | refine below_set ?_ GE245.out) | exact HB.out)⟩

/-! ### impl_WalkPage: function 14 -/
theorem rising_range : ∀ (s : List Int) (a : Int), s.Pairwise (· < ·) → (∀ x ∈ s, a ≤ x ∧ x ≤ a + s.length - 1) → s = (List.range s.length).map fun (j : Nat) => a + (j : Int)
  | [], _, _, _ => rfl
  | x :: t, a, hp, hb => by
    rw [List.pairwise_cons] at hp
    have hx := hb x List.mem_cons_self
    have ht : t = (List.range t.length).map fun (j : Nat) => (a + 1) + (j : Int) := by
      refine rising_range t (a + 1) hp.2 (fun y hy => ?_)
      have h1 := hp.1 y hy
      have h2 := hb y (List.mem_cons_of_mem _ hy)
      rw [List.length_cons] at h2
      omega
    have e : x = a := by
      by_cases h0 : t.length = 0
      · rw [List.length_cons] at hx; omega
      · have hm : (a + 1) ∈ t := by
          rw [ht]
          exact List.mem_map.2 ⟨0, by simp only [List.mem_range, List.length_map, List.length_range]; omega, by simp⟩
        have := hp.1 _ hm
        omega
    subst e
    rw [List.length_cons, List.range_succ_eq_map, List.map_cons, List.map_map]
    congr 1
    · simp
    · conv => lhs; rw [ht]
      refine List.map_congr_left (fun j _ => ?_)
      simp only [Function.comp_apply]
      omega
theorem orderB_iff (l : List Int) (n : Int) : orderB l n = true ↔ (l.length : Int) = n ∧ (∀ x ∈ l, 0 ≤ x ∧ x ≤ n - 1) ∧ l.Nodup := by
  unfold orderB
  rw [Bool.and_eq_true, decide_eq_true_eq, decide_eq_true_eq]
  constructor
  · rintro ⟨h1, h2⟩
    have hp := sortI_perm l
    refine ⟨h1, fun x hx => ?_, ?_⟩
    · have hx' := hp.mem_iff.2 hx
      rw [h2] at hx'
      obtain ⟨j, hj, rfl⟩ := List.mem_map.1 hx'
      rw [List.mem_range] at hj
      omega
    · refine hp.nodup_iff.1 ?_
      rw [h2]
      unfold List.Nodup
      rw [List.pairwise_map]
      exact List.Pairwise.imp (fun h => by omega) (List.pairwise_lt_range (n := l.length))
  · rintro ⟨h1, h2, h3⟩
    refine ⟨h1, ?_⟩
    have hp := sortI_perm l
    have hn : (sortI l).Nodup := hp.nodup_iff.2 h3
    have hlt : (sortI l).Pairwise (· < ·) := by
      have a := (sortI_le l)
      exact (List.Pairwise.and a hn).imp (fun h => by omega)
    have := rising_range (sortI l) 0 hlt (fun x hx => by
      have := h2 x (hp.mem_iff.1 hx)
      rw [sortI_length]; omega)
    rw [this, sortI_length]
    refine List.map_congr_left (fun j _ => ?_)
    omega
theorem used_mem' (root : List Int) (x : Int) : x ∈ usedL root ↔ x ∈ root ∧ x ≠ -1 := by
  unfold usedL
  rw [List.mem_filter]
  simp
theorem badT_len {t : List S37} (h : badT t = false) : t.length = 8 := by
  unfold badT at h
  rw [Bool.or_eq_false_iff] at h
  have : ((t.length : Int) == 8) = true := by simpa using h.1
  have := beq_iff_eq.1 this
  omega
theorem badT_ent {t : List S37} (h : badT t = false) : ∀ y ∈ t, entB y = true := by
  unfold badT at h
  rw [Bool.or_eq_false_iff, List.any_eq_false] at h
  intro y hy
  have := h.2 y hy
  simpa using this
theorem spaceB_facts {root : List Int} {tabs : List (List S37)} {buf : List S53} (h : spaceB root tabs buf = true) :
    root.length = 8 ∧ tabs.length ≤ 8 ∧ buf.length ≤ 4 ∧ (∀ r ∈ root, r < (tabs.length : Int)) ∧ (∀ t ∈ tabs, t.length = 8) ∧ (∀ c ∈ buf, 0 ≤ c.f0 ∧ c.f0 < 64) ∧ (∀ t ∈ tabs, ∀ y ∈ t, entB y = true) ∧ orderB (usedL root) (tabs.length : Int) = true := by
  unfold spaceB restB condB at h
  simp only [Bool.and_eq_true, Bool.not_eq_true', beq_iff_eq, decide_eq_false_iff_not] at h
  obtain ⟨⟨h1, h2, h3, h4⟩, h5, h6, h7⟩ := h
  have ho := (orderB_iff _ _).1 h3
  rw [List.any_eq_false] at h5 h6
  refine ⟨by omega, by omega, by omega, fun r hr => ?_, fun t ht => badT_len (by simpa using h5 t ht), fun c hc => ?_, fun t ht => badT_ent (by simpa using h5 t ht), h3⟩
  · by_cases e : r = -1
    · omega
    · have := ho.2.1 r ((used_mem' root r).2 ⟨hr, e⟩)
      omega
  · obtain ⟨i, hi, rfl⟩ := List.getElem_of_mem hc
    have := h6 i (List.mem_range.2 hi)
    unfold badAt at this
    rw [getD_lt buf i _ hi] at this
    simp at this
    omega
theorem isPage_f (root : List Int) (tabs : List (List S37)) (buf : List S53) (p : Int) (h : root.length ≤ 1048576) : impl_isPage.f root tabs buf p = some (spaceB root tabs buf && (decide (0 ≤ p) && decide (p ≤ 63))) := by
  unfold impl_isPage.f impl_ValidSpace.f
  rw [if_pos h, Option.bind_some]
  cases spaceB root tabs buf with
  | false => rfl
  | true =>
    rw [if_pos rfl]
    unfold impl_isAddress.f impl_inRange.f
    by_cases h0 : 0 ≤ p <;> simp [h0]
/-- The entry of a page, if a table has one. -/
def walkE (root : List Int) (tabs : List (List S37)) (p : Int) : Option S37 := if rd root (p / 8) < 0 then none else some ((tabs.getD (rd root (p / 8)).toNat []).getD (p % 8).toNat z37)
/-- What stands at an address reads as an entry. -/
def EntAt (w : World) (ad : Addr) (y : S37) : Prop := w.cell? ad = some (.int .i64 y.f0) ∧ w.cell? ⟨ad.block, ad.off + 1, none⟩ = some (.bool y.f1) ∧ w.cell? ⟨ad.block, ad.off + 2, none⟩ = some (.bool y.f2) ∧ w.cell? ⟨ad.block, ad.off + 3, none⟩ = some (.bool y.f3)
theorem EntAt.below {w w' : World} {ad : Addr} {y : S37} (h : EntAt w ad y) (hb : Below w.heap.size w w') : EntAt w' ad y :=
  ⟨pw_cell_below hb h.1, pw_cell_below hb h.2.1, pw_cell_below hb h.2.2.1, pw_cell_below hb h.2.2.2⟩
def PtrTo (w : World) : Option Addr → Option S37 → Prop
  | none, none => True
  | some ad, some y => EntAt w ad y
  | _, _ => False
set_option maxHeartbeats 400000 in
theorem xEntry (A0 : Option Addr) (c0 : Nat) (root : List Int) (A1 : Option Addr) (c1 : Nat) (tabs : List (List S37)) (A2 : Option Addr) (c2 : Nat) (buf : List S53) (page : Int) (w : World) (hr0 : Kd.C (Kd.int .i64) w A0 root.length root) (hr1 : Kd.C (Kd.slice 37 k37) w A1 tabs.length tabs)
    (h0 : 0 ≤ page) (h1 : page < 64) (h8 : root.length = 8) (hin : ∀ r ∈ root, r < (tabs.length : Int)) (ht : ∀ t ∈ tabs, t.length = 8) :
    Calls Try.prog 73 #[.agg #[.slice A0 root.length c0, .slice A1 tabs.length c1, .slice A2 buf.length c2], .int .i64 page] w fun e w' => (∃ p, e = .returned (.pointer p) ∧ PtrTo w' p (walkE root tabs page)) ∧ Below w.heap.size w w' := by
  obtain ⟨q, hq⟩ : ∃ q, IntKind.i64.wrap (Int.tdiv page 8) = q := ⟨_, rfl⟩
  have eq : q = page / 8 := by rw [← hq, i64_w, Int.tdiv_eq_ediv_of_nonneg h0]; exact wrap_id (by omega) (by omega)
  have q0 : 0 ≤ q := by omega
  have q1 : q < (root.length : Int) := by omega
  obtain ⟨m, hm⟩ : ∃ m, Int.tmod page 8 = m := ⟨_, rfl⟩
  have em : m = page % 8 := by rw [← hm, Int.tmod_eq_emod_of_nonneg h0]
  obtain ⟨t, htt⟩ : ∃ t, rd root q = t := ⟨_, rfl⟩
  have hrt : t ∈ root := by
    rw [← htt]; unfold rd; rw [getD_lt root q.toNat 0 (by omega)]; exact List.getElem_mem _
  have t1 := hin t hrt
  obtain ⟨ad0, e0, hx0⟩ := at_int hr0 q.toNat (by omega)
  subst e0
  rw [show root.getD q.toNat 0 = t from htt] at hx0
  have hE : walkE root tabs page = if t < 0 then none else some ((tabs.getD t.toNat []).getD m.toNat z37) := by
    unfold walkE; rw [← eq, htt, em]
  rw [hE]
  by_cases tn : t < 0
  · rw [if_pos tn]
    have tnb : decide (t < 0) = true := decide_eq_true tn
    clear eq em h8 hin ht hrt htt hE h0 h1 tn
    go_enter Try.func73, Try.ntmps73
    go_wp2_with ((with_reducible refine gate_dst (N := 2) rfl ?_); refine box_event ?hg (N := 2) ?hd (cs := #[.slice (some ad0) root.length c0, .slice A1 tabs.length c1, .slice A2 buf.length c2]) (t := 32) ?hr ?_; (case hd => rfl); (case hg => rfl); (case hr => first | (go_simp; done) | (go_simp; rfl)); intro gb hgb w1 hbox hb; have q0_ := (blk_cell hbox 0).trans rfl; have q1_ := (blk_cell hbox 1).trans rfl; have hx0 := pw_cell_below hb hx0; clear hbox hgb)
    go_ret
    exact ⟨⟨none, rfl, trivial⟩, hb⟩
  · rw [if_neg tn]
    have tnb : decide (t < 0) = false := decide_eq_false tn
    have t0 : 0 ≤ t := by omega
    have hlt : t.toNat < tabs.length := by omega
    obtain ⟨ad, B, cB, e1, hx1, hcB, hC⟩ := at_row hr1 t.toNat hlt
    subst e1
    have hrow : (tabs.getD t.toNat []).length = 8 := ht _ (by rw [getD_lt tabs _ _ hlt]; exact List.getElem_mem _)
    generalize tabs.getD t.toNat [] = row at hx1 hcB hC hrow ⊢
    have m0 : 0 ≤ m := by omega
    have m1 : m < (row.length : Int) := by omega
    obtain ⟨ad2, e2, hy0, hy1, hy2, hy3⟩ := at_T37 hC m m0 m1
    subst e2
    clear eq em h8 hin ht hrt htt hE h0 h1 tn hrow hlt
    go_enter Try.func73, Try.ntmps73
    go_wp2_with ((with_reducible refine gate_dst (N := 2) rfl ?_); refine box_event ?hg (N := 2) ?hd (cs := #[.slice (some ad0) root.length c0, .slice (some ad) tabs.length c1, .slice A2 buf.length c2]) (t := 32) ?hr ?_; (case hd => rfl); (case hg => rfl); (case hr => first | (go_simp; done) | (go_simp; rfl)); intro gb hgb w1 hbox hb; have q0_ := (blk_cell hbox 0).trans rfl; have q1_ := (blk_cell hbox 1).trans rfl; have hx0 := pw_cell_below hb hx0; have hx1 := pw_cell_below hb hx1; clear hbox hgb)
    go_ret
    exact ⟨⟨_, rfl, EntAt.below ⟨hy0, hy1, hy2, hy3⟩ hb⟩, hb⟩
/-- The entry of a mapped page. -/
def mapE (root : List Int) (tabs : List (List S37)) (p : Int) : Option S37 := match walkE root tabs p with
  | none => none
  | some y => if y.f0 < 0 then none else some y
set_option maxHeartbeats 400000 in
theorem xMapped (A0 : Option Addr) (c0 : Nat) (root : List Int) (A1 : Option Addr) (c1 : Nat) (tabs : List (List S37)) (A2 : Option Addr) (c2 : Nat) (buf : List S53) (page : Int) (w : World) (hr0 : Kd.C (Kd.int .i64) w A0 root.length root) (hr1 : Kd.C (Kd.slice 37 k37) w A1 tabs.length tabs)
    (h0 : 0 ≤ page) (h1 : page < 64) (h8 : root.length = 8) (hin : ∀ r ∈ root, r < (tabs.length : Int)) (ht : ∀ t ∈ tabs, t.length = 8) :
    Calls Try.prog 37 #[.agg #[.slice A0 root.length c0, .slice A1 tabs.length c1, .slice A2 buf.length c2], .int .i64 page] w fun e w' => (∃ p, e = .returned (.pointer p) ∧ PtrTo w' p (mapE root tabs page)) ∧ Below w.heap.size w w' := by
  have HC := Aside0.mk (fun W (hb : Below w.heap.size w W) => xEntry A0 c0 root A1 c1 tabs A2 c2 buf page W (Kd.C_below hr0 hb) (Kd.C_below hr1 hb) h0 h1 h8 hin ht)
  have HB := below_alloc (Below.refl w.heap.size w)
  unfold mapE
  generalize walkE root tabs page = E at HC ⊢
  clear hr0 hr1 hin ht h8 h0 h1
  go_enter Try.func37, Try.ntmps37
  go_wp2_with fail
  refine (HC.out _ (HB _)).mono ?_
  rintro e w' ⟨⟨p, rfl, hp⟩, hb⟩
  have hB := below_le (HB _) hb
  cases E with
  | none =>
    cases p with
    | some ad => exact absurd hp id
    | none =>
      go_wp2
      go_ret
      exact ⟨⟨none, rfl, trivial⟩, hB⟩
  | some y =>
    cases p with
    | none => exact absurd hp id
    | some ad =>
      have hq : EntAt w' ad y := hp
      by_cases hy : y.f0 < 0
      · have hyb : decide (y.f0 < 0) = true := decide_eq_true hy
        have hx0 := hq.1
        simp only [if_pos hy]
        go_wp2
        go_ret
        exact ⟨⟨none, rfl, trivial⟩, hB⟩
      · have hyb : decide (y.f0 < 0) = false := decide_eq_false hy
        have hx0 := hq.1
        simp only [if_neg hy]
        go_wp2
        go_ret
        exact ⟨⟨some ad, rfl, hq⟩, hB⟩
def walkR (root : List Int) (tabs : List (List S37)) (buf : List S53) (p : Int) : Int × Bool × Bool × Bool × Bool := if (spaceB root tabs buf && (decide (0 ≤ p) && decide (p ≤ 63))) = true then (match mapE root tabs p with
  | none => (0, false, false, false, false)
  | some y => (y.f0, y.f1, y.f2, y.f3, true)) else (0, false, false, false, false)
def impl_WalkPage.f (root : List Int) (tabs : List (List S37)) (buf : List S53) (p : Int) : Option (Int × Bool × Bool × Bool × Bool) := if root.length ≤ 1048576 then some (walkR root tabs buf p) else none
set_option maxHeartbeats 800000 in
set_option maxRecDepth 100000 in
theorem xWalkPage (A0 : Option Addr) (c0 : Nat) (root : List Int) (A1 : Option Addr) (c1 : Nat) (tabs : List (List S37)) (A2 : Option Addr) (c2 : Nat) (buf : List S53) (page : Int) (w : World) (hr0 : Kd.C (Kd.int .i64) w A0 root.length root) (hc0 : root.length ≤ c0) (hr1 : Kd.C (Kd.slice 37 k37) w A1 tabs.length tabs) (hc1 : tabs.length ≤ c1) (hr2 : Kd.C k53 w A2 buf.length buf) (hc2 : buf.length ≤ c2) (hl : root.length ≤ 1048576) :
    Calls Try.prog 14 #[.agg #[.slice A0 root.length c0, .slice A1 tabs.length c1, .slice A2 buf.length c2], .int .i64 page] w fun e w' => e = .returned (.tuple #[.agg #[.int .i64 (walkR root tabs buf page).1, .bool (walkR root tabs buf page).2.1, .bool (walkR root tabs buf page).2.2.1, .bool (walkR root tabs buf page).2.2.2.1], .bool (walkR root tabs buf page).2.2.2.2]) ∧ Below w.heap.size w w' := by
  have HP := isPage_f root tabs buf page hl
  unfold walkR
  cases hB : (spaceB root tabs buf && (decide (0 ≤ page) && decide (page ≤ 63))) with
  | false =>
    rw [hB] at HP
    have HP := Aside0.mk HP
    have HR0 := Aside0.mk hr0
    have HR1 := Aside0.mk hr1
    have HR2 := Aside0.mk hr2
    clear hB hr0 hr1 hr2 hl
    rw [if_neg (by decide)]
    have HS := St.box (St.box (St.start w) #[.slice A0 root.length c0, .slice A1 tabs.length c1, .slice A2 buf.length c2] 32) #[.int .i64 0, .bool false, .bool false, .bool false] 37
    simp only [World.size_alloc] at HS
    go_enter Try.func14, Try.ntmps14
    go_wp2_with fail
    refine (impl_isPage.calls A0 c0 root A1 c1 tabs A2 c2 buf page false _ (Kd.C_below HR0.out HS.below) hc0 (Kd.C_below HR1.out HS.below) hc1 (Kd.C_below HR2.out HS.below) hc2 HP.out).mono ?_
    rintro e w1 ⟨rfl, hb⟩
    replace HS := HS.step hb
    clear hb
    have q0 : w1.cell? ⟨w.heap.size + 1, 0, none⟩ = some (.int .i64 0) := HS.cell (cs := #[.int .i64 0, .bool false, .bool false, .bool false]) (t := 37) (by repeat (first | with_reducible exact List.mem_cons_self | refine List.mem_cons_of_mem _ ?_)) 0 _ rfl
    have q1 : w1.cell? ⟨w.heap.size + 1, 1, none⟩ = some (.bool false) := HS.cell (cs := #[.int .i64 0, .bool false, .bool false, .bool false]) (t := 37) (by repeat (first | with_reducible exact List.mem_cons_self | refine List.mem_cons_of_mem _ ?_)) 1 _ rfl
    have q2 : w1.cell? ⟨w.heap.size + 1, 2, none⟩ = some (.bool false) := HS.cell (cs := #[.int .i64 0, .bool false, .bool false, .bool false]) (t := 37) (by repeat (first | with_reducible exact List.mem_cons_self | refine List.mem_cons_of_mem _ ?_)) 2 _ rfl
    have q3 : w1.cell? ⟨w.heap.size + 1, 3, none⟩ = some (.bool false) := HS.cell (cs := #[.int .i64 0, .bool false, .bool false, .bool false]) (t := 37) (by repeat (first | with_reducible exact List.mem_cons_self | refine List.mem_cons_of_mem _ ?_)) 3 _ rfl
    have fzq : ∀ j, w1.frozen? ⟨w.heap.size + 1, j, none⟩ = false := HS.thaw (cs := #[.int .i64 0, .bool false, .bool false, .bool false]) (t := 37) (by repeat (first | with_reducible exact List.mem_cons_self | refine List.mem_cons_of_mem _ ?_))
    go_wp2_with fail
    refine bodyPost_ret (results_ct rfl _ _ (w.heap.size + 1) 37 _ (0, 0) _ rfl (St.blk (w0 := w) (St.setBox (St.setBox (St.setBox (St.setBox HS 0 _ (by repeat (first | with_reducible exact Upd.here | apply Upd.there))) 1 _ (by repeat (first | with_reducible exact Upd.here | apply Upd.there))) 2 _ (by repeat (first | with_reducible exact Upd.here | apply Upd.there))) 3 _ (by repeat (first | with_reducible exact Upd.here | apply Upd.there))) (by repeat (first | with_reducible exact List.mem_cons_self | refine List.mem_cons_of_mem _ ?_))) Try.underlying37 rfl (by kernel_rfl)) rfl ?_
    exact ⟨rfl, ((St.setBox (St.setBox (St.setBox (St.setBox HS 0 _ (by repeat (first | with_reducible exact Upd.here | apply Upd.there))) 1 _ (by repeat (first | with_reducible exact Upd.here | apply Upd.there))) 2 _ (by repeat (first | with_reducible exact Upd.here | apply Upd.there))) 3 _ (by repeat (first | with_reducible exact Upd.here | apply Upd.there)))).below⟩
  | true =>
    rw [hB] at HP
    rw [Bool.and_eq_true, Bool.and_eq_true, decide_eq_true_eq, decide_eq_true_eq] at hB
    obtain ⟨hV, p0, p1⟩ := hB
    obtain ⟨f1, f2, f3, f4, f5, _⟩ := spaceB_facts hV
    have HM := Aside0.mk (fun W (hb : Below w.heap.size w W) => xMapped A0 c0 root A1 c1 tabs A2 c2 buf page W (Kd.C_below hr0 hb) (Kd.C_below hr1 hb) p0 (by omega) f1 f4 f5)
    have HP := Aside0.mk HP
    have HR0 := Aside0.mk hr0
    have HR1 := Aside0.mk hr1
    have HR2 := Aside0.mk hr2
    clear hr0 hr1 hr2 hl hV p0 p1 f1 f2 f3 f4 f5
    rw [if_pos rfl]
    generalize mapE root tabs page = E at HM ⊢
    have HS := St.box (St.box (St.start w) #[.slice A0 root.length c0, .slice A1 tabs.length c1, .slice A2 buf.length c2] 32) #[.int .i64 0, .bool false, .bool false, .bool false] 37
    simp only [World.size_alloc] at HS
    go_enter Try.func14, Try.ntmps14
    go_wp2_with fail
    refine (impl_isPage.calls A0 c0 root A1 c1 tabs A2 c2 buf page true _ (Kd.C_below HR0.out HS.below) hc0 (Kd.C_below HR1.out HS.below) hc1 (Kd.C_below HR2.out HS.below) hc2 HP.out).mono ?_
    rintro e w1 ⟨rfl, hb⟩
    replace HS := HS.step hb
    clear hb
    have p0 : w1.cell? ⟨w.heap.size, 0, none⟩ = some (.slice A0 root.length c0) := HS.cell (cs := #[.slice A0 root.length c0, .slice A1 tabs.length c1, .slice A2 buf.length c2]) (t := 32) (by repeat (first | with_reducible exact List.mem_cons_self | refine List.mem_cons_of_mem _ ?_)) 0 _ rfl
    have p1 : w1.cell? ⟨w.heap.size, 1, none⟩ = some (.slice A1 tabs.length c1) := HS.cell (cs := #[.slice A0 root.length c0, .slice A1 tabs.length c1, .slice A2 buf.length c2]) (t := 32) (by repeat (first | with_reducible exact List.mem_cons_self | refine List.mem_cons_of_mem _ ?_)) 1 _ rfl
    have p2 : w1.cell? ⟨w.heap.size, 2, none⟩ = some (.slice A2 buf.length c2) := HS.cell (cs := #[.slice A0 root.length c0, .slice A1 tabs.length c1, .slice A2 buf.length c2]) (t := 32) (by repeat (first | with_reducible exact List.mem_cons_self | refine List.mem_cons_of_mem _ ?_)) 2 _ rfl
    go_wp2_with fail
    refine (HM.out _ HS.below).mono ?_
    rintro e w2 ⟨⟨p, rfl, hp⟩, hb⟩
    replace HS := HS.step hb
    clear hb p0 p1 p2
    have q0 : w2.cell? ⟨w.heap.size + 1, 0, none⟩ = some (.int .i64 0) := HS.cell (cs := #[.int .i64 0, .bool false, .bool false, .bool false]) (t := 37) (by repeat (first | with_reducible exact List.mem_cons_self | refine List.mem_cons_of_mem _ ?_)) 0 _ rfl
    have q1 : w2.cell? ⟨w.heap.size + 1, 1, none⟩ = some (.bool false) := HS.cell (cs := #[.int .i64 0, .bool false, .bool false, .bool false]) (t := 37) (by repeat (first | with_reducible exact List.mem_cons_self | refine List.mem_cons_of_mem _ ?_)) 1 _ rfl
    have q2 : w2.cell? ⟨w.heap.size + 1, 2, none⟩ = some (.bool false) := HS.cell (cs := #[.int .i64 0, .bool false, .bool false, .bool false]) (t := 37) (by repeat (first | with_reducible exact List.mem_cons_self | refine List.mem_cons_of_mem _ ?_)) 2 _ rfl
    have q3 : w2.cell? ⟨w.heap.size + 1, 3, none⟩ = some (.bool false) := HS.cell (cs := #[.int .i64 0, .bool false, .bool false, .bool false]) (t := 37) (by repeat (first | with_reducible exact List.mem_cons_self | refine List.mem_cons_of_mem _ ?_)) 3 _ rfl
    have fzq : ∀ j, w2.frozen? ⟨w.heap.size + 1, j, none⟩ = false := HS.thaw (cs := #[.int .i64 0, .bool false, .bool false, .bool false]) (t := 37) (by repeat (first | with_reducible exact List.mem_cons_self | refine List.mem_cons_of_mem _ ?_))
    cases E with
    | none =>
      cases p with
      | some ad => exact absurd hp id
      | none =>
        go_wp2_with fail
        refine bodyPost_ret (results_ct rfl _ _ (w.heap.size + 1) 37 _ (0, 0) _ rfl (St.blk (w0 := w) (St.setBox (St.setBox (St.setBox (St.setBox HS 0 _ (by repeat (first | with_reducible exact Upd.here | apply Upd.there))) 1 _ (by repeat (first | with_reducible exact Upd.here | apply Upd.there))) 2 _ (by repeat (first | with_reducible exact Upd.here | apply Upd.there))) 3 _ (by repeat (first | with_reducible exact Upd.here | apply Upd.there))) (by repeat (first | with_reducible exact List.mem_cons_self | refine List.mem_cons_of_mem _ ?_))) Try.underlying37 rfl (by kernel_rfl)) rfl ?_
        exact ⟨rfl, ((St.setBox (St.setBox (St.setBox (St.setBox HS 0 _ (by repeat (first | with_reducible exact Upd.here | apply Upd.there))) 1 _ (by repeat (first | with_reducible exact Upd.here | apply Upd.there))) 2 _ (by repeat (first | with_reducible exact Upd.here | apply Upd.there))) 3 _ (by repeat (first | with_reducible exact Upd.here | apply Upd.there)))).below⟩
    | some y =>
      cases p with
      | none => exact absurd hp id
      | some ad =>
        obtain ⟨y0, y1, y2, y3⟩ : EntAt w2 ad y := hp
        go_wp2_with fail
        refine bodyPost_ret (results_ct rfl _ _ (w.heap.size + 1) 37 _ (0, 0) _ rfl (St.blk (w0 := w) (St.setBox (St.setBox (St.setBox (St.setBox HS 0 _ (by repeat (first | with_reducible exact Upd.here | apply Upd.there))) 1 _ (by repeat (first | with_reducible exact Upd.here | apply Upd.there))) 2 _ (by repeat (first | with_reducible exact Upd.here | apply Upd.there))) 3 _ (by repeat (first | with_reducible exact Upd.here | apply Upd.there))) (by repeat (first | with_reducible exact List.mem_cons_self | refine List.mem_cons_of_mem _ ?_))) Try.underlying37 rfl (by kernel_rfl)) rfl ?_
        exact ⟨rfl, ((St.setBox (St.setBox (St.setBox (St.setBox HS 0 _ (by repeat (first | with_reducible exact Upd.here | apply Upd.there))) 1 _ (by repeat (first | with_reducible exact Upd.here | apply Upd.there))) 2 _ (by repeat (first | with_reducible exact Upd.here | apply Upd.there))) 3 _ (by repeat (first | with_reducible exact Upd.here | apply Upd.there)))).below⟩
theorem impl_WalkPage.calls (A0_0 : Option Addr) (c0_0 : Nat) (l0_0 : List Int) (A0_1 : Option Addr) (c0_1 : Nat) (l0_1 : List (List S37)) (A0_2 : Option Addr) (c0_2 : Nat) (l0_2 : List S53) (a1 : Int) (r1 : Int) (r2 : Bool) (r3 : Bool) (r4 : Bool) (r5 : Bool) (w : World) (hr0_0 : Kd.C (Kd.int .i64) w A0_0 l0_0.length l0_0) (hc0_0 : l0_0.length ≤ c0_0) (hr0_1 : Kd.C (Kd.slice 37 k37) w A0_1 l0_1.length l0_1) (hc0_1 : l0_1.length ≤ c0_1) (hr0_2 : Kd.C k53 w A0_2 l0_2.length l0_2) (hc0_2 : l0_2.length ≤ c0_2) (h : impl_WalkPage.f l0_0 l0_1 l0_2 a1 = some (r1, r2, r3, r4, r5)) :
    Calls Try.prog 14 #[.agg #[.slice A0_0 l0_0.length c0_0, .slice A0_1 l0_1.length c0_1, .slice A0_2 l0_2.length c0_2], .int .i64 a1] w fun e w' => e = .returned (.tuple #[.agg #[.int .i64 r1, .bool r2, .bool r3, .bool r4], .bool r5]) ∧ Below w.heap.size w w' := by
  unfold impl_WalkPage.f at h
  split at h
  · rename_i hl
    have h := Option.some.inj h
    have := xWalkPage A0_0 c0_0 l0_0 A0_1 c0_1 l0_1 A0_2 c0_2 l0_2 a1 w hr0_0 hc0_0 hr0_1 hc0_1 hr0_2 hc0_2 hl
    rw [h] at this
    exact this
  · cases h


end Go.Proofs.Ytpmglamjgfpmnaa.PFnExactWalkPage
