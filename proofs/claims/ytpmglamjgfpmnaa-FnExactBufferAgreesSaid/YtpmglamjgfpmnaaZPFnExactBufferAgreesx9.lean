-- Printed by this session's own program (wip/tools/xprint.py) over the kit's print; not trusted: Lean checks it.
import Derived.Test.YtpmglamjgfpmnaaZPFnExactBufferAgreesx0
import Derived.Test.YtpmglamjgfpmnaaZPFnExactBufferAgreesx6
import Derived.Test.YtpmglamjgfpmnaaZPFnExactBufferAgreesx7
import Derived.Test.YtpmglamjgfpmnaaZPFnExactBufferAgreesx8
namespace Go.Proofs.Ytpmglamjgfpmnaa.PFnExactBufferAgrees
open Go.RowKit Go.Proofs.YtpmglamjgfpmnaaW.PrintWords Go.Proofs.YtpmglamjgfpmnaaW.PrintLast Go.Proofs.YtpmglamjgfpmnaaW.PrintMore
attribute [local go_sem] max2_int min2_int max_two min_two max_three min_three max_four min_four   -- for this text's walks alone
set_option linter.unusedVariables false
set_option linter.unusedSimpArgs false

/-! ### impl_BufferAgrees: function 11 -/
theorem rising_range : ∀ (s : List Int) (a : Int), s.Pairwise (· < ·) → (∀ x ∈ s, a ≤ x ∧ x ≤ a + s.length - 1) → s = (List.range s.length).map fun (j : Nat) => a + (j : Int)
  | [], _, _, _ => rfl
  | x :: t, a, hp, hb => by
    rw [List.pairwise_cons] at hp
    have hx := hb x List.mem_cons_self
    have ht : t = (List.range t.length).map fun (j : Nat) => (a + 1) + (j : Int) := by
      refine rising_range t (a + 1) hp.2 (fun y hy => ?_)
      have h1 := hp.1 y hy
      have h2 := hb y (List.mem_cons_of_mem _ hy)
      rw [List.length_cons] at h2
      omega
    have e : x = a := by
      by_cases h0 : t.length = 0
      · rw [List.length_cons] at hx; omega
      · have hm : (a + 1) ∈ t := by
          rw [ht]
          exact List.mem_map.2 ⟨0, by simp only [List.mem_range, List.length_map, List.length_range]; omega, by simp⟩
        have := hp.1 _ hm
        omega
    subst e
    rw [List.length_cons, List.range_succ_eq_map, List.map_cons, List.map_map]
    congr 1
    · simp
    · conv => lhs; rw [ht]
      refine List.map_congr_left (fun j _ => ?_)
      simp only [Function.comp_apply]
      omega
theorem orderB_iff (l : List Int) (n : Int) : orderB l n = true ↔ (l.length : Int) = n ∧ (∀ x ∈ l, 0 ≤ x ∧ x ≤ n - 1) ∧ l.Nodup := by
  unfold orderB
  rw [Bool.and_eq_true, decide_eq_true_eq, decide_eq_true_eq]
  constructor
  · rintro ⟨h1, h2⟩
    have hp := sortI_perm l
    refine ⟨h1, fun x hx => ?_, ?_⟩
    · have hx' := hp.mem_iff.2 hx
      rw [h2] at hx'
      obtain ⟨j, hj, rfl⟩ := List.mem_map.1 hx'
      rw [List.mem_range] at hj
      omega
    · refine hp.nodup_iff.1 ?_
      rw [h2]
      unfold List.Nodup
      rw [List.pairwise_map]
      exact List.Pairwise.imp (fun h => by omega) (List.pairwise_lt_range (n := l.length))
  · rintro ⟨h1, h2, h3⟩
    refine ⟨h1, ?_⟩
    have hp := sortI_perm l
    have hn : (sortI l).Nodup := hp.nodup_iff.2 h3
    have hlt : (sortI l).Pairwise (· < ·) := by
      have a := (sortI_le l)
      exact (List.Pairwise.and a hn).imp (fun h => by omega)
    have := rising_range (sortI l) 0 hlt (fun x hx => by
      have := h2 x (hp.mem_iff.1 hx)
      rw [sortI_length]; omega)
    rw [this, sortI_length]
    refine List.map_congr_left (fun j _ => ?_)
    omega
theorem used_mem' (root : List Int) (x : Int) : x ∈ usedL root ↔ x ∈ root ∧ x ≠ -1 := by
  unfold usedL
  rw [List.mem_filter]
  simp
theorem badT_len {t : List S37} (h : badT t = false) : t.length = 8 := by
  unfold badT at h
  rw [Bool.or_eq_false_iff] at h
  have : ((t.length : Int) == 8) = true := by simpa using h.1
  have := beq_iff_eq.1 this
  omega
theorem badT_ent {t : List S37} (h : badT t = false) : ∀ y ∈ t, entB y = true := by
  unfold badT at h
  rw [Bool.or_eq_false_iff, List.any_eq_false] at h
  intro y hy
  have := h.2 y hy
  simpa using this
theorem spaceB_facts {root : List Int} {tabs : List (List S37)} {buf : List S53} (h : spaceB root tabs buf = true) :
    root.length = 8 ∧ tabs.length ≤ 8 ∧ buf.length ≤ 4 ∧ (∀ r ∈ root, r < (tabs.length : Int)) ∧ (∀ t ∈ tabs, t.length = 8) ∧ (∀ c ∈ buf, 0 ≤ c.f0 ∧ c.f0 < 64) ∧ (∀ t ∈ tabs, ∀ y ∈ t, entB y = true) ∧ orderB (usedL root) (tabs.length : Int) = true := by
  unfold spaceB restB condB at h
  simp only [Bool.and_eq_true, Bool.not_eq_true', beq_iff_eq, decide_eq_false_iff_not] at h
  obtain ⟨⟨h1, h2, h3, h4⟩, h5, h6, h7⟩ := h
  have ho := (orderB_iff _ _).1 h3
  rw [List.any_eq_false] at h5 h6
  refine ⟨by omega, by omega, by omega, fun r hr => ?_, fun t ht => badT_len (by simpa using h5 t ht), fun c hc => ?_, fun t ht => badT_ent (by simpa using h5 t ht), h3⟩
  · by_cases e : r = -1
    · omega
    · have := ho.2.1 r ((used_mem' root r).2 ⟨hr, e⟩)
      omega
  · obtain ⟨i, hi, rfl⟩ := List.getElem_of_mem hc
    have := h6 i (List.mem_range.2 hi)
    unfold badAt at this
    rw [getD_lt buf i _ hi] at this
    simp at this
    omega
theorem spaceB_buf {root : List Int} {tabs : List (List S37)} {buf : List S53} (h : spaceB root tabs buf = true) : ∀ c ∈ buf, 0 ≤ c.f1 := by
  unfold spaceB restB condB at h
  simp only [Bool.and_eq_true, Bool.not_eq_true', beq_iff_eq, decide_eq_false_iff_not] at h
  obtain ⟨_, _, h6, _⟩ := h
  rw [List.any_eq_false] at h6
  intro c hc
  obtain ⟨i, hi, rfl⟩ := List.getElem_of_mem hc
  have := h6 i (List.mem_range.2 hi)
  unfold badAt at this
  rw [getD_lt buf i _ hi] at this
  simp at this
  omega
/-- The entry of a page, if a table has one. -/
def walkE (root : List Int) (tabs : List (List S37)) (p : Int) : Option S37 := if rd root (p / 8) < 0 then none else some ((tabs.getD (rd root (p / 8)).toNat []).getD (p % 8).toNat z37)
/-- What stands at an address reads as an entry. -/
def EntAt (w : World) (ad : Addr) (y : S37) : Prop := w.cell? ad = some (.int .i64 y.f0) ∧ w.cell? ⟨ad.block, ad.off + 1, none⟩ = some (.bool y.f1) ∧ w.cell? ⟨ad.block, ad.off + 2, none⟩ = some (.bool y.f2) ∧ w.cell? ⟨ad.block, ad.off + 3, none⟩ = some (.bool y.f3)
theorem EntAt.below {w w' : World} {ad : Addr} {y : S37} (h : EntAt w ad y) (hb : Below w.heap.size w w') : EntAt w' ad y :=
  ⟨pw_cell_below hb h.1, pw_cell_below hb h.2.1, pw_cell_below hb h.2.2.1, pw_cell_below hb h.2.2.2⟩
def PtrTo (w : World) : Option Addr → Option S37 → Prop
  | none, none => True
  | some ad, some y => EntAt w ad y
  | _, _ => False
set_option maxHeartbeats 400000 in
theorem xEntry (A0 : Option Addr) (c0 : Nat) (root : List Int) (A1 : Option Addr) (c1 : Nat) (tabs : List (List S37)) (A2 : Option Addr) (c2 : Nat) (buf : List S53) (page : Int) (w : World) (hr0 : Kd.C (Kd.int .i64) w A0 root.length root) (hr1 : Kd.C (Kd.slice 37 k37) w A1 tabs.length tabs)
    (h0 : 0 ≤ page) (h1 : page < 64) (h8 : root.length = 8) (hin : ∀ r ∈ root, r < (tabs.length : Int)) (ht : ∀ t ∈ tabs, t.length = 8) :
    Calls Try.prog 73 #[.agg #[.slice A0 root.length c0, .slice A1 tabs.length c1, .slice A2 buf.length c2], .int .i64 page] w fun e w' => (∃ p, e = .returned (.pointer p) ∧ PtrTo w' p (walkE root tabs page)) ∧ Below w.heap.size w w' := by
  obtain ⟨q, hq⟩ : ∃ q, IntKind.i64.wrap (Int.tdiv page 8) = q := ⟨_, rfl⟩
  have eq : q = page / 8 := by rw [← hq, i64_w, Int.tdiv_eq_ediv_of_nonneg h0]; exact wrap_id (by omega) (by omega)
  have q0 : 0 ≤ q := by omega
  have q1 : q < (root.length : Int) := by omega
  obtain ⟨m, hm⟩ : ∃ m, Int.tmod page 8 = m := ⟨_, rfl⟩
  have em : m = page % 8 := by rw [← hm, Int.tmod_eq_emod_of_nonneg h0]
  obtain ⟨t, htt⟩ : ∃ t, rd root q = t := ⟨_, rfl⟩
  have hrt : t ∈ root := by
    rw [← htt]; unfold rd; rw [getD_lt root q.toNat 0 (by omega)]; exact List.getElem_mem _
  have t1 := hin t hrt
  obtain ⟨ad0, e0, hx0⟩ := at_int hr0 q.toNat (by omega)
  subst e0
  rw [show root.getD q.toNat 0 = t from htt] at hx0
  have hE : walkE root tabs page = if t < 0 then none else some ((tabs.getD t.toNat []).getD m.toNat z37) := by
    unfold walkE; rw [← eq, htt, em]
  rw [hE]
  by_cases tn : t < 0
  · rw [if_pos tn]
    have tnb : decide (t < 0) = true := decide_eq_true tn
    clear eq em h8 hin ht hrt htt hE h0 h1 tn
    go_enter Try.func73, Try.ntmps73
    go_wp2_with ((with_reducible refine gate_dst (N := 2) rfl ?_); refine box_event ?hg (N := 2) ?hd (cs := #[.slice (some ad0) root.length c0, .slice A1 tabs.length c1, .slice A2 buf.length c2]) (t := 32) ?hr ?_; (case hd => rfl); (case hg => rfl); (case hr => first | (go_simp; done) | (go_simp; rfl)); intro gb hgb w1 hbox hb; have q0_ := (blk_cell hbox 0).trans rfl; have q1_ := (blk_cell hbox 1).trans rfl; have hx0 := pw_cell_below hb hx0; clear hbox hgb)
    go_ret
    exact ⟨⟨none, rfl, trivial⟩, hb⟩
  · rw [if_neg tn]
    have tnb : decide (t < 0) = false := decide_eq_false tn
    have t0 : 0 ≤ t := by omega
    have hlt : t.toNat < tabs.length := by omega
    obtain ⟨ad, B, cB, e1, hx1, hcB, hC⟩ := at_row hr1 t.toNat hlt
    subst e1
    have hrow : (tabs.getD t.toNat []).length = 8 := ht _ (by rw [getD_lt tabs _ _ hlt]; exact List.getElem_mem _)
    generalize tabs.getD t.toNat [] = row at hx1 hcB hC hrow ⊢
    have m0 : 0 ≤ m := by omega
    have m1 : m < (row.length : Int) := by omega
    obtain ⟨ad2, e2, hy0, hy1, hy2, hy3⟩ := at_T37 hC m m0 m1
    subst e2
    clear eq em h8 hin ht hrt htt hE h0 h1 tn hrow hlt
    go_enter Try.func73, Try.ntmps73
    go_wp2_with ((with_reducible refine gate_dst (N := 2) rfl ?_); refine box_event ?hg (N := 2) ?hd (cs := #[.slice (some ad0) root.length c0, .slice (some ad) tabs.length c1, .slice A2 buf.length c2]) (t := 32) ?hr ?_; (case hd => rfl); (case hg => rfl); (case hr => first | (go_simp; done) | (go_simp; rfl)); intro gb hgb w1 hbox hb; have q0_ := (blk_cell hbox 0).trans rfl; have q1_ := (blk_cell hbox 1).trans rfl; have hx0 := pw_cell_below hb hx0; have hx1 := pw_cell_below hb hx1; clear hbox hgb)
    go_ret
    exact ⟨⟨_, rfl, EntAt.below ⟨hy0, hy1, hy2, hy3⟩ hb⟩, hb⟩
/-- The entry of a mapped page. -/
def mapE (root : List Int) (tabs : List (List S37)) (p : Int) : Option S37 := match walkE root tabs p with
  | none => none
  | some y => if y.f0 < 0 then none else some y
set_option maxHeartbeats 400000 in
theorem xMapped (A0 : Option Addr) (c0 : Nat) (root : List Int) (A1 : Option Addr) (c1 : Nat) (tabs : List (List S37)) (A2 : Option Addr) (c2 : Nat) (buf : List S53) (page : Int) (w : World) (hr0 : Kd.C (Kd.int .i64) w A0 root.length root) (hr1 : Kd.C (Kd.slice 37 k37) w A1 tabs.length tabs)
    (h0 : 0 ≤ page) (h1 : page < 64) (h8 : root.length = 8) (hin : ∀ r ∈ root, r < (tabs.length : Int)) (ht : ∀ t ∈ tabs, t.length = 8) :
    Calls Try.prog 37 #[.agg #[.slice A0 root.length c0, .slice A1 tabs.length c1, .slice A2 buf.length c2], .int .i64 page] w fun e w' => (∃ p, e = .returned (.pointer p) ∧ PtrTo w' p (mapE root tabs page)) ∧ Below w.heap.size w w' := by
  have HC := Aside0.mk (fun W (hb : Below w.heap.size w W) => xEntry A0 c0 root A1 c1 tabs A2 c2 buf page W (Kd.C_below hr0 hb) (Kd.C_below hr1 hb) h0 h1 h8 hin ht)
  have HB := below_alloc (Below.refl w.heap.size w)
  unfold mapE
  generalize walkE root tabs page = E at HC ⊢
  clear hr0 hr1 hin ht h8 h0 h1
  go_enter Try.func37, Try.ntmps37
  go_wp2_with fail
  refine (HC.out _ (HB _)).mono ?_
  rintro e w' ⟨⟨p, rfl, hp⟩, hb⟩
  have hB := below_le (HB _) hb
  cases E with
  | none =>
    cases p with
    | some ad => exact absurd hp id
    | none =>
      go_wp2
      go_ret
      exact ⟨⟨none, rfl, trivial⟩, hB⟩
  | some y =>
    cases p with
    | none => exact absurd hp id
    | some ad =>
      have hq : EntAt w' ad y := hp
      by_cases hy : y.f0 < 0
      · have hyb : decide (y.f0 < 0) = true := decide_eq_true hy
        have hx0 := hq.1
        simp only [if_pos hy]
        go_wp2
        go_ret
        exact ⟨⟨none, rfl, trivial⟩, hB⟩
      · have hyb : decide (y.f0 < 0) = false := decide_eq_false hy
        have hx0 := hq.1
        simp only [if_neg hy]
        go_wp2
        go_ret
        exact ⟨⟨some ad, rfl, hq⟩, hB⟩
def agreeBad (root : List Int) (tabs : List (List S37)) (c : S53) : Bool := match mapE root tabs c.f0 with
  | none => true
  | some e => !(e.f0 == c.f1) || !(e.f1 == c.f2)
def agreesB (root : List Int) (tabs : List (List S37)) (buf : List S53) : Bool := spaceB root tabs buf && !(buf.any (agreeBad root tabs))
def impl_BufferAgrees.f (root : List Int) (tabs : List (List S37)) (buf : List S53) : Option Bool := if root.length ≤ 1048576 then some (agreesB root tabs buf) else none
set_option maxHeartbeats 800000 in
set_option maxRecDepth 100000 in
theorem xAgrees1 (A0 : Option Addr) (c0 : Nat) (root : List Int) (A1 : Option Addr) (c1 : Nat) (tabs : List (List S37)) (A2 : Option Addr) (c2 : Nat) (buf : List S53) (y : S53) (g : Nat) (w : World) (hg : w.heap[g]? = some (.cells #[.slice A0 root.length c0, .slice A1 tabs.length c1, .slice A2 buf.length c2] 32 (0, 0))) (hr0 : Kd.C (Kd.int .i64) w A0 root.length root) (hc0 : root.length ≤ c0) (hr1 : Kd.C (Kd.slice 37 k37) w A1 tabs.length tabs) (hc1 : tabs.length ≤ c1) (hr2 : Kd.C k53 w A2 buf.length buf) (hc2 : buf.length ≤ c2) (h0 : 0 ≤ y.f0) (h1 : y.f0 < 64) (h8 : root.length = 8) (hin : ∀ r ∈ root, r < (tabs.length : Int)) (ht : ∀ t ∈ tabs, t.length = 8) :
    Calls Try.prog 36 #[.agg #[.int .i64 y.f0, .int .i64 y.f1, .bool y.f2], .pointer (some ⟨g, 0, none⟩)] w fun e w' => e = .returned (.bool (agreeBad root tabs y)) ∧ Below w.heap.size w w' := by
  have HM := Aside0.mk (fun W (hb : Below w.heap.size w W) => xMapped A0 c0 root A1 c1 tabs A2 c2 buf y.f0 W (Kd.C_below hr0 hb) (Kd.C_below hr1 hb) h0 h1 h8 hin ht)
  unfold agreeBad
  generalize mapE root tabs y.f0 = E at HM ⊢
  have BG := Aside0.mk hg
  clear hr0 hr1 hr2 h0 h1 h8 hin ht hg
  have HS := St.box (St.start w) #[.int .i64 y.f0, .int .i64 y.f1, .bool y.f2] 53
  have BG1 := Aside0.mk (blk_below BG.out HS.below)
  have p0 := (blk_cell BG1.out 0).trans rfl
  have p1 := (blk_cell BG1.out 1).trans rfl
  have p2 := (blk_cell BG1.out 2).trans rfl
  go_enter Try.func36, Try.ntmps36
  go_wp2_with fail
  refine (HM.out _ HS.below).mono ?_
  rintro e w2 ⟨⟨p, rfl, hp⟩, hb⟩
  replace HS := HS.step hb
  clear hb p0 p1 p2
  have q0 : w2.cell? ⟨w.heap.size, 0, none⟩ = some (.int .i64 y.f0) := HS.cell (cs := #[.int .i64 y.f0, .int .i64 y.f1, .bool y.f2]) (t := 53) (by repeat (first | with_reducible exact List.mem_cons_self | refine List.mem_cons_of_mem _ ?_)) 0 _ rfl
  have q1 : w2.cell? ⟨w.heap.size, 1, none⟩ = some (.int .i64 y.f1) := HS.cell (cs := #[.int .i64 y.f0, .int .i64 y.f1, .bool y.f2]) (t := 53) (by repeat (first | with_reducible exact List.mem_cons_self | refine List.mem_cons_of_mem _ ?_)) 1 _ rfl
  have q2 : w2.cell? ⟨w.heap.size, 2, none⟩ = some (.bool y.f2) := HS.cell (cs := #[.int .i64 y.f0, .int .i64 y.f1, .bool y.f2]) (t := 53) (by repeat (first | with_reducible exact List.mem_cons_self | refine List.mem_cons_of_mem _ ?_)) 2 _ rfl
  cases E with
  | none =>
    cases p with
    | some ad => exact absurd hp id
    | none =>
      go_wp2_with fail
      go_region
      go_wp2_with fail
      go_ret
      exact ⟨rfl, (HS.drew).below⟩
  | some e =>
    cases p with
    | none => exact absurd hp id
    | some ad =>
      obtain ⟨y0, y1, _⟩ : EntAt w2 ad e := hp
      show _
      obtain ⟨b0, hb0⟩ : ∃ b, (e.f0 == y.f1) = b := ⟨_, rfl⟩
      obtain ⟨b1, hb1⟩ : ∃ b, (e.f1 == y.f2) = b := ⟨_, rfl⟩
      have hn0 : (e.f0 != y.f1) = !b0 := by rw [← hb0]; rfl
      have hn1 : (e.f1 != y.f2) = !b1 := by rw [← hb1]; rfl
      have hd0 : decide (e.f0 = y.f1) = b0 := by rw [← hb0]; rfl
      simp only [hb0, hb1]
      rcases b0 with _ | _
      · go_wp2_with fail
        go_region
        go_wp2_with fail
        go_ret
        exact ⟨rfl, (HS.drew).below⟩
      · rcases b1 with _ | _
        · go_wp2_with fail
          go_region
          go_wp2_with fail
          go_ret
          exact ⟨rfl, (HS.drew).below⟩
        · go_wp2_with fail
          go_region
          go_wp2_with fail
          go_ret
          exact ⟨rfl, (HS.drew).below⟩
set_option maxHeartbeats 800000 in
set_option maxRecDepth 100000 in
theorem xAgrees (A0 : Option Addr) (c0 : Nat) (root : List Int) (A1 : Option Addr) (c1 : Nat) (tabs : List (List S37)) (A2 : Option Addr) (c2 : Nat) (buf : List S53) (w : World) (hr0 : Kd.C (Kd.int .i64) w A0 root.length root) (hc0 : root.length ≤ c0) (hr1 : Kd.C (Kd.slice 37 k37) w A1 tabs.length tabs) (hc1 : tabs.length ≤ c1) (hr2 : Kd.C k53 w A2 buf.length buf) (hc2 : buf.length ≤ c2) (hl : root.length ≤ 1048576) :
    Calls Try.prog 11 #[.agg #[.slice A0 root.length c0, .slice A1 tabs.length c1, .slice A2 buf.length c2]] w fun e w' => e = .returned (.bool (agreesB root tabs buf)) ∧ Below w.heap.size w w' := by
  have HP : impl_ValidSpace.f root tabs buf = some (spaceB root tabs buf) := if_pos hl
  unfold agreesB
  have HR0 := Aside0.mk hr0
  have HR1 := Aside0.mk hr1
  have HR2 := Aside0.mk hr2
  have HS := St.box (St.start w) #[.slice A0 root.length c0, .slice A1 tabs.length c1, .slice A2 buf.length c2] 32
  cases hB : spaceB root tabs buf with
  | false =>
    rw [hB] at HP
    have HP := Aside0.mk HP
    clear hB hr0 hr1 hr2 hl
    rw [Bool.false_and]
    go_enter Try.func11, Try.ntmps11
    go_wp2_with fail
    refine (impl_ValidSpace.calls A0 c0 root A1 c1 tabs A2 c2 buf false _ (Kd.C_below HR0.out HS.below) hc0 (Kd.C_below HR1.out HS.below) hc1 (Kd.C_below HR2.out HS.below) hc2 HP.out).mono ?_
    rintro e w1 ⟨rfl, hb⟩
    go_wp2_with fail
    go_ret
    exact ⟨rfl, (HS.step hb).below⟩
  | true =>
    rw [hB] at HP
    obtain ⟨f1, f2, f3, f4, f5, f6, _⟩ := spaceB_facts hB
    have HC := Aside0.mk (fun W (hb : Below w.heap.size w W) (hg : W.heap[w.heap.size]? = some (.cells #[.slice A0 root.length c0, .slice A1 tabs.length c1, .slice A2 buf.length c2] 32 (0, 0))) (y : S53) (hy : y ∈ buf) => xAgrees1 A0 c0 root A1 c1 tabs A2 c2 buf y w.heap.size W hg (Kd.C_below hr0 hb) hc0 (Kd.C_below hr1 hb) hc1 (Kd.C_below hr2 hb) hc2 (f6 y hy).1 (f6 y hy).2 f1 f4 f5)
    have HP := Aside0.mk HP
    clear hB hr0 hr1 hr2 hl f1 f2 f3 f4 f5 f6
    rw [Bool.true_and]
    go_enter Try.func11, Try.ntmps11
    go_wp2_with fail
    refine (impl_ValidSpace.calls A0 c0 root A1 c1 tabs A2 c2 buf true _ (Kd.C_below HR0.out HS.below) hc0 (Kd.C_below HR1.out HS.below) hc1 (Kd.C_below HR2.out HS.below) hc2 HP.out).mono ?_
    rintro e w1 ⟨rfl, hb⟩
    replace HS := HS.step hb
    clear hb
    have q0 : w1.cell? ⟨w.heap.size, 0, none⟩ = some (.slice A0 root.length c0) := HS.cell (cs := #[.slice A0 root.length c0, .slice A1 tabs.length c1, .slice A2 buf.length c2]) (t := 32) (by repeat (first | with_reducible exact List.mem_cons_self | refine List.mem_cons_of_mem _ ?_)) 0 _ rfl
    have q1 : w1.cell? ⟨w.heap.size, 1, none⟩ = some (.slice A1 tabs.length c1) := HS.cell (cs := #[.slice A0 root.length c0, .slice A1 tabs.length c1, .slice A2 buf.length c2]) (t := 32) (by repeat (first | with_reducible exact List.mem_cons_self | refine List.mem_cons_of_mem _ ?_)) 1 _ rfl
    have q2 : w1.cell? ⟨w.heap.size, 2, none⟩ = some (.slice A2 buf.length c2) := HS.cell (cs := #[.slice A0 root.length c0, .slice A1 tabs.length c1, .slice A2 buf.length c2]) (t := 32) (by repeat (first | with_reducible exact List.mem_cons_self | refine List.mem_cons_of_mem _ ?_)) 2 _ rfl
    go_wp2_with fail
    refine (xHasGCached 36 #[.pointer (some ⟨w.heap.size, 0, none⟩)] (enters_of Try.func36 (by kernel_rfl) rfl) (agreeBad root tabs) A2 c2 buf _ (Kd.C_below HR2.out HS.below) (fun W y hy hb => HC.out W (below_le HS.below hb) (blk_below (HS.blk (cs := #[.slice A0 root.length c0, .slice A1 tabs.length c1, .slice A2 buf.length c2]) (t := 32) (by repeat (first | with_reducible exact List.mem_cons_self | refine List.mem_cons_of_mem _ ?_))) hb) y hy)).mono ?_
    rintro e w2 ⟨rfl, hb⟩
    go_wp2_with fail
    go_ret
    exact ⟨rfl, below_le HS.below hb⟩
theorem impl_BufferAgrees.calls (A0_0 : Option Addr) (c0_0 : Nat) (l0_0 : List Int) (A0_1 : Option Addr) (c0_1 : Nat) (l0_1 : List (List S37)) (A0_2 : Option Addr) (c0_2 : Nat) (l0_2 : List S53) (r : Bool) (w : World) (hr0_0 : Kd.C (Kd.int .i64) w A0_0 l0_0.length l0_0) (hc0_0 : l0_0.length ≤ c0_0) (hr0_1 : Kd.C (Kd.slice 37 k37) w A0_1 l0_1.length l0_1) (hc0_1 : l0_1.length ≤ c0_1) (hr0_2 : Kd.C k53 w A0_2 l0_2.length l0_2) (hc0_2 : l0_2.length ≤ c0_2) (h : impl_BufferAgrees.f l0_0 l0_1 l0_2 = some r) :
    Calls Try.prog 11 #[.agg #[.slice A0_0 l0_0.length c0_0, .slice A0_1 l0_1.length c0_1, .slice A0_2 l0_2.length c0_2]] w fun e w' => e = .returned (.bool r) ∧ Below w.heap.size w w' := by
  unfold impl_BufferAgrees.f at h
  split at h
  · rename_i hl
    obtain rfl := Option.some.inj h
    exact xAgrees A0_0 c0_0 l0_0 A0_1 c0_1 l0_1 A0_2 c0_2 l0_2 w hr0_0 hc0_0 hr0_1 hc0_1 hr0_2 hc0_2 hl
  · cases h


/-! ### laws_eqInt64S: function 18 -/
def laws_eqInt64S.l0 : Nat → List Int → List Int → Int → Option (Bool)
  | 0, _, _, _ => none
  | k + 1, x0, x1, x5 => if x5 < (x0.length : Int) then (if 0 ≤ x5 then (if x5 < (x1.length : Int) then (if (rd x0 x5) = (rd x1 x5) then (laws_eqInt64S.l0 k x0 x1 (wrap64 (x5 + 1))) else (some false)) else (none)) else (none)) else (some true)
def laws_eqInt64S.f (k : Nat) (l0 : List Int) (l1 : List Int) : Option (Bool) := if (l0.length : Int) = (l1.length : Int) then (laws_eqInt64S.l0 k l0 l1 0) else (some false)
theorem laws_eqInt64S.mono_l : ∀ k, (∀ y0 y1 y2, LeO (laws_eqInt64S.l0 k y0 y1 y2) (laws_eqInt64S.l0 (k + 1) y0 y1 y2))
  | 0 => fun _ _ _ r h => by simp [laws_eqInt64S.l0] at h
  | k + 1 => by
    have ih0 := laws_eqInt64S.mono_l k
    · intro y0 y1 y2
      unfold laws_eqInt64S.l0
      repeat' first
      | (with_reducible exact ih0 _ _ _)
      | (with_reducible exact LeO.refl _)
      | (with_reducible exact LeO.none _)
      | (with_reducible refine LeO.ite ?_ ?_)
      | (with_reducible refine LeO.bind ?_ (fun _ => ?_))
      | exact ih0 _ _ _
      | exact LeO.none _
      | refine LeO.ite ?_ ?_
      | refine LeO.bind ?_ (fun _ => ?_)
theorem laws_eqInt64S.mono : ∀ a0 a1 k, LeO (laws_eqInt64S.f k a0 a1) (laws_eqInt64S.f (k + 1) a0 a1) := by
  intro a0 a1 k
  have ih0 := laws_eqInt64S.mono_l k
  unfold laws_eqInt64S.f
  repeat' first
      | (with_reducible exact ih0 _ _ _)
      | (with_reducible exact LeO.refl _)
      | (with_reducible exact LeO.none _)
      | (with_reducible refine LeO.ite ?_ ?_)
      | (with_reducible refine LeO.bind ?_ (fun _ => ?_))
      | exact ih0 _ _ _
      | exact LeO.none _
      | refine LeO.ite ?_ ?_
      | refine LeO.bind ?_ (fun _ => ?_)
set_option maxHeartbeats 8000000 in
set_option maxRecDepth 100000 in
theorem laws_eqInt64S.calls (k : Nat) (A0 : Option Addr) (c0 : Nat) (l0 : List Int) (A1 : Option Addr) (c1 : Nat) (l1 : List Int) (r : Bool) (w : World) (hr0 : Kd.C (Kd.int .i64) w A0 l0.length l0) (hc0 : l0.length ≤ c0) (hr1 : Kd.C (Kd.int .i64) w A1 l1.length l1) (hc1 : l1.length ≤ c1) (h : laws_eqInt64S.f k l0 l1 = some r) :
    Calls Try.prog 18 #[.slice A0 l0.length c0, .slice A1 l1.length c1] w fun e w' => e = .returned (.bool r) ∧ Drawn0 w w' := by
  have HR0 := Aside0.mk hr0
  have HC0 := Aside0.mk hc0
  clear hr0 hc0
  have HR1 := Aside0.mk hr1
  have HC1 := Aside0.mk hc1
  clear hr1 hc1
  have H : (if (l0.length : Int) = (l1.length : Int) then (laws_eqInt64S.l0 k l0 l1 0) else (some false)) = some r := h
  clear h
  by_cases c3 : (l0.length : Int) = (l1.length : Int)
  · rw [if_pos c3] at H
    have c3b0 : ((l0.length : Int) == (l1.length : Int)) = true := beq_iff_eq.mpr c3
    have c3b1 : ((l0.length : Int) != (l1.length : Int)) = false := bne_eq_false_iff_eq.mpr c3
    have c3b2 : (l0.length == l1.length) = true := by first | simpa using c3 | (simp at c3 ⊢; omega)
    clear c3
    have H' := Aside0.mk H
    clear H
    go_enter Try.func18, Try.ntmps18
    go_wp2
    repeat (go_quiet (fail); try go_wp2)
    go_loopg [5] k (fun kq v5 w' => ∃ (x5_1 : Int), v5 = .int .i64 x5_1 ∧ Aside0 (laws_eqInt64S.l0 kq l0 l1 x5_1 = some r) ∧ Aside0 (kq ≤ k) ∧ Drawn0 w w')
    case atStart => exact ⟨(0), (by first | rfl | (simp; done) | (simp [*]; done)), H', ⟨Nat.le_refl _⟩, by repeat (first | exact Drawn0.refl _ | apply Drawn0.step)⟩
    case round =>
      clear H'
      try clear c1
      try clear p2
      try clear c3
      try clear c3b0
      try clear c3b1
      try clear c3b2
      obtain ⟨x5_1, rfl, HA, HK1, ⟨m1, rfl⟩⟩ := hrel
      cases gk with
      | zero => exact absurd HA.out (by simp [laws_eqInt64S.l0])
      | succ k1 =>
        have H := HA.out
        clear HA
        simp only [laws_eqInt64S.l0] at H
        by_cases c4 : x5_1 < (l0.length : Int)
        · rw [if_pos c4] at H
          have c4b0 : decide (x5_1 < (l0.length : Int)) = true := decide_eq_true c4
          clear c4
          by_cases c5 : 0 ≤ x5_1
          · rw [if_pos c5] at H
            have c5b0 : decide (0 ≤ x5_1) = true := decide_eq_true c5
            clear c5
            by_cases c6 : x5_1 < (l1.length : Int)
            · rw [if_pos c6] at H
              have c6b0 : decide (x5_1 < (l1.length : Int)) = true := decide_eq_true c6
              clear c6
              by_cases c7 : (rd l0 x5_1) = (rd l1 x5_1)
              · rw [if_pos c7] at H
                have c7b0 : ((rd l0 x5_1) == (rd l1 x5_1)) = true := beq_iff_eq.mpr c7
                have c7b1 : ((rd l0 x5_1) != (rd l1 x5_1)) = false := bne_eq_false_iff_eq.mpr c7
                clear c7
                have H' := Aside0.mk H
                clear H
                have p226 : 0 ≤ (x5_1 : Int) := of_decide_eq_true (by first | (with_reducible assumption) | assumption)
                have q226 : x5_1 < (l0.length : Int) := of_decide_eq_true (by first | (with_reducible assumption) | assumption)
                obtain ⟨ad226, e226, hx226_0⟩ := Kd.at_int HR0.out x5_1 p226 q226
                cases e226
                replace p226 := eq_true p226
                replace q226 := eq_true q226
                have p227 : 0 ≤ (x5_1 : Int) := of_decide_eq_true (by first | (with_reducible assumption) | assumption)
                have q227 : x5_1 < (l1.length : Int) := of_decide_eq_true (by first | (with_reducible assumption) | assumption)
                obtain ⟨ad227, e227, hx227_0⟩ := Kd.at_int HR1.out x5_1 p227 q227
                cases e227
                replace p227 := eq_true p227
                replace q227 := eq_true q227
                go_wp2
                repeat (go_quiet (fail); try go_wp2)
                go_roundg k1
                case measure => have := HK1.out; omega
                case rel => exact ⟨(wrap64 (x5_1 + 1)), (by first | rfl | (simp; done) | (simp [*]; done)), H', ⟨by have := HK1.out; omega⟩, by repeat (first | exact Drawn0.refl _ | apply Drawn0.step)⟩
              · rw [if_neg c7] at H
                have c7b0 : ((rd l0 x5_1) == (rd l1 x5_1)) = false := beq_eq_false_iff_ne.mpr c7
                have c7b1 : ((rd l0 x5_1) != (rd l1 x5_1)) = true := bne_iff_ne.mpr c7
                obtain rfl := Option.some.inj H
                have p226 : 0 ≤ (x5_1 : Int) := of_decide_eq_true (by first | (with_reducible assumption) | assumption)
                have q226 : x5_1 < (l0.length : Int) := of_decide_eq_true (by first | (with_reducible assumption) | assumption)
                obtain ⟨ad226, e226, hx226_0⟩ := Kd.at_int HR0.out x5_1 p226 q226
                cases e226
                replace p226 := eq_true p226
                replace q226 := eq_true q226
                have p227 : 0 ≤ (x5_1 : Int) := of_decide_eq_true (by first | (with_reducible assumption) | assumption)
                have q227 : x5_1 < (l1.length : Int) := of_decide_eq_true (by first | (with_reducible assumption) | assumption)
                obtain ⟨ad227, e227, hx227_0⟩ := Kd.at_int HR1.out x5_1 p227 q227
                cases e227
                replace p227 := eq_true p227
                replace q227 := eq_true q227
                go_wp2
                repeat (go_quiet (fail); try go_wp2)
                go_ret
                exact ⟨by first | rfl | (simp; done) | (simp [*]; done), by repeat (first | exact Drawn0.refl _ | apply Drawn0.step)⟩
            · rw [if_neg c6] at H
              exact absurd H (by simp)
          · rw [if_neg c5] at H
            exact absurd H (by simp)
        · rw [if_neg c4] at H
          have c4b0 : decide (x5_1 < (l0.length : Int)) = false := decide_eq_false c4
          clear c4
          obtain rfl := Option.some.inj H
          go_wp2
          repeat (go_quiet (fail); try go_wp2)
          go_ret
          exact ⟨by first | rfl | (simp; done) | (simp [*]; done), by repeat (first | exact Drawn0.refl _ | apply Drawn0.step)⟩
  · rw [if_neg c3] at H
    have c3b0 : ((l0.length : Int) == (l1.length : Int)) = false := beq_eq_false_iff_ne.mpr c3
    have c3b1 : ((l0.length : Int) != (l1.length : Int)) = true := bne_iff_ne.mpr c3
    have c3b2 : (l0.length == l1.length) = false := by first | simpa using c3 | (simp at c3 ⊢; omega)
    obtain rfl := Option.some.inj H
    go_enter Try.func18, Try.ntmps18
    go_wp2
    repeat (go_quiet (fail); try go_wp2)
    go_ret
    exact ⟨by first | rfl | (simp; done) | (simp [*]; done), by repeat (first | exact Drawn0.refl _ | apply Drawn0.step)⟩

/-! ### laws_eqEntry: function 15 -/
def laws_eqEntry.f (a0_0 : Int) (a0_1 : Bool) (a0_2 : Bool) (a0_3 : Bool) (a1_0 : Int) (a1_1 : Bool) (a1_2 : Bool) (a1_3 : Bool) : Option (Bool) := if a0_0 = a1_0 then (if (a0_1 != a1_1) = true then (some false) else (if (a0_2 != a1_2) = true then (some false) else (if (a0_3 != a1_3) = true then (some false) else (some true)))) else (some false)
set_option maxHeartbeats 8000000 in
set_option maxRecDepth 100000 in
theorem laws_eqEntry.calls (a0_0 : Int) (a0_1 : Bool) (a0_2 : Bool) (a0_3 : Bool) (a1_0 : Int) (a1_1 : Bool) (a1_2 : Bool) (a1_3 : Bool) (r : Bool) (w : World) (h : laws_eqEntry.f a0_0 a0_1 a0_2 a0_3 a1_0 a1_1 a1_2 a1_3 = some r) :
    Calls Try.prog 15 #[.agg #[.int .i64 a0_0, .bool a0_1, .bool a0_2, .bool a0_3], .agg #[.int .i64 a1_0, .bool a1_1, .bool a1_2, .bool a1_3]] w fun e w' => e = .returned (.bool r) ∧ Below w.heap.size w w' := by
  have hu37 := Try.underlying37
  have HB := Aside0.mk (Below.refl w.heap.size w)
  have H : (if a0_0 = a1_0 then (if (a0_1 != a1_1) = true then (some false) else (if (a0_2 != a1_2) = true then (some false) else (if (a0_3 != a1_3) = true then (some false) else (some true)))) else (some false)) = some r := h
  clear h
  by_cases c3 : a0_0 = a1_0
  · rw [if_pos c3] at H
    have c3b0 : (a0_0 == a1_0) = true := beq_iff_eq.mpr c3
    have c3b1 : (a0_0 != a1_0) = false := bne_eq_false_iff_eq.mpr c3
    clear c3
    by_cases c4 : (a0_1 != a1_1) = true
    · rw [if_pos c4] at H
      have c4b0 : (a0_1 != a1_1) = true := c4
      (try (have c4b1 : decide (a0_1 = a1_1) = false := by simpa using c4))
      (try (have c4b2 : (a0_1 == a1_1) = false := by simpa using c4))
      (try (have c4b3 : ¬ (a0_1 = a1_1) := by simpa using c4))
      clear c4
      obtain rfl := Option.some.inj H
      go_enter Try.func15, Try.ntmps15
      go_wp2_with (first | ((with_reducible refine gate_dst (N := 2) rfl ?_); refine box_event ?hg (N := 2) ?hd (cs := #[.int .i64 a0_0, .bool a0_1, .bool a0_2, .bool a0_3]) (t := 37) ?hr ?_; (case hd => rfl); (case hg => rfl); (case hr => first | (go_simp; done) | (go_simp; rfl)); intro gb228 hg w5 hbox hb; have n0_ := Aside0.mk (below_step (by repeat (first | (with_reducible first | exact HB.out | apply below_alloc | apply pw_below_drewN | apply below_drew1) | exact HB.out)) hb); have n1_ := Aside0.mk (hbox); have n2_ := Aside0.mk ((by rw [hg]; exact (below_size (by repeat (first | (with_reducible first | exact HB.out | apply below_alloc | apply pw_below_drewN | apply below_drew1) | exact HB.out))) : w.heap.size ≤ gb228)); have n3_ := Aside0.mk ((by rw [hg]; exact (below_size (by repeat (first | (with_reducible first | exact HB.out | apply below_alloc | apply pw_below_drewN | apply below_drew1) | exact HB.out))) : w.heap.size ≤ gb228)); clear HB; have HB := n0_; have BK228 := n1_; have GW228 := n2_; have GE228 := n3_; clear n0_ n1_ n2_ n3_; clear hb hbox hg) | ((with_reducible refine gate_dst (N := 3) rfl ?_); refine box_event ?hg (N := 3) ?hd (cs := #[.int .i64 a1_0, .bool a1_1, .bool a1_2, .bool a1_3]) (t := 37) ?hr ?_; (case hd => rfl); (case hg => rfl); (case hr => first | (go_simp; done) | (go_simp; rfl)); intro gb229 hg w6 hbox hb; have n0_ := Aside0.mk (blk_below (g := gb228) (o := .cells #[.int .i64 a0_0, .bool a0_1, .bool a0_2, .bool a0_3] 37 (0, 0)) (by (with_reducible repeat (first | refine blk_drewN ?_ _ | refine blk_drew ?_ | refine blk_alloc ?_ _)); exact BK228.out) hb); have n1_ := Aside0.mk (below_step (by repeat (first | (with_reducible first | exact HB.out | apply below_alloc | apply pw_below_drewN | apply below_drew1 | refine below_set ?_ GE228.out) | exact HB.out)) hb); have n2_ := Aside0.mk (hbox); have n3_ := Aside0.mk ((by rw [hg]; exact (below_size (by repeat (first | (with_reducible first | exact HB.out | apply below_alloc | apply pw_below_drewN | apply below_drew1 | refine below_set ?_ GE228.out) | exact HB.out))) : w.heap.size ≤ gb229)); have n4_ := Aside0.mk ((by rw [hg]; exact (below_size (by repeat (first | (with_reducible first | exact HB.out | apply below_alloc | apply pw_below_drewN | apply below_drew1 | refine below_set ?_ GE228.out) | exact HB.out))) : w.heap.size ≤ gb229)); have n5_ := Aside0.mk ((by rw [hg]; exact Nat.ne_of_lt (blk_lt (g := gb228) (o := .cells #[.int .i64 a0_0, .bool a0_1, .bool a0_2, .bool a0_3] 37 (0, 0)) (by (with_reducible repeat (first | refine blk_drewN ?_ _ | refine blk_drew ?_ | refine blk_alloc ?_ _)); exact BK228.out)) : gb228 ≠ gb229)); have n6_ := Aside0.mk ((by rw [hg]; exact Nat.ne_of_gt (blk_lt (g := gb228) (o := .cells #[.int .i64 a0_0, .bool a0_1, .bool a0_2, .bool a0_3] 37 (0, 0)) (by (with_reducible repeat (first | refine blk_drewN ?_ _ | refine blk_drew ?_ | refine blk_alloc ?_ _)); exact BK228.out)) : gb229 ≠ gb228)); clear BK228; clear HB; have BK228 := n0_; have HB := n1_; have BK229 := n2_; have GW229 := n3_; have GE229 := n4_; have NB228_229 := n5_; have NB229_228 := n6_; clear n0_ n1_ n2_ n3_ n4_ n5_ n6_; clear hb hbox hg; have hnb7 := NB228_229.out; have hnc7 := NB229_228.out; have hcz8_0 : w6.cell? ⟨gb228, 0, none⟩ = some (.int .i64 a0_0) := (blk_cell BK228.out 0).trans rfl; have hcz8_1 : w6.cell? ⟨gb228, 1, none⟩ = some (.bool a0_1) := (blk_cell BK228.out 1).trans rfl; have hcz8_2 : w6.cell? ⟨gb228, 2, none⟩ = some (.bool a0_2) := (blk_cell BK228.out 2).trans rfl; have hcz8_3 : w6.cell? ⟨gb228, 3, none⟩ = some (.bool a0_3) := (blk_cell BK228.out 3).trans rfl; have hfz8_0 := blk_frozen BK228.out 0; have hfz8_1 := blk_frozen BK228.out 1; have hfz8_2 := blk_frozen BK228.out 2; have hfz8_3 := blk_frozen BK228.out 3; have hcz9_0 : w6.cell? ⟨gb229, 0, none⟩ = some (.int .i64 a1_0) := (blk_cell BK229.out 0).trans rfl; have hcz9_1 : w6.cell? ⟨gb229, 1, none⟩ = some (.bool a1_1) := (blk_cell BK229.out 1).trans rfl; have hcz9_2 : w6.cell? ⟨gb229, 2, none⟩ = some (.bool a1_2) := (blk_cell BK229.out 2).trans rfl; have hcz9_3 : w6.cell? ⟨gb229, 3, none⟩ = some (.bool a1_3) := (blk_cell BK229.out 3).trans rfl; have hfz9_0 := blk_frozen BK229.out 0; have hfz9_1 := blk_frozen BK229.out 1; have hfz9_2 := blk_frozen BK229.out 2; have hfz9_3 := blk_frozen BK229.out 3))
      go_ret
      exact ⟨by first | rfl | (simp [errW_none, errW_some] <;> rfl) | (simp [*, errW_none, errW_some] <;> rfl), by repeat (first | (with_reducible first | exact HB.out | apply below_alloc | apply pw_below_drewN | apply below_drew1 | refine below_set ?_ GE228.out | refine below_set ?_ GE229.out) | exact HB.out)⟩
    · rw [if_neg c4] at H
      have c4b0 : (a0_1 != a1_1) = false := by simpa using c4
      (try (have c4b1 : decide (a0_1 = a1_1) = true := by simpa using c4))
      (try (have c4b2 : (a0_1 == a1_1) = true := by simpa using c4))
      clear c4
      by_cases c10 : (a0_2 != a1_2) = true
      · rw [if_pos c10] at H
        have c10b0 : (a0_2 != a1_2) = true := c10
        (try (have c10b1 : decide (a0_2 = a1_2) = false := by simpa using c10))
        (try (have c10b2 : (a0_2 == a1_2) = false := by simpa using c10))
        (try (have c10b3 : ¬ (a0_2 = a1_2) := by simpa using c10))
        clear c10
        obtain rfl := Option.some.inj H
        go_enter Try.func15, Try.ntmps15
        go_wp2_with (first | ((with_reducible refine gate_dst (N := 2) rfl ?_); refine box_event ?hg (N := 2) ?hd (cs := #[.int .i64 a0_0, .bool a0_1, .bool a0_2, .bool a0_3]) (t := 37) ?hr ?_; (case hd => rfl); (case hg => rfl); (case hr => first | (go_simp; done) | (go_simp; rfl)); intro gb228 hg w11 hbox hb; have n0_ := Aside0.mk (below_step (by repeat (first | (with_reducible first | exact HB.out | apply below_alloc | apply pw_below_drewN | apply below_drew1) | exact HB.out)) hb); have n1_ := Aside0.mk (hbox); have n2_ := Aside0.mk ((by rw [hg]; exact (below_size (by repeat (first | (with_reducible first | exact HB.out | apply below_alloc | apply pw_below_drewN | apply below_drew1) | exact HB.out))) : w.heap.size ≤ gb228)); have n3_ := Aside0.mk ((by rw [hg]; exact (below_size (by repeat (first | (with_reducible first | exact HB.out | apply below_alloc | apply pw_below_drewN | apply below_drew1) | exact HB.out))) : w.heap.size ≤ gb228)); clear HB; have HB := n0_; have BK228 := n1_; have GW228 := n2_; have GE228 := n3_; clear n0_ n1_ n2_ n3_; clear hb hbox hg) | ((with_reducible refine gate_dst (N := 3) rfl ?_); refine box_event ?hg (N := 3) ?hd (cs := #[.int .i64 a1_0, .bool a1_1, .bool a1_2, .bool a1_3]) (t := 37) ?hr ?_; (case hd => rfl); (case hg => rfl); (case hr => first | (go_simp; done) | (go_simp; rfl)); intro gb229 hg w12 hbox hb; have n0_ := Aside0.mk (blk_below (g := gb228) (o := .cells #[.int .i64 a0_0, .bool a0_1, .bool a0_2, .bool a0_3] 37 (0, 0)) (by (with_reducible repeat (first | refine blk_drewN ?_ _ | refine blk_drew ?_ | refine blk_alloc ?_ _)); exact BK228.out) hb); have n1_ := Aside0.mk (below_step (by repeat (first | (with_reducible first | exact HB.out | apply below_alloc | apply pw_below_drewN | apply below_drew1 | refine below_set ?_ GE228.out) | exact HB.out)) hb); have n2_ := Aside0.mk (hbox); have n3_ := Aside0.mk ((by rw [hg]; exact (below_size (by repeat (first | (with_reducible first | exact HB.out | apply below_alloc | apply pw_below_drewN | apply below_drew1 | refine below_set ?_ GE228.out) | exact HB.out))) : w.heap.size ≤ gb229)); have n4_ := Aside0.mk ((by rw [hg]; exact (below_size (by repeat (first | (with_reducible first | exact HB.out | apply below_alloc | apply pw_below_drewN | apply below_drew1 | refine below_set ?_ GE228.out) | exact HB.out))) : w.heap.size ≤ gb229)); have n5_ := Aside0.mk ((by rw [hg]; exact Nat.ne_of_lt (blk_lt (g := gb228) (o := .cells #[.int .i64 a0_0, .bool a0_1, .bool a0_2, .bool a0_3] 37 (0, 0)) (by (with_reducible repeat (first | refine blk_drewN ?_ _ | refine blk_drew ?_ | refine blk_alloc ?_ _)); exact BK228.out)) : gb228 ≠ gb229)); have n6_ := Aside0.mk ((by rw [hg]; exact Nat.ne_of_gt (blk_lt (g := gb228) (o := .cells #[.int .i64 a0_0, .bool a0_1, .bool a0_2, .bool a0_3] 37 (0, 0)) (by (with_reducible repeat (first | refine blk_drewN ?_ _ | refine blk_drew ?_ | refine blk_alloc ?_ _)); exact BK228.out)) : gb229 ≠ gb228)); clear BK228; clear HB; have BK228 := n0_; have HB := n1_; have BK229 := n2_; have GW229 := n3_; have GE229 := n4_; have NB228_229 := n5_; have NB229_228 := n6_; clear n0_ n1_ n2_ n3_ n4_ n5_ n6_; clear hb hbox hg; have hnb13 := NB228_229.out; have hnc13 := NB229_228.out; have hcz14_0 : w12.cell? ⟨gb228, 0, none⟩ = some (.int .i64 a0_0) := (blk_cell BK228.out 0).trans rfl; have hcz14_1 : w12.cell? ⟨gb228, 1, none⟩ = some (.bool a0_1) := (blk_cell BK228.out 1).trans rfl; have hcz14_2 : w12.cell? ⟨gb228, 2, none⟩ = some (.bool a0_2) := (blk_cell BK228.out 2).trans rfl; have hcz14_3 : w12.cell? ⟨gb228, 3, none⟩ = some (.bool a0_3) := (blk_cell BK228.out 3).trans rfl; have hfz14_0 := blk_frozen BK228.out 0; have hfz14_1 := blk_frozen BK228.out 1; have hfz14_2 := blk_frozen BK228.out 2; have hfz14_3 := blk_frozen BK228.out 3; have hcz15_0 : w12.cell? ⟨gb229, 0, none⟩ = some (.int .i64 a1_0) := (blk_cell BK229.out 0).trans rfl; have hcz15_1 : w12.cell? ⟨gb229, 1, none⟩ = some (.bool a1_1) := (blk_cell BK229.out 1).trans rfl; have hcz15_2 : w12.cell? ⟨gb229, 2, none⟩ = some (.bool a1_2) := (blk_cell BK229.out 2).trans rfl; have hcz15_3 : w12.cell? ⟨gb229, 3, none⟩ = some (.bool a1_3) := (blk_cell BK229.out 3).trans rfl; have hfz15_0 := blk_frozen BK229.out 0; have hfz15_1 := blk_frozen BK229.out 1; have hfz15_2 := blk_frozen BK229.out 2; have hfz15_3 := blk_frozen BK229.out 3))
        go_ret
        exact ⟨by first | rfl | (simp [errW_none, errW_some] <;> rfl) | (simp [*, errW_none, errW_some] <;> rfl), by repeat (first | (with_reducible first | exact HB.out | apply below_alloc | apply pw_below_drewN | apply below_drew1 | refine below_set ?_ GE228.out | refine below_set ?_ GE229.out) | exact HB.out)⟩
      · rw [if_neg c10] at H
        have c10b0 : (a0_2 != a1_2) = false := by simpa using c10
        (try (have c10b1 : decide (a0_2 = a1_2) = true := by simpa using c10))
        (try (have c10b2 : (a0_2 == a1_2) = true := by simpa using c10))
        clear c10
        by_cases c16 : (a0_3 != a1_3) = true
        · rw [if_pos c16] at H
          have c16b0 : (a0_3 != a1_3) = true := c16
          (try (have c16b1 : decide (a0_3 = a1_3) = false := by simpa using c16))
          (try (have c16b2 : (a0_3 == a1_3) = false := by simpa using c16))
          (try (have c16b3 : ¬ (a0_3 = a1_3) := by simpa using c16))
          clear c16
          obtain rfl := Option.some.inj H
          go_enter Try.func15, Try.ntmps15
          go_wp2_with (first | ((with_reducible refine gate_dst (N := 2) rfl ?_); refine box_event ?hg (N := 2) ?hd (cs := #[.int .i64 a0_0, .bool a0_1, .bool a0_2, .bool a0_3]) (t := 37) ?hr ?_; (case hd => rfl); (case hg => rfl); (case hr => first | (go_simp; done) | (go_simp; rfl)); intro gb228 hg w17 hbox hb; have n0_ := Aside0.mk (below_step (by repeat (first | (with_reducible first | exact HB.out | apply below_alloc | apply pw_below_drewN | apply below_drew1) | exact HB.out)) hb); have n1_ := Aside0.mk (hbox); have n2_ := Aside0.mk ((by rw [hg]; exact (below_size (by repeat (first | (with_reducible first | exact HB.out | apply below_alloc | apply pw_below_drewN | apply below_drew1) | exact HB.out))) : w.heap.size ≤ gb228)); have n3_ := Aside0.mk ((by rw [hg]; exact (below_size (by repeat (first | (with_reducible first | exact HB.out | apply below_alloc | apply pw_below_drewN | apply below_drew1) | exact HB.out))) : w.heap.size ≤ gb228)); clear HB; have HB := n0_; have BK228 := n1_; have GW228 := n2_; have GE228 := n3_; clear n0_ n1_ n2_ n3_; clear hb hbox hg) | ((with_reducible refine gate_dst (N := 3) rfl ?_); refine box_event ?hg (N := 3) ?hd (cs := #[.int .i64 a1_0, .bool a1_1, .bool a1_2, .bool a1_3]) (t := 37) ?hr ?_; (case hd => rfl); (case hg => rfl); (case hr => first | (go_simp; done) | (go_simp; rfl)); intro gb229 hg w18 hbox hb; have n0_ := Aside0.mk (blk_below (g := gb228) (o := .cells #[.int .i64 a0_0, .bool a0_1, .bool a0_2, .bool a0_3] 37 (0, 0)) (by (with_reducible repeat (first | refine blk_drewN ?_ _ | refine blk_drew ?_ | refine blk_alloc ?_ _)); exact BK228.out) hb); have n1_ := Aside0.mk (below_step (by repeat (first | (with_reducible first | exact HB.out | apply below_alloc | apply pw_below_drewN | apply below_drew1 | refine below_set ?_ GE228.out) | exact HB.out)) hb); have n2_ := Aside0.mk (hbox); have n3_ := Aside0.mk ((by rw [hg]; exact (below_size (by repeat (first | (with_reducible first | exact HB.out | apply below_alloc | apply pw_below_drewN | apply below_drew1 | refine below_set ?_ GE228.out) | exact HB.out))) : w.heap.size ≤ gb229)); have n4_ := Aside0.mk ((by rw [hg]; exact (below_size (by repeat (first | (with_reducible first | exact HB.out | apply below_alloc | apply pw_below_drewN | apply below_drew1 | refine below_set ?_ GE228.out) | exact HB.out))) : w.heap.size ≤ gb229)); have n5_ := Aside0.mk ((by rw [hg]; exact Nat.ne_of_lt (blk_lt (g := gb228) (o := .cells #[.int .i64 a0_0, .bool a0_1, .bool a0_2, .bool a0_3] 37 (0, 0)) (by (with_reducible repeat (first | refine blk_drewN ?_ _ | refine blk_drew ?_ | refine blk_alloc ?_ _)); exact BK228.out)) : gb228 ≠ gb229)); have n6_ := Aside0.mk ((by rw [hg]; exact Nat.ne_of_gt (blk_lt (g := gb228) (o := .cells #[.int .i64 a0_0, .bool a0_1, .bool a0_2, .bool a0_3] 37 (0, 0)) (by (with_reducible repeat (first | refine blk_drewN ?_ _ | refine blk_drew ?_ | refine blk_alloc ?_ _)); exact BK228.out)) : gb229 ≠ gb228)); clear BK228; clear HB; have BK228 := n0_; have HB := n1_; have BK229 := n2_; have GW229 := n3_; have GE229 := n4_; have NB228_229 := n5_; have NB229_228 := n6_; clear n0_ n1_ n2_ n3_ n4_ n5_ n6_; clear hb hbox hg; have hnb19 := NB228_229.out; have hnc19 := NB229_228.out; have hcz20_0 : w18.cell? ⟨gb228, 0, none⟩ = some (.int .i64 a0_0) := (blk_cell BK228.out 0).trans rfl; have hcz20_1 : w18.cell? ⟨gb228, 1, none⟩ = some (.bool a0_1) := (blk_cell BK228.out 1).trans rfl; have hcz20_2 : w18.cell? ⟨gb228, 2, none⟩ = some (.bool a0_2) := (blk_cell BK228.out 2).trans rfl; have hcz20_3 : w18.cell? ⟨gb228, 3, none⟩ = some (.bool a0_3) := (blk_cell BK228.out 3).trans rfl; have hfz20_0 := blk_frozen BK228.out 0; have hfz20_1 := blk_frozen BK228.out 1; have hfz20_2 := blk_frozen BK228.out 2; have hfz20_3 := blk_frozen BK228.out 3; have hcz21_0 : w18.cell? ⟨gb229, 0, none⟩ = some (.int .i64 a1_0) := (blk_cell BK229.out 0).trans rfl; have hcz21_1 : w18.cell? ⟨gb229, 1, none⟩ = some (.bool a1_1) := (blk_cell BK229.out 1).trans rfl; have hcz21_2 : w18.cell? ⟨gb229, 2, none⟩ = some (.bool a1_2) := (blk_cell BK229.out 2).trans rfl; have hcz21_3 : w18.cell? ⟨gb229, 3, none⟩ = some (.bool a1_3) := (blk_cell BK229.out 3).trans rfl; have hfz21_0 := blk_frozen BK229.out 0; have hfz21_1 := blk_frozen BK229.out 1; have hfz21_2 := blk_frozen BK229.out 2; have hfz21_3 := blk_frozen BK229.out 3))
          go_ret
          exact ⟨by first | rfl | (simp [errW_none, errW_some] <;> rfl) | (simp [*, errW_none, errW_some] <;> rfl), by repeat (first | (with_reducible first | exact HB.out | apply below_alloc | apply pw_below_drewN | apply below_drew1 | refine below_set ?_ GE228.out | refine below_set ?_ GE229.out) | exact HB.out)⟩
        · rw [if_neg c16] at H
          have c16b0 : (a0_3 != a1_3) = false := by simpa using c16
          (try (have c16b1 : decide (a0_3 = a1_3) = true := by simpa using c16))
          (try (have c16b2 : (a0_3 == a1_3) = true := by simpa using c16))
          clear c16
          obtain rfl := Option.some.inj H
          go_enter Try.func15, Try.ntmps15
          go_wp2_with (first | ((with_reducible refine gate_dst (N := 2) rfl ?_); refine box_event ?hg (N := 2) ?hd (cs := #[.int .i64 a0_0, .bool a0_1, .bool a0_2, .bool a0_3]) (t := 37) ?hr ?_; (case hd => rfl); (case hg => rfl); (case hr => first | (go_simp; done) | (go_simp; rfl)); intro gb228 hg w22 hbox hb; have n0_ := Aside0.mk (below_step (by repeat (first | (with_reducible first | exact HB.out | apply below_alloc | apply pw_below_drewN | apply below_drew1) | exact HB.out)) hb); have n1_ := Aside0.mk (hbox); have n2_ := Aside0.mk ((by rw [hg]; exact (below_size (by repeat (first | (with_reducible first | exact HB.out | apply below_alloc | apply pw_below_drewN | apply below_drew1) | exact HB.out))) : w.heap.size ≤ gb228)); have n3_ := Aside0.mk ((by rw [hg]; exact (below_size (by repeat (first | (with_reducible first | exact HB.out | apply below_alloc | apply pw_below_drewN | apply below_drew1) | exact HB.out))) : w.heap.size ≤ gb228)); clear HB; have HB := n0_; have BK228 := n1_; have GW228 := n2_; have GE228 := n3_; clear n0_ n1_ n2_ n3_; clear hb hbox hg) | ((with_reducible refine gate_dst (N := 3) rfl ?_); refine box_event ?hg (N := 3) ?hd (cs := #[.int .i64 a1_0, .bool a1_1, .bool a1_2, .bool a1_3]) (t := 37) ?hr ?_; (case hd => rfl); (case hg => rfl); (case hr => first | (go_simp; done) | (go_simp; rfl)); intro gb229 hg w23 hbox hb; have n0_ := Aside0.mk (blk_below (g := gb228) (o := .cells #[.int .i64 a0_0, .bool a0_1, .bool a0_2, .bool a0_3] 37 (0, 0)) (by (with_reducible repeat (first | refine blk_drewN ?_ _ | refine blk_drew ?_ | refine blk_alloc ?_ _)); exact BK228.out) hb); have n1_ := Aside0.mk (below_step (by repeat (first | (with_reducible first | exact HB.out | apply below_alloc | apply pw_below_drewN | apply below_drew1 | refine below_set ?_ GE228.out) | exact HB.out)) hb); have n2_ := Aside0.mk (hbox); have n3_ := Aside0.mk ((by rw [hg]; exact (below_size (by repeat (first | (with_reducible first | exact HB.out | apply below_alloc | apply pw_below_drewN | apply below_drew1 | refine below_set ?_ GE228.out) | exact HB.out))) : w.heap.size ≤ gb229)); have n4_ := Aside0.mk ((by rw [hg]; exact (below_size (by repeat (first | (with_reducible first | exact HB.out | apply below_alloc | apply pw_below_drewN | apply below_drew1 | refine below_set ?_ GE228.out) | exact HB.out))) : w.heap.size ≤ gb229)); have n5_ := Aside0.mk ((by rw [hg]; exact Nat.ne_of_lt (blk_lt (g := gb228) (o := .cells #[.int .i64 a0_0, .bool a0_1, .bool a0_2, .bool a0_3] 37 (0, 0)) (by (with_reducible repeat (first | refine blk_drewN ?_ _ | refine blk_drew ?_ | refine blk_alloc ?_ _)); exact BK228.out)) : gb228 ≠ gb229)); have n6_ := Aside0.mk ((by rw [hg]; exact Nat.ne_of_gt (blk_lt (g := gb228) (o := .cells #[.int .i64 a0_0, .bool a0_1, .bool a0_2, .bool a0_3] 37 (0, 0)) (by (with_reducible repeat (first | refine blk_drewN ?_ _ | refine blk_drew ?_ | refine blk_alloc ?_ _)); exact BK228.out)) : gb229 ≠ gb228)); clear BK228; clear HB; have BK228 := n0_; have HB := n1_; have BK229 := n2_; have GW229 := n3_; have GE229 := n4_; have NB228_229 := n5_; have NB229_228 := n6_; clear n0_ n1_ n2_ n3_ n4_ n5_ n6_; clear hb hbox hg; have hnb24 := NB228_229.out; have hnc24 := NB229_228.out; have hcz25_0 : w23.cell? ⟨gb228, 0, none⟩ = some (.int .i64 a0_0) := (blk_cell BK228.out 0).trans rfl; have hcz25_1 : w23.cell? ⟨gb228, 1, none⟩ = some (.bool a0_1) := (blk_cell BK228.out 1).trans rfl; have hcz25_2 : w23.cell? ⟨gb228, 2, none⟩ = some (.bool a0_2) := (blk_cell BK228.out 2).trans rfl; have hcz25_3 : w23.cell? ⟨gb228, 3, none⟩ = some (.bool a0_3) := (blk_cell BK228.out 3).trans rfl; have hfz25_0 := blk_frozen BK228.out 0; have hfz25_1 := blk_frozen BK228.out 1; have hfz25_2 := blk_frozen BK228.out 2; have hfz25_3 := blk_frozen BK228.out 3; have hcz26_0 : w23.cell? ⟨gb229, 0, none⟩ = some (.int .i64 a1_0) := (blk_cell BK229.out 0).trans rfl; have hcz26_1 : w23.cell? ⟨gb229, 1, none⟩ = some (.bool a1_1) := (blk_cell BK229.out 1).trans rfl; have hcz26_2 : w23.cell? ⟨gb229, 2, none⟩ = some (.bool a1_2) := (blk_cell BK229.out 2).trans rfl; have hcz26_3 : w23.cell? ⟨gb229, 3, none⟩ = some (.bool a1_3) := (blk_cell BK229.out 3).trans rfl; have hfz26_0 := blk_frozen BK229.out 0; have hfz26_1 := blk_frozen BK229.out 1; have hfz26_2 := blk_frozen BK229.out 2; have hfz26_3 := blk_frozen BK229.out 3))
          go_ret
          exact ⟨by first | rfl | (simp [errW_none, errW_some] <;> rfl) | (simp [*, errW_none, errW_some] <;> rfl), by repeat (first | (with_reducible first | exact HB.out | apply below_alloc | apply pw_below_drewN | apply below_drew1 | refine below_set ?_ GE228.out | refine below_set ?_ GE229.out) | exact HB.out)⟩
  · rw [if_neg c3] at H
    have c3b0 : (a0_0 == a1_0) = false := beq_eq_false_iff_ne.mpr c3
    have c3b1 : (a0_0 != a1_0) = true := bne_iff_ne.mpr c3
    obtain rfl := Option.some.inj H
    go_enter Try.func15, Try.ntmps15
    go_wp2_with (first | ((with_reducible refine gate_dst (N := 2) rfl ?_); refine box_event ?hg (N := 2) ?hd (cs := #[.int .i64 a0_0, .bool a0_1, .bool a0_2, .bool a0_3]) (t := 37) ?hr ?_; (case hd => rfl); (case hg => rfl); (case hr => first | (go_simp; done) | (go_simp; rfl)); intro gb228 hg w27 hbox hb; have n0_ := Aside0.mk (below_step (by repeat (first | (with_reducible first | exact HB.out | apply below_alloc | apply pw_below_drewN | apply below_drew1) | exact HB.out)) hb); have n1_ := Aside0.mk (hbox); have n2_ := Aside0.mk ((by rw [hg]; exact (below_size (by repeat (first | (with_reducible first | exact HB.out | apply below_alloc | apply pw_below_drewN | apply below_drew1) | exact HB.out))) : w.heap.size ≤ gb228)); have n3_ := Aside0.mk ((by rw [hg]; exact (below_size (by repeat (first | (with_reducible first | exact HB.out | apply below_alloc | apply pw_below_drewN | apply below_drew1) | exact HB.out))) : w.heap.size ≤ gb228)); clear HB; have HB := n0_; have BK228 := n1_; have GW228 := n2_; have GE228 := n3_; clear n0_ n1_ n2_ n3_; clear hb hbox hg) | ((with_reducible refine gate_dst (N := 3) rfl ?_); refine box_event ?hg (N := 3) ?hd (cs := #[.int .i64 a1_0, .bool a1_1, .bool a1_2, .bool a1_3]) (t := 37) ?hr ?_; (case hd => rfl); (case hg => rfl); (case hr => first | (go_simp; done) | (go_simp; rfl)); intro gb229 hg w28 hbox hb; have n0_ := Aside0.mk (blk_below (g := gb228) (o := .cells #[.int .i64 a0_0, .bool a0_1, .bool a0_2, .bool a0_3] 37 (0, 0)) (by (with_reducible repeat (first | refine blk_drewN ?_ _ | refine blk_drew ?_ | refine blk_alloc ?_ _)); exact BK228.out) hb); have n1_ := Aside0.mk (below_step (by repeat (first | (with_reducible first | exact HB.out | apply below_alloc | apply pw_below_drewN | apply below_drew1 | refine below_set ?_ GE228.out) | exact HB.out)) hb); have n2_ := Aside0.mk (hbox); have n3_ := Aside0.mk ((by rw [hg]; exact (below_size (by repeat (first | (with_reducible first | exact HB.out | apply below_alloc | apply pw_below_drewN | apply below_drew1 | refine below_set ?_ GE228.out) | exact HB.out))) : w.heap.size ≤ gb229)); have n4_ := Aside0.mk ((by rw [hg]; exact (below_size (by repeat (first | (with_reducible first | exact HB.out | apply below_alloc | apply pw_below_drewN | apply below_drew1 | refine below_set ?_ GE228.out) | exact HB.out))) : w.heap.size ≤ gb229)); have n5_ := Aside0.mk ((by rw [hg]; exact Nat.ne_of_lt (blk_lt (g := gb228) (o := .cells #[.int .i64 a0_0, .bool a0_1, .bool a0_2, .bool a0_3] 37 (0, 0)) (by (with_reducible repeat (first | refine blk_drewN ?_ _ | refine blk_drew ?_ | refine blk_alloc ?_ _)); exact BK228.out)) : gb228 ≠ gb229)); have n6_ := Aside0.mk ((by rw [hg]; exact Nat.ne_of_gt (blk_lt (g := gb228) (o := .cells #[.int .i64 a0_0, .bool a0_1, .bool a0_2, .bool a0_3] 37 (0, 0)) (by (with_reducible repeat (first | refine blk_drewN ?_ _ | refine blk_drew ?_ | refine blk_alloc ?_ _)); exact BK228.out)) : gb229 ≠ gb228)); clear BK228; clear HB; have BK228 := n0_; have HB := n1_; have BK229 := n2_; have GW229 := n3_; have GE229 := n4_; have NB228_229 := n5_; have NB229_228 := n6_; clear n0_ n1_ n2_ n3_ n4_ n5_ n6_; clear hb hbox hg; have hnb29 := NB228_229.out; have hnc29 := NB229_228.out; have hcz30_0 : w28.cell? ⟨gb228, 0, none⟩ = some (.int .i64 a0_0) := (blk_cell BK228.out 0).trans rfl; have hcz30_1 : w28.cell? ⟨gb228, 1, none⟩ = some (.bool a0_1) := (blk_cell BK228.out 1).trans rfl; have hcz30_2 : w28.cell? ⟨gb228, 2, none⟩ = some (.bool a0_2) := (blk_cell BK228.out 2).trans rfl; have hcz30_3 : w28.cell? ⟨gb228, 3, none⟩ = some (.bool a0_3) := (blk_cell BK228.out 3).trans rfl; have hfz30_0 := blk_frozen BK228.out 0; have hfz30_1 := blk_frozen BK228.out 1; have hfz30_2 := blk_frozen BK228.out 2; have hfz30_3 := blk_frozen BK228.out 3; have hcz31_0 : w28.cell? ⟨gb229, 0, none⟩ = some (.int .i64 a1_0) := (blk_cell BK229.out 0).trans rfl; have hcz31_1 : w28.cell? ⟨gb229, 1, none⟩ = some (.bool a1_1) := (blk_cell BK229.out 1).trans rfl; have hcz31_2 : w28.cell? ⟨gb229, 2, none⟩ = some (.bool a1_2) := (blk_cell BK229.out 2).trans rfl; have hcz31_3 : w28.cell? ⟨gb229, 3, none⟩ = some (.bool a1_3) := (blk_cell BK229.out 3).trans rfl; have hfz31_0 := blk_frozen BK229.out 0; have hfz31_1 := blk_frozen BK229.out 1; have hfz31_2 := blk_frozen BK229.out 2; have hfz31_3 := blk_frozen BK229.out 3))
    go_ret
    exact ⟨by first | rfl | (simp [errW_none, errW_some] <;> rfl) | (simp [*, errW_none, errW_some] <;> rfl), by repeat (first | (with_reducible first | exact HB.out | apply below_alloc | apply pw_below_drewN | apply below_drew1 | refine below_set ?_ GE228.out | refine below_set ?_ GE229.out) | exact HB.out)⟩

end Go.Proofs.Ytpmglamjgfpmnaa.PFnExactBufferAgrees
