-- Printed by this session's own program (wip/tools/xprint.py) over the kit's print; not trusted: Lean checks it.
import Derived.Test.YtpmglamjgfpmnaaZExactDirtyPagesPFnExactDirtyPagesx0
import Derived.Test.YtpmglamjgfpmnaaZExactDirtyPagesPFnExactDirtyPagesx9
import Derived.Test.YtpmglamjgfpmnaaZExactDirtyPagesPFnExactDirtyPagesx10
namespace Go.Proofs.Ytpmglamjgfpmnaa.PFnExactDirtyPages
open Go.RowKit Go.Proofs.YtpmglamjgfpmnaaW.PrintWords Go.Proofs.YtpmglamjgfpmnaaW.PrintLast Go.Proofs.YtpmglamjgfpmnaaW.PrintMore
attribute [local go_sem] max2_int min2_int max_two min_two max_three min_three max_four min_four   -- for this text's walks alone
set_option linter.unusedVariables false
set_option linter.unusedSimpArgs false

/-! ### impl_DirtyPages: function 23 -/
theorem rising_range : ∀ (s : List Int) (a : Int), s.Pairwise (· < ·) → (∀ x ∈ s, a ≤ x ∧ x ≤ a + s.length - 1) → s = (List.range s.length).map fun (j : Nat) => a + (j : Int)
  | [], _, _, _ => rfl
  | x :: t, a, hp, hb => by
    rw [List.pairwise_cons] at hp
    have hx := hb x List.mem_cons_self
    have ht : t = (List.range t.length).map fun (j : Nat) => (a + 1) + (j : Int) := by
      refine rising_range t (a + 1) hp.2 (fun y hy => ?_)
      have h1 := hp.1 y hy
      have h2 := hb y (List.mem_cons_of_mem _ hy)
      rw [List.length_cons] at h2
      omega
    have e : x = a := by
      by_cases h0 : t.length = 0
      · rw [List.length_cons] at hx; omega
      · have hm : (a + 1) ∈ t := by
          rw [ht]
          exact List.mem_map.2 ⟨0, by simp only [List.mem_range, List.length_map, List.length_range]; omega, by simp⟩
        have := hp.1 _ hm
        omega
    subst e
    rw [List.length_cons, List.range_succ_eq_map, List.map_cons, List.map_map]
    congr 1
    · simp
    · conv => lhs; rw [ht]
      refine List.map_congr_left (fun j _ => ?_)
      simp only [Function.comp_apply]
      omega
theorem orderB_iff (l : List Int) (n : Int) : orderB l n = true ↔ (l.length : Int) = n ∧ (∀ x ∈ l, 0 ≤ x ∧ x ≤ n - 1) ∧ l.Nodup := by
  unfold orderB
  rw [Bool.and_eq_true, decide_eq_true_eq, decide_eq_true_eq]
  constructor
  · rintro ⟨h1, h2⟩
    have hp := sortI_perm l
    refine ⟨h1, fun x hx => ?_, ?_⟩
    · have hx' := hp.mem_iff.2 hx
      rw [h2] at hx'
      obtain ⟨j, hj, rfl⟩ := List.mem_map.1 hx'
      rw [List.mem_range] at hj
      omega
    · refine hp.nodup_iff.1 ?_
      rw [h2]
      unfold List.Nodup
      rw [List.pairwise_map]
      exact List.Pairwise.imp (fun h => by omega) (List.pairwise_lt_range (n := l.length))
  · rintro ⟨h1, h2, h3⟩
    refine ⟨h1, ?_⟩
    have hp := sortI_perm l
    have hn : (sortI l).Nodup := hp.nodup_iff.2 h3
    have hlt : (sortI l).Pairwise (· < ·) := by
      have a := (sortI_le l)
      exact (List.Pairwise.and a hn).imp (fun h => by omega)
    have := rising_range (sortI l) 0 hlt (fun x hx => by
      have := h2 x (hp.mem_iff.1 hx)
      rw [sortI_length]; omega)
    rw [this, sortI_length]
    refine List.map_congr_left (fun j _ => ?_)
    omega
theorem used_mem' (root : List Int) (x : Int) : x ∈ usedL root ↔ x ∈ root ∧ x ≠ -1 := by
  unfold usedL
  rw [List.mem_filter]
  simp
theorem badT_len {t : List S37} (h : badT t = false) : t.length = 8 := by
  unfold badT at h
  rw [Bool.or_eq_false_iff] at h
  have : ((t.length : Int) == 8) = true := by simpa using h.1
  have := beq_iff_eq.1 this
  omega
theorem badT_ent {t : List S37} (h : badT t = false) : ∀ y ∈ t, entB y = true := by
  unfold badT at h
  rw [Bool.or_eq_false_iff, List.any_eq_false] at h
  intro y hy
  have := h.2 y hy
  simpa using this
theorem spaceB_facts {root : List Int} {tabs : List (List S37)} {buf : List S53} (h : spaceB root tabs buf = true) :
    root.length = 8 ∧ tabs.length ≤ 8 ∧ buf.length ≤ 4 ∧ (∀ r ∈ root, r < (tabs.length : Int)) ∧ (∀ t ∈ tabs, t.length = 8) ∧ (∀ c ∈ buf, 0 ≤ c.f0 ∧ c.f0 < 64) ∧ (∀ t ∈ tabs, ∀ y ∈ t, entB y = true) ∧ orderB (usedL root) (tabs.length : Int) = true := by
  unfold spaceB restB condB at h
  simp only [Bool.and_eq_true, Bool.not_eq_true', beq_iff_eq, decide_eq_false_iff_not] at h
  obtain ⟨⟨h1, h2, h3, h4⟩, h5, h6, h7⟩ := h
  have ho := (orderB_iff _ _).1 h3
  rw [List.any_eq_false] at h5 h6
  refine ⟨by omega, by omega, by omega, fun r hr => ?_, fun t ht => badT_len (by simpa using h5 t ht), fun c hc => ?_, fun t ht => badT_ent (by simpa using h5 t ht), h3⟩
  · by_cases e : r = -1
    · omega
    · have := ho.2.1 r ((used_mem' root r).2 ⟨hr, e⟩)
      omega
  · obtain ⟨i, hi, rfl⟩ := List.getElem_of_mem hc
    have := h6 i (List.mem_range.2 hi)
    unfold badAt at this
    rw [getD_lt buf i _ hi] at this
    simp at this
    omega
/-- The entry of a page, if a table has one. -/
def walkE (root : List Int) (tabs : List (List S37)) (p : Int) : Option S37 := if rd root (p / 8) < 0 then none else some ((tabs.getD (rd root (p / 8)).toNat []).getD (p % 8).toNat z37)
/-- What stands at an address reads as an entry. -/
def EntAt (w : World) (ad : Addr) (y : S37) : Prop := w.cell? ad = some (.int .i64 y.f0) ∧ w.cell? ⟨ad.block, ad.off + 1, none⟩ = some (.bool y.f1) ∧ w.cell? ⟨ad.block, ad.off + 2, none⟩ = some (.bool y.f2) ∧ w.cell? ⟨ad.block, ad.off + 3, none⟩ = some (.bool y.f3)
theorem EntAt.below {w w' : World} {ad : Addr} {y : S37} (h : EntAt w ad y) (hb : Below w.heap.size w w') : EntAt w' ad y :=
  ⟨pw_cell_below hb h.1, pw_cell_below hb h.2.1, pw_cell_below hb h.2.2.1, pw_cell_below hb h.2.2.2⟩
def PtrTo (w : World) : Option Addr → Option S37 → Prop
  | none, none => True
  | some ad, some y => EntAt w ad y
  | _, _ => False
set_option maxHeartbeats 400000 in
theorem xEntry (A0 : Option Addr) (c0 : Nat) (root : List Int) (A1 : Option Addr) (c1 : Nat) (tabs : List (List S37)) (A2 : Option Addr) (c2 : Nat) (buf : List S53) (page : Int) (w : World) (hr0 : Kd.C (Kd.int .i64) w A0 root.length root) (hr1 : Kd.C (Kd.slice 37 k37) w A1 tabs.length tabs)
    (h0 : 0 ≤ page) (h1 : page < 64) (h8 : root.length = 8) (hin : ∀ r ∈ root, r < (tabs.length : Int)) (ht : ∀ t ∈ tabs, t.length = 8) :
    Calls Try.prog 73 #[.agg #[.slice A0 root.length c0, .slice A1 tabs.length c1, .slice A2 buf.length c2], .int .i64 page] w fun e w' => (∃ p, e = .returned (.pointer p) ∧ PtrTo w' p (walkE root tabs page)) ∧ Below w.heap.size w w' := by
  obtain ⟨q, hq⟩ : ∃ q, IntKind.i64.wrap (Int.tdiv page 8) = q := ⟨_, rfl⟩
  have eq : q = page / 8 := by rw [← hq, i64_w, Int.tdiv_eq_ediv_of_nonneg h0]; exact wrap_id (by omega) (by omega)
  have q0 : 0 ≤ q := by omega
  have q1 : q < (root.length : Int) := by omega
  obtain ⟨m, hm⟩ : ∃ m, Int.tmod page 8 = m := ⟨_, rfl⟩
  have em : m = page % 8 := by rw [← hm, Int.tmod_eq_emod_of_nonneg h0]
  obtain ⟨t, htt⟩ : ∃ t, rd root q = t := ⟨_, rfl⟩
  have hrt : t ∈ root := by
    rw [← htt]; unfold rd; rw [getD_lt root q.toNat 0 (by omega)]; exact List.getElem_mem _
  have t1 := hin t hrt
  obtain ⟨ad0, e0, hx0⟩ := at_int hr0 q.toNat (by omega)
  subst e0
  rw [show root.getD q.toNat 0 = t from htt] at hx0
  have hE : walkE root tabs page = if t < 0 then none else some ((tabs.getD t.toNat []).getD m.toNat z37) := by
    unfold walkE; rw [← eq, htt, em]
  rw [hE]
  by_cases tn : t < 0
  · rw [if_pos tn]
    have tnb : decide (t < 0) = true := decide_eq_true tn
    clear eq em h8 hin ht hrt htt hE h0 h1 tn
    go_enter Try.func73, Try.ntmps73
    go_wp2_with ((with_reducible refine gate_dst (N := 2) rfl ?_); refine box_event ?hg (N := 2) ?hd (cs := #[.slice (some ad0) root.length c0, .slice A1 tabs.length c1, .slice A2 buf.length c2]) (t := 32) ?hr ?_; (case hd => rfl); (case hg => rfl); (case hr => first | (go_simp; done) | (go_simp; rfl)); intro gb hgb w1 hbox hb; have q0_ := (blk_cell hbox 0).trans rfl; have q1_ := (blk_cell hbox 1).trans rfl; have hx0 := pw_cell_below hb hx0; clear hbox hgb)
    go_ret
    exact ⟨⟨none, rfl, trivial⟩, hb⟩
  · rw [if_neg tn]
    have tnb : decide (t < 0) = false := decide_eq_false tn
    have t0 : 0 ≤ t := by omega
    have hlt : t.toNat < tabs.length := by omega
    obtain ⟨ad, B, cB, e1, hx1, hcB, hC⟩ := at_row hr1 t.toNat hlt
    subst e1
    have hrow : (tabs.getD t.toNat []).length = 8 := ht _ (by rw [getD_lt tabs _ _ hlt]; exact List.getElem_mem _)
    generalize tabs.getD t.toNat [] = row at hx1 hcB hC hrow ⊢
    have m0 : 0 ≤ m := by omega
    have m1 : m < (row.length : Int) := by omega
    obtain ⟨ad2, e2, hy0, hy1, hy2, hy3⟩ := at_T37 hC m m0 m1
    subst e2
    clear eq em h8 hin ht hrt htt hE h0 h1 tn hrow hlt
    go_enter Try.func73, Try.ntmps73
    go_wp2_with ((with_reducible refine gate_dst (N := 2) rfl ?_); refine box_event ?hg (N := 2) ?hd (cs := #[.slice (some ad0) root.length c0, .slice (some ad) tabs.length c1, .slice A2 buf.length c2]) (t := 32) ?hr ?_; (case hd => rfl); (case hg => rfl); (case hr => first | (go_simp; done) | (go_simp; rfl)); intro gb hgb w1 hbox hb; have q0_ := (blk_cell hbox 0).trans rfl; have q1_ := (blk_cell hbox 1).trans rfl; have hx0 := pw_cell_below hb hx0; have hx1 := pw_cell_below hb hx1; clear hbox hgb)
    go_ret
    exact ⟨⟨_, rfl, EntAt.below ⟨hy0, hy1, hy2, hy3⟩ hb⟩, hb⟩
/-- The entry of a mapped page. -/
def mapE (root : List Int) (tabs : List (List S37)) (p : Int) : Option S37 := match walkE root tabs p with
  | none => none
  | some y => if y.f0 < 0 then none else some y
set_option maxHeartbeats 400000 in
theorem xMapped (A0 : Option Addr) (c0 : Nat) (root : List Int) (A1 : Option Addr) (c1 : Nat) (tabs : List (List S37)) (A2 : Option Addr) (c2 : Nat) (buf : List S53) (page : Int) (w : World) (hr0 : Kd.C (Kd.int .i64) w A0 root.length root) (hr1 : Kd.C (Kd.slice 37 k37) w A1 tabs.length tabs)
    (h0 : 0 ≤ page) (h1 : page < 64) (h8 : root.length = 8) (hin : ∀ r ∈ root, r < (tabs.length : Int)) (ht : ∀ t ∈ tabs, t.length = 8) :
    Calls Try.prog 37 #[.agg #[.slice A0 root.length c0, .slice A1 tabs.length c1, .slice A2 buf.length c2], .int .i64 page] w fun e w' => (∃ p, e = .returned (.pointer p) ∧ PtrTo w' p (mapE root tabs page)) ∧ Below w.heap.size w w' := by
  have HC := Aside0.mk (fun W (hb : Below w.heap.size w W) => xEntry A0 c0 root A1 c1 tabs A2 c2 buf page W (Kd.C_below hr0 hb) (Kd.C_below hr1 hb) h0 h1 h8 hin ht)
  have HB := below_alloc (Below.refl w.heap.size w)
  unfold mapE
  generalize walkE root tabs page = E at HC ⊢
  clear hr0 hr1 hin ht h8 h0 h1
  go_enter Try.func37, Try.ntmps37
  go_wp2_with fail
  refine (HC.out _ (HB _)).mono ?_
  rintro e w' ⟨⟨p, rfl, hp⟩, hb⟩
  have hB := below_le (HB _) hb
  cases E with
  | none =>
    cases p with
    | some ad => exact absurd hp id
    | none =>
      go_wp2
      go_ret
      exact ⟨⟨none, rfl, trivial⟩, hB⟩
  | some y =>
    cases p with
    | none => exact absurd hp id
    | some ad =>
      have hq : EntAt w' ad y := hp
      by_cases hy : y.f0 < 0
      · have hyb : decide (y.f0 < 0) = true := decide_eq_true hy
        have hx0 := hq.1
        simp only [if_pos hy]
        go_wp2
        go_ret
        exact ⟨⟨none, rfl, trivial⟩, hB⟩
      · have hyb : decide (y.f0 < 0) = false := decide_eq_false hy
        have hx0 := hq.1
        simp only [if_neg hy]
        go_wp2
        go_ret
        exact ⟨⟨some ad, rfl, hq⟩, hB⟩
/-- The first pages that are mapped to entries of a kind. -/
def pagesL (root : List Int) (tabs : List (List S37)) (p : S37 → Bool) (n : Nat) : List Int := ((List.range n).map fun (j : Nat) => (j : Int)).filter fun q => match mapE root tabs q with
  | none => false
  | some y => p y
theorem pagesL_succ (root : List Int) (tabs : List (List S37)) (p : S37 → Bool) (n : Nat) : pagesL root tabs p (n + 1) = pagesL root tabs p n ++ (match mapE root tabs (n : Int) with
  | none => []
  | some y => if p y = true then [(n : Int)] else []) := by
  unfold pagesL
  rw [List.range_succ, List.map_append, List.filter_append]
  congr 1
  rw [List.map_cons, List.map_nil, List.filter_cons]
  cases mapE root tabs (n : Int) with
  | none => rfl
  | some y => rfl
theorem pagesL_len (root : List Int) (tabs : List (List S37)) (p : S37 → Bool) (n : Nat) : (pagesL root tabs p n).length ≤ n := by
  unfold pagesL
  refine Nat.le_trans (List.length_filter_le _ _) ?_
  simp
set_option maxHeartbeats 800000 in
set_option maxRecDepth 100000 in
theorem xWhere (cl : Nat) (eg : Enters Try.prog cl) (p : S37 → Bool) (hp : ∀ (W : World) (y : S37), Calls Try.prog cl #[.agg #[.int .i64 y.f0, .bool y.f1, .bool y.f2, .bool y.f3]] W fun e w' => e = .returned (.bool (p y)) ∧ Below W.heap.size W w')
    (A0 : Option Addr) (c0 : Nat) (root : List Int) (A1 : Option Addr) (c1 : Nat) (tabs : List (List S37)) (A2 : Option Addr) (c2 : Nat) (buf : List S53) (w : World) (hr0 : Kd.C (Kd.int .i64) w A0 root.length root) (hc0 : root.length ≤ c0) (hr1 : Kd.C (Kd.slice 37 k37) w A1 tabs.length tabs) (hc1 : tabs.length ≤ c1) (hr2 : Kd.C k53 w A2 buf.length buf) (hc2 : buf.length ≤ c2)
    (hv : impl_ValidSpace.f root tabs buf = some true) (h8 : root.length = 8) (hin : ∀ r ∈ root, r < (tabs.length : Int)) (ht : ∀ t ∈ tabs, t.length = 8) :
    Calls Try.prog 43 #[.agg #[.slice A0 root.length c0, .slice A1 tabs.length c1, .slice A2 buf.length c2], .func (.func cl) #[] #[]] w fun e w' => (∃ v, e = .returned (.tuple #[v, .bool true]) ∧ Kd.R (Kd.int .i64) 2 w' w.heap.size (fun _ => True) v (pagesL root tabs p 64)) ∧ Below w.heap.size w w' := by
  have HV := Aside0.mk hv
  have HR0 := Aside0.mk hr0
  have HR1 := Aside0.mk hr1
  have HR2 := Aside0.mk hr2
  have HM := Aside0.mk (fun pg (h0 : 0 ≤ pg) (h1 : pg < 64) W (hb : Below w.heap.size w W) => xMapped A0 c0 root A1 c1 tabs A2 c2 buf pg W (Kd.C_below hr0 hb) (Kd.C_below hr1 hb) h0 h1 h8 hin ht)
  have HP := Aside0.mk hp
  have HS := St.box (St.start w) #[.slice A0 root.length c0, .slice A1 tabs.length c1, .slice A2 buf.length c2] 32
  have eg' : ∀ args w, (callFunc cl args).run Try.prog w = .ok (.enter cl args) w := eg
  clear hr0 hr1 hr2 h8 hin ht hv hp
  go_enter Try.func43, Try.ntmps43
  go_wp2_with fail
  refine (impl_ValidSpace.calls A0 c0 root A1 c1 tabs A2 c2 buf true _ (Kd.C_below HR0.out HS.below) hc0 (Kd.C_below HR1.out HS.below) hc1 (Kd.C_below HR2.out HS.below) hc2 HV.out).mono ?_
  rintro e w1 ⟨rfl, hb⟩
  replace HS := HS.step hb
  clear hb
  have BG := Aside0.mk (HS.blk (cs := #[.slice A0 root.length c0, .slice A1 tabs.length c1, .slice A2 buf.length c2]) (t := 32) List.mem_cons_self)
  have HB := Aside0.mk HS.below
  clear HS
  go_wp2_with ((with_reducible refine gate_dst (N := 12) rfl ?_); refine Kd.R_lit (Kd.int .i64) _ 2 ?hg (N := 12) ?hd (xs := ([] : List Int)) (inner := []) (ok := fun k => w.heap.size < k) (okp := fun k => w.heap.size < k) ?hr ?hp (fun _ hk => hk) (blk_lt BG.out) (Below.refl _ _) (Nat.le_refl _) (by simp) ?_; (case hd => rfl); (case hg => rfl); (case hr => first | (go_simp; done) | (go_simp; rfl)); (case hp => exact (Reps.none _ _)); intro v_ w3 ho hb hg_ hnew_; clear hg_ hnew_)
  go_loopg [6, 13] 64 (fun gg so sp wr => ∃ kk : Nat, kk ≤ 64 ∧ 64 - kk ≤ gg ∧ sp = .int .i64 kk ∧ Aside0 (Kd.R (Kd.int .i64) 2 wr w.heap.size (fun k => w.heap.size < k) so (pagesL root tabs p kk)) ∧ Aside0 (wr.heap[w.heap.size]? = some (.cells #[.slice A0 root.length c0, .slice A1 tabs.length c1, .slice A2 buf.length c2] 32 (0, 0))) ∧ Aside0 (Below w.heap.size w wr))
  case atStart => exact ⟨0, by omega, by omega, rfl, ⟨Kd.R_lower ho HB.out.size⟩, ⟨blk_below BG.out hb⟩, ⟨below_le HB.out hb⟩⟩
  case round =>
    clear ho hb BG HB
    obtain ⟨kk, hkk, hg, rfl, RO, BG, BW⟩ := hrel
    have hB := BW.out
    have p0 := (blk_cell BG.out 0).trans rfl
    have p1 := (blk_cell BG.out 1).trans rfl
    have p2 := (blk_cell BG.out 2).trans rfl
    by_cases hlt : kk < 64
    · have hltz : decide ((kk : Int) < 64) = true := decide_eq_true (by omega)
      have hcall := Aside0.mk (HM.out kk (by omega) (by omega) _ BW.out)
      obtain ⟨E, hE⟩ : ∃ E, E = mapE root tabs (kk : Int) := ⟨_, rfl⟩
      rw [← hE] at hcall
      have HPL := Aside0.mk (pagesL_succ root tabs p kk)
      rw [← hE] at HPL
      have HLN := Aside0.mk (pagesL_len root tabs p kk)
      clear hE
      go_wp2_with fail
      refine hcall.out.mono ?_
      rintro e w2 ⟨⟨pt, rfl, hp⟩, hb⟩
      have hB2 := below_le BW.out hb
      have R2 := Aside0.mk (Kd.R_below RO.out hb)
      have G2 := Aside0.mk (blk_below BG.out hb)
      clear RO BG hB hb hcall
      cases E with
      | none =>
        cases pt with
        | some ad => exact absurd hp id
        | none =>
          go_wp2_with fail
          go_roundg (64 - (kk + 1))
          case measure => omega
          case rel => exact ⟨kk + 1, by omega, by omega, by go_num, ⟨by rw [HPL.out, List.append_nil]; exact R2.out⟩, G2, ⟨hB2⟩⟩
      | some y =>
        cases pt with
        | none => exact absurd hp id
        | some ad =>
          obtain ⟨y0, y1, y2, y3⟩ : EntAt w2 ad y := hp
          have hcl := Aside0.mk (HP.out w2 y)
          obtain ⟨b, hb⟩ : ∃ b, p y = b := ⟨_, rfl⟩
          simp only [hb] at hcl HPL
          cases b with
          | false =>
            go_wp2_with fail
            refine hcl.out.mono ?_
            rintro e w3 ⟨rfl, hb3⟩
            clear y0 y1 y2 y3
            go_wp2_with fail
            go_roundg (64 - (kk + 1))
            case measure => omega
            case rel => exact ⟨kk + 1, by omega, by omega, by go_num, ⟨by rw [HPL.out]; simp only [if_neg (show ¬ (false = true) by decide), List.append_nil]; exact Kd.R_below R2.out hb3⟩, ⟨blk_below G2.out hb3⟩, ⟨below_le hB2 hb3⟩⟩
          | true =>
            go_wp2_with fail
            refine hcl.out.mono ?_
            rintro e w3 ⟨rfl, hb3⟩
            have R3 := Aside0.mk (Kd.R_below R2.out hb3)
            have G3 := Aside0.mk (blk_below G2.out hb3)
            have B3 := Aside0.mk (below_le hB2 hb3)
            clear y0 y1 y2 y3 R2 G2 hB2 hb3 BW
            go_wp2_with ((with_reducible refine gate_builtin (b := .append) (xs := #[.tmp 28, .tmp 30]) rfl ?_); at_builtin; refine Kd.R_append (Kd.int .i64) (w0 := w) w.heap.size rfl (.tmp 28) (.tmp 30) 22 2 (.int .i64 0) 8 rfl Try.underlying22 info2 rfl (by decide) (by omega) u6 (pagesL root tabs p kk) (kk : Int) [.int .i64 (kk : Int)] (fun k => w.heap.size < k) (fun _ => False) rfl (by first | (go_simp; done) | (go_simp; rfl)) ?aP (fun _ hk => hk.elim) ?aF ?aO ?aB ?aS ?aL ?_; (case aP => exact rfl); (case aB => exact B3.out); (case aF => exact (fun _ hk => Nat.lt_of_lt_of_le (blk_lt G3.out) hk)); (case aO => exact R3.out); (case aS => exact B3.out.size); (case aL => have := HLN.out; omega); intro v4 w4 ho hb hg hat)
            have hne : some w.heap.size ≠ u6.ownBlock := fun e => Nat.lt_irrefl _ (R3.out.1 _ e.symm)
            go_roundg (64 - (kk + 1))
            case measure => omega
            case rel => exact ⟨kk + 1, by omega, by omega, by go_num, ⟨by rw [HPL.out]; simp only [if_true]; exact ho⟩, ⟨blk_grown G3.out hg hne⟩, ⟨hb⟩⟩
    · have hltz : decide ((kk : Int) < 64) = false := decide_eq_false (by omega)
      obtain rfl : kk = 64 := by omega
      have RO := Aside0.mk (Kd.R_mono RO.out (fun _ _ => trivial) (ok' := fun _ => True))
      go_wp2_with fail
      go_ret2
      exact ⟨⟨_, rfl, RO.out⟩, hB⟩
theorem nil_R (w : World) (b : Nat) (e : Nat) : Kd.R (Kd.int .i64) e w b (fun _ => True) (.slice none 0 0) [] := Kd.R_of_own (own_nil w b e 1) (fun _ _ => trivial)
set_option maxHeartbeats 800000 in
theorem xWhere_bad (cl : Nat) (A0 : Option Addr) (c0 : Nat) (root : List Int) (A1 : Option Addr) (c1 : Nat) (tabs : List (List S37)) (A2 : Option Addr) (c2 : Nat) (buf : List S53) (w : World) (hr0 : Kd.C (Kd.int .i64) w A0 root.length root) (hc0 : root.length ≤ c0) (hr1 : Kd.C (Kd.slice 37 k37) w A1 tabs.length tabs) (hc1 : tabs.length ≤ c1) (hr2 : Kd.C k53 w A2 buf.length buf) (hc2 : buf.length ≤ c2) (hv : impl_ValidSpace.f root tabs buf = some false) :
    Calls Try.prog 43 #[.agg #[.slice A0 root.length c0, .slice A1 tabs.length c1, .slice A2 buf.length c2], .func (.func cl) #[] #[]] w fun e w' => e = .returned (.tuple #[.slice none 0 0, .bool false]) ∧ Below w.heap.size w w' := by
  have HV := Aside0.mk hv
  have HR0 := Aside0.mk hr0
  have HR1 := Aside0.mk hr1
  have HR2 := Aside0.mk hr2
  have HS := St.box (St.start w) #[.slice A0 root.length c0, .slice A1 tabs.length c1, .slice A2 buf.length c2] 32
  clear hr0 hr1 hr2 hv
  go_enter Try.func43, Try.ntmps43
  go_wp2_with fail
  refine (impl_ValidSpace.calls A0 c0 root A1 c1 tabs A2 c2 buf false _ (Kd.C_below HR0.out HS.below) hc0 (Kd.C_below HR1.out HS.below) hc1 (Kd.C_below HR2.out HS.below) hc2 HV.out).mono ?_
  rintro e w1 ⟨rfl, hb⟩
  replace HS := HS.step hb
  go_wp2_with fail
  go_ret2
  exact ⟨rfl, HS.below⟩
def pagesR (root : List Int) (tabs : List (List S37)) (buf : List S53) (p : S37 → Bool) : List Int × Bool := if spaceB root tabs buf = true then (pagesL root tabs p 64, true) else ([], false)
theorem xWhereR (cl : Nat) (eg : Enters Try.prog cl) (p : S37 → Bool) (hp : ∀ (W : World) (y : S37), Calls Try.prog cl #[.agg #[.int .i64 y.f0, .bool y.f1, .bool y.f2, .bool y.f3]] W fun e w' => e = .returned (.bool (p y)) ∧ Below W.heap.size W w')
    (A0 : Option Addr) (c0 : Nat) (root : List Int) (A1 : Option Addr) (c1 : Nat) (tabs : List (List S37)) (A2 : Option Addr) (c2 : Nat) (buf : List S53) (w : World) (hr0 : Kd.C (Kd.int .i64) w A0 root.length root) (hc0 : root.length ≤ c0) (hr1 : Kd.C (Kd.slice 37 k37) w A1 tabs.length tabs) (hc1 : tabs.length ≤ c1) (hr2 : Kd.C k53 w A2 buf.length buf) (hc2 : buf.length ≤ c2) (hl : root.length ≤ 1048576) :
    Calls Try.prog 43 #[.agg #[.slice A0 root.length c0, .slice A1 tabs.length c1, .slice A2 buf.length c2], .func (.func cl) #[] #[]] w fun e w' => (∃ v, e = .returned (.tuple #[v, .bool (pagesR root tabs buf p).2]) ∧ Kd.R (Kd.int .i64) 2 w' w.heap.size (fun _ => True) v (pagesR root tabs buf p).1) ∧ Below w.heap.size w w' := by
  have HP : impl_ValidSpace.f root tabs buf = some (spaceB root tabs buf) := if_pos hl
  unfold pagesR
  cases hB : spaceB root tabs buf with
  | false =>
    rw [hB] at HP
    refine (xWhere_bad cl A0 c0 root A1 c1 tabs A2 c2 buf w hr0 hc0 hr1 hc1 hr2 hc2 HP).mono ?_
    rintro e w' ⟨rfl, hb⟩
    exact ⟨⟨_, rfl, nil_R _ _ _⟩, hb⟩
  | true =>
    rw [hB] at HP
    obtain ⟨f1, f2, f3, f4, f5, _⟩ := spaceB_facts hB
    exact xWhere cl eg p hp A0 c0 root A1 c1 tabs A2 c2 buf w hr0 hc0 hr1 hc1 hr2 hc2 HP f1 f4 f5
def pDirtyPages (y : S37) : Bool := y.f3
theorem xDirtyPages1 (W : World) (y : S37) : Calls Try.prog 47 #[.agg #[.int .i64 y.f0, .bool y.f1, .bool y.f2, .bool y.f3]] W fun e w' => e = .returned (.bool (pDirtyPages y)) ∧ Below W.heap.size W w' := by
  unfold pDirtyPages
  go_enter Try.func47, Try.ntmps47
  go_wp2_with fail
  go_ret
  exact ⟨rfl, by first | exact below_alloc (Below.refl _ _) _ | exact Below.refl _ _⟩
def impl_DirtyPages.f (root : List Int) (tabs : List (List S37)) (buf : List S53) : Option (List Int × Bool) := if root.length ≤ 1048576 then some (pagesR root tabs buf pDirtyPages) else none
set_option maxHeartbeats 800000 in
theorem impl_DirtyPages.calls (A0_0 : Option Addr) (c0_0 : Nat) (l0_0 : List Int) (A0_1 : Option Addr) (c0_1 : Nat) (l0_1 : List (List S37)) (A0_2 : Option Addr) (c0_2 : Nat) (l0_2 : List S53) (r1 : List Int) (r2 : Bool) (w : World) (hr0_0 : Kd.C (Kd.int .i64) w A0_0 l0_0.length l0_0) (hc0_0 : l0_0.length ≤ c0_0) (hr0_1 : Kd.C (Kd.slice 37 k37) w A0_1 l0_1.length l0_1) (hc0_1 : l0_1.length ≤ c0_1) (hr0_2 : Kd.C k53 w A0_2 l0_2.length l0_2) (hc0_2 : l0_2.length ≤ c0_2) (h : impl_DirtyPages.f l0_0 l0_1 l0_2 = some (r1, r2)) :
    Calls Try.prog 23 #[.agg #[.slice A0_0 l0_0.length c0_0, .slice A0_1 l0_1.length c0_1, .slice A0_2 l0_2.length c0_2]] w fun e w' => ∃ v0_ : Value, e = .returned (.tuple #[v0_, .bool r2]) ∧ Kd.R (Kd.int .i64) 2 w' w.heap.size (fun _ => True) v0_ r1 ∧ Below w.heap.size w w' := by
  unfold impl_DirtyPages.f at h
  split at h
  · rename_i hl
    have h := Option.some.inj h
    have HS := St.box (St.start w) #[.slice A0_0 l0_0.length c0_0, .slice A0_1 l0_1.length c0_1, .slice A0_2 l0_2.length c0_2] 32
    have HC := Aside0.mk (xWhereR 47 (enters_of Try.func47 (by kernel_rfl) rfl) pDirtyPages xDirtyPages1 A0_0 c0_0 l0_0 A0_1 c0_1 l0_1 A0_2 c0_2 l0_2 _ (Kd.C_below hr0_0 HS.below) hc0_0 (Kd.C_below hr0_1 HS.below) hc0_1 (Kd.C_below hr0_2 HS.below) hc0_2 hl)
    rw [h] at HC
    clear hr0_0 hr0_1 hr0_2 hl h
    go_enter Try.func23, Try.ntmps23
    go_wp2_with fail
    refine HC.out.mono ?_
    rintro e w1 ⟨⟨v, rfl, hv⟩, hb⟩
    have hB := below_le HS.below hb
    have hR := Aside0.mk (Kd.R_lower hv HS.below.size)
    clear hv hb HS
    go_wp2_with fail
    go_ret2
    exact ⟨_, rfl, hR.out, hB⟩
  · cases h


/-! ### laws_markCachedS: function 46 -/
def laws_markCachedS.l0 : Nat → List (S53) → Int → Int → Option (Int × (List (S53)))
  | 0, _, _, _ => none
  | k + 1, x0, x1, x5 => if x5 < (x0.length : Int) then (if 0 ≤ x5 then ((some (x0.set (x5 : Int).toNat (⟨x1, (rd_T53 x0 x5).f1, (rd_T53 x0 x5).f2⟩ : S53) : List (S53))).bind fun y265 => ((some (y265.set (x5 : Int).toNat (⟨(rd_T53 y265 x5).f0, wrap64 (x1 + 1), (rd_T53 y265 x5).f2⟩ : S53) : List (S53))).bind fun y266 => (laws_markCachedS.l0 k (y266.set (x5 : Int).toNat (⟨(rd_T53 y266 x5).f0, (rd_T53 y266 x5).f1, ((Int.tmod (wrap64 ((wrap64 (x1 + 1)) + 1)) 3) == 0)⟩ : S53)) (wrap64 ((wrap64 ((wrap64 (x1 + 1)) + 1)) + 1)) (wrap64 (x5 + 1))))) else (none)) else (some (x1, x0))
def laws_markCachedS.f (k : Nat) (l0 : List (S53)) (a1 : Int) : Option (Int × (List (S53))) := laws_markCachedS.l0 k l0 a1 0
theorem laws_markCachedS.mono_l : ∀ k, (∀ y0 y1 y2, LeO (laws_markCachedS.l0 k y0 y1 y2) (laws_markCachedS.l0 (k + 1) y0 y1 y2))
  | 0 => fun _ _ _ r h => by simp [laws_markCachedS.l0] at h
  | k + 1 => by
    have ih0 := laws_markCachedS.mono_l k
    · intro y0 y1 y2
      unfold laws_markCachedS.l0
      repeat' first
      | (with_reducible exact ih0 _ _ _)
      | (with_reducible exact LeO.refl _)
      | (with_reducible exact LeO.none _)
      | (with_reducible refine LeO.ite ?_ ?_)
      | (with_reducible refine LeO.bind ?_ (fun _ => ?_))
      | exact ih0 _ _ _
      | exact LeO.none _
      | refine LeO.ite ?_ ?_
      | refine LeO.bind ?_ (fun _ => ?_)
theorem laws_markCachedS.mono : ∀ a0 a1 k, LeO (laws_markCachedS.f k a0 a1) (laws_markCachedS.f (k + 1) a0 a1) := by
  intro a0 a1 k
  have ih0 := laws_markCachedS.mono_l k
  unfold laws_markCachedS.f
  repeat' first
      | (with_reducible exact ih0 _ _ _)
      | (with_reducible exact LeO.refl _)
      | (with_reducible exact LeO.none _)
      | (with_reducible refine LeO.ite ?_ ?_)
      | (with_reducible refine LeO.bind ?_ (fun _ => ?_))
      | exact ih0 _ _ _
      | exact LeO.none _
      | refine LeO.ite ?_ ?_
      | refine LeO.bind ?_ (fun _ => ?_)
set_option maxHeartbeats 8000000 in
set_option maxRecDepth 100000 in
theorem laws_markCachedS.calls (k : Nat) (P0_ : Nat → Prop) (u9000_ : Value) (l0 : List (S53)) (a1 : Int) (r1 : Int) (r2 : List (S53)) (w0 w : World) (hB : Below w0.heap.size w0 w) (ho0 : Kd.R k53 53 w w0.heap.size P0_ u9000_ l0) (h : laws_markCachedS.f k l0 a1 = some (r1, r2)) :
    Calls Try.prog 46 #[u9000_, .int .i64 a1] w fun e w' => e = .returned (.int .i64 r1) ∧ Kd.R k53 53 w' w0.heap.size (fun k_ => (P0_ k_ ∨ w.heap.size ≤ k_)) u9000_ r2 ∧ Below w0.heap.size w0 w' ∧ Kept w w' (fun k_ => P0_ k_) := by
  have HO0 := Aside0.mk (show Kd.R k53 53 w w0.heap.size (fun k_ => (P0_ k_ ∨ w.heap.size ≤ k_)) u9000_ l0 from Kd.R_mono ho0 (fun k_ hk => (.inl hk)))
  have HK := Aside0.mk (Kept.refl w (fun k_ => P0_ k_))
  have HW0 := Aside0.mk hB.size
  have HB := Aside0.mk hB
  clear hB
  have H : (laws_markCachedS.l0 k l0 a1 0) = some (r1, r2) := h
  clear h
  have H' := Aside0.mk H
  clear H
  go_enter Try.func46, Try.ntmps46
  go_wp2
  go_loopg [1, 5] k (fun kq v1 v5 w' => ∃ (x0_1 : List (S53)) (x1_1 : Int) (x5_1 : Int), v1 = .int .i64 x1_1 ∧ v5 = .int .i64 x5_1 ∧ Aside0 (laws_markCachedS.l0 kq x0_1 x1_1 x5_1 = some (r1, r2)) ∧ Aside0 (kq ≤ k) ∧ Aside0 (Kd.R k53 53 w' w0.heap.size (fun k_ => (P0_ k_ ∨ w.heap.size ≤ k_)) u9000_ x0_1) ∧ Aside0 (Kept w w' (fun k_ => P0_ k_)) ∧ Aside0 (Below w0.heap.size w0 w'))
  case atStart => exact ⟨(l0), (a1), (0), (by first | rfl | (simp; done) | (simp [*]; done)), (by first | rfl | (simp; done) | (simp [*]; done)), H', ⟨Nat.le_refl _⟩, ⟨by (with_reducible repeat (first | apply Kd.R_alloc | apply Kd.R_drewN | apply Kd.R_drew)); exact HO0.out⟩, ⟨by repeat (first | (with_reducible first | exact HK.out | apply Kept.alloc | apply Kept.drewN | apply Kept.drew) | exact HK.out)⟩, ⟨by repeat (first | (with_reducible first | exact HB.out | apply below_alloc | apply pw_below_drewN | apply below_drew1) | exact HB.out)⟩⟩
  case round =>
    clear H'
    try clear p2
    obtain ⟨x0_1, x1_1, x5_1, rfl, rfl, HA, HK1, HO_0, HK, HB⟩ := hrel
    cases gk with
    | zero => exact absurd HA.out (by simp [laws_markCachedS.l0])
    | succ k1 =>
      have H := HA.out
      clear HA
      simp only [laws_markCachedS.l0] at H
      by_cases c3 : x5_1 < (x0_1.length : Int)
      · rw [if_pos c3] at H
        have c3b0 : decide (x5_1 < (x0_1.length : Int)) = true := decide_eq_true c3
        clear c3
        by_cases c4 : 0 ≤ x5_1
        · rw [if_pos c4] at H
          have c4b0 : decide (0 ≤ x5_1) = true := decide_eq_true c4
          clear c4
          obtain ⟨y265, hy265⟩ : ∃ y_ : List (S53), y_ = (x0_1.set (x5_1 : Int).toNat (⟨x1_1, (rd_T53 x0_1 x5_1).f1, (rd_T53 x0_1 x5_1).f2⟩ : S53)) := ⟨_, rfl⟩
          replace H : ((some (y265.set (x5_1 : Int).toNat (⟨(rd_T53 y265 x5_1).f0, wrap64 (x1_1 + 1), (rd_T53 y265 x5_1).f2⟩ : S53) : List (S53))).bind fun y266 => (laws_markCachedS.l0 k1 (y266.set (x5_1 : Int).toNat (⟨(rd_T53 y266 x5_1).f0, (rd_T53 y266 x5_1).f1, ((Int.tmod (wrap64 ((wrap64 (x1_1 + 1)) + 1)) 3) == 0)⟩ : S53)) (wrap64 ((wrap64 ((wrap64 (x1_1 + 1)) + 1)) + 1)) (wrap64 (x5_1 + 1)))) = some (r1, r2) := by first | (rw [hy265]; with_reducible exact H) | (have H2_ := (Option.bind_some _ _).symm.trans H; rw [hy265]; with_reducible exact H2_) | (have H2_ := (Option.bind_some _ _).symm.trans H; with_reducible exact H2_) | with_reducible exact H | (rw [hy265]; exact H) | exact H
          have Ny265 := Aside0.mk hy265
          clear hy265
          obtain ⟨y266, hy266⟩ : ∃ y_ : List (S53), y_ = (y265.set (x5_1 : Int).toNat (⟨(rd_T53 y265 x5_1).f0, wrap64 (x1_1 + 1), (rd_T53 y265 x5_1).f2⟩ : S53)) := ⟨_, rfl⟩
          replace H : (laws_markCachedS.l0 k1 (y266.set (x5_1 : Int).toNat (⟨(rd_T53 y266 x5_1).f0, (rd_T53 y266 x5_1).f1, ((Int.tmod (wrap64 ((wrap64 (x1_1 + 1)) + 1)) 3) == 0)⟩ : S53)) (wrap64 ((wrap64 ((wrap64 (x1_1 + 1)) + 1)) + 1)) (wrap64 (x5_1 + 1))) = some (r1, r2) := by first | (rw [hy266]; with_reducible exact H) | (have H2_ := (Option.bind_some _ _).symm.trans H; rw [hy266]; with_reducible exact H2_) | (have H2_ := (Option.bind_some _ _).symm.trans H; with_reducible exact H2_) | with_reducible exact H | (rw [hy266]; exact H) | exact H
          have Ny266 := Aside0.mk hy266
          clear hy266
          obtain ⟨y267, hy267⟩ : ∃ y_ : List (S53), y_ = (y266.set (x5_1 : Int).toNat (⟨(rd_T53 y266 x5_1).f0, (rd_T53 y266 x5_1).f1, ((Int.tmod (wrap64 ((wrap64 (x1_1 + 1)) + 1)) 3) == 0)⟩ : S53)) := ⟨_, rfl⟩
          replace H : (laws_markCachedS.l0 k1 y267 (wrap64 ((wrap64 ((wrap64 (x1_1 + 1)) + 1)) + 1)) (wrap64 (x5_1 + 1))) = some (r1, r2) := by first | (rw [hy267]; with_reducible exact H) | (have H2_ := (Option.bind_some _ _).symm.trans H; rw [hy267]; with_reducible exact H2_) | (have H2_ := (Option.bind_some _ _).symm.trans H; with_reducible exact H2_) | with_reducible exact H | (rw [hy267]; exact H) | exact H
          have Ny267 := Aside0.mk hy267
          clear hy267
          have H' := Aside0.mk H
          clear H
          obtain ⟨Ao8, co8, eo8⟩ := Kd.R_slice HO_0.out
          subst eo8
          have p5 : 0 ≤ (x5_1 : Int) := of_decide_eq_true (by first | (with_reducible assumption) | assumption)
          have q5 : (x5_1 : Int) < ((x0_1.length : Int) : Int) := of_decide_eq_true (by first | (with_reducible assumption) | assumption)
          obtain ⟨go5, co5, eo5, gb5, gl5, cl5, HG5⟩ := Kd.R_form HO_0.out (by omega)
          (first | cases eo5 | (injection eo5 with ea_ en_ ec_; (first | subst ea_ | (injection ea_ with ea_; subst ea_)); subst ec_; clear en_))
          have GB5 := Aside0.mk gb5
          have GG5 := Aside0.mk HG5
          clear gb5 gl5 HG5
          have HMgo5 := Aside0.mk (show (P0_ go5 ∨ w.heap.size ≤ go5) from (HO_0.out.1 _ rfl))
          obtain ⟨ce5, hcl5, hM5, hcc5, hfr5⟩ := Kd.R_elem HO_0.out z53 (x5_1 : Int) p5 q5
          obtain rfl := k53_openM hM5
          have hx5_0 : wr.cell? ⟨go5, (x5_1 : Int).toNat * 3, none⟩ = some (.int .i64 ((rd_T53 x0_1 x5_1).f0)) := hcc5 0 _ rfl
          have hx5_1 : wr.cell? ⟨go5, (x5_1 : Int).toNat * 3 + 1, none⟩ = some (.int .i64 ((rd_T53 x0_1 x5_1).f1)) := hcc5 1 _ rfl
          have hx5_2 : wr.cell? ⟨go5, (x5_1 : Int).toNat * 3 + 2, none⟩ = some (.bool ((rd_T53 x0_1 x5_1).f2)) := hcc5 2 _ rfl
          have hf5_0 : wr.frozen? ⟨go5, (x5_1 : Int).toNat * 3, none⟩ = false := hfr5 0
          have hf5_1 : wr.frozen? ⟨go5, (x5_1 : Int).toNat * 3 + 1, none⟩ = false := hfr5 1
          have hf5_2 : wr.frozen? ⟨go5, (x5_1 : Int).toNat * 3 + 2, none⟩ = false := hfr5 2
          (try clear hcl5); (try clear hcc5); (try clear hfr5); (try clear hM5)
          replace p5 := eq_true p5
          replace q5 := eq_true q5
          have HX9 := Aside0.mk (show Kd.R k53 53 wr w0.heap.size (fun k_ => (P0_ k_ ∨ w.heap.size ≤ k_)) (.slice (some ⟨go5, 0, none⟩) x0_1.length co8) x0_1 from (by (with_reducible repeat (first | apply Kd.R_alloc | apply Kd.R_drewN | apply Kd.R_drew)); exact HO_0.out))
          obtain ⟨ce9, hcl9, hM9, hcc9, hfr9⟩ := Kd.R_elem HX9.out z53 (x5_1 : Int) (of_decide_eq_true (by first | (with_reducible assumption) | assumption)) (by have h_ : (x5_1 : Int) < ((x0_1.length : Int) : Int) := of_decide_eq_true (by first | (with_reducible assumption) | assumption); first | exact h_ | (have e_ := (Kd.R_reads' HO_0.out).1; omega) | simpa using h_)
          obtain rfl := k53_openM hM9
          have HP9 := Kd.R_seg HX9.out (x5_1 : Int) (of_decide_eq_true (by first | (with_reducible assumption) | assumption)) (by have h_ : (x5_1 : Int) < ((x0_1.length : Int) : Int) := of_decide_eq_true (by first | (with_reducible assumption) | assumption); first | exact h_ | (have e_ := (Kd.R_reads' HO_0.out).1; omega) | simpa using h_) (seg := [.int .i64 x1_1]) (j := 0) hcl9 hcc9 (show 1 ≤ 3 from by decide) (x' := (⟨x1_1, (rd_T53 x0_1 x5_1).f1, (rd_T53 x0_1 x5_1).f2⟩ : S53)) (k53_mkM _ _ _ (⟨x1_1, (rd_T53 x0_1 x5_1).f1, (rd_T53 x0_1 x5_1).f2⟩ : S53) ) (fun _ hk => hk)
          have hx9_0 := hcc9 0 _ rfl
          (try simp only [show (k53).sz = 3 from rfl, Nat.mul_one, Nat.add_zero] at hx9_0)
          have hf9_0 := hfr9 0
          (try simp only [show (k53).sz = 3 from rfl, Nat.mul_one, Nat.add_zero] at hf9_0)
          (try clear hcl9); (try clear hcc9); (try clear hfr9); (try clear hM9)
          go_wp2_with (first | ((with_reducible refine gate_store (t := 2) (p := 16) rfl ?_); refine store_event (t := 2) (p := 16) (v := ?vo_w10) (w1 := (wr.setCell ⟨go5, (x5_1 : Int).toNat * 3, none⟩ (.int .i64 x1_1))) ?hg ?ho ?hn ?hr ?_; (case ho => rfl); (case hg => rfl); (case hn => rfl); (case hr => first | (go_simp; done) | (go_simp; rfl)); intro w10 hw; have hg : wr.grownBy w10 (some go5) := (by rw [hw]; exact HP9.2); have hp_ : Kd.R k53 53 w10 w0.heap.size (fun k_ => (P0_ k_ ∨ w.heap.size ≤ k_)) (.slice (some ⟨go5, 0, none⟩) x0_1.length co8) y265 := (by rw [hw, Ny265.out]; exact HP9.1); clear HP9; have n0_ := Aside0.mk (hp_); have n1_ := Aside0.mk ((by rw [hw]; exact below_set (HB.out) GB5.out : Below w0.heap.size w0 w10)); have n2_ := Aside0.mk (Kept.of_grown (S := (fun k_ => P0_ k_)) hg (by repeat (first | (with_reducible first | exact HK.out | apply Kept.alloc | apply Kept.drewN | apply Kept.drew) | exact HK.out)) (fun k_ e_ => (HO_0.out.1 k_ e_))); clear HO_0; clear HB; clear HK; have HO_0 := n0_; have HB := n1_; have HK := n2_; clear n0_ n1_ n2_; clear hg hw hp_; have p6 : 0 ≤ (x5_1 : Int) := of_decide_eq_true (by first | (with_reducible assumption) | assumption); have q6 : (x5_1 : Int) < ((x0_1.length : Int) : Int) := of_decide_eq_true (by first | (with_reducible assumption) | assumption); obtain ⟨ce6, hcl6, hM6, hcc6, hfr6⟩ := Kd.R_elem HO_0.out z53 (x5_1 : Int) p6 q6; obtain rfl := k53_openM hM6; have hx6_0 : w10.cell? ⟨go5, (x5_1 : Int).toNat * 3, none⟩ = some (.int .i64 ((rd_T53 y265 x5_1).f0)) := hcc6 0 _ rfl; have hx6_1 : w10.cell? ⟨go5, (x5_1 : Int).toNat * 3 + 1, none⟩ = some (.int .i64 ((rd_T53 y265 x5_1).f1)) := hcc6 1 _ rfl; have hx6_2 : w10.cell? ⟨go5, (x5_1 : Int).toNat * 3 + 2, none⟩ = some (.bool ((rd_T53 y265 x5_1).f2)) := hcc6 2 _ rfl; have hf6_0 : w10.frozen? ⟨go5, (x5_1 : Int).toNat * 3, none⟩ = false := hfr6 0; have hf6_1 : w10.frozen? ⟨go5, (x5_1 : Int).toNat * 3 + 1, none⟩ = false := hfr6 1; have hf6_2 : w10.frozen? ⟨go5, (x5_1 : Int).toNat * 3 + 2, none⟩ = false := hfr6 2; (try clear hcl6); (try clear hcc6); (try clear hfr6); (try clear hM6); replace p6 := eq_true p6; replace q6 := eq_true q6; have HX11 := Aside0.mk (show Kd.R k53 53 w10 w0.heap.size (fun k_ => (P0_ k_ ∨ w.heap.size ≤ k_)) (.slice (some ⟨go5, 0, none⟩) x0_1.length co8) y265 from (by (with_reducible repeat (first | apply Kd.R_alloc | apply Kd.R_drewN | apply Kd.R_drew)); exact HO_0.out)); obtain ⟨ce11, hcl11, hM11, hcc11, hfr11⟩ := Kd.R_elem HX11.out z53 (x5_1 : Int) (of_decide_eq_true (by first | (with_reducible assumption) | assumption)) (by have h_ : (x5_1 : Int) < ((x0_1.length : Int) : Int) := of_decide_eq_true (by first | (with_reducible assumption) | assumption); first | exact h_ | (have e_ := (Kd.R_reads' HO_0.out).1; omega) | simpa using h_); obtain rfl := k53_openM hM11; have HP11 := Kd.R_seg HX11.out (x5_1 : Int) (of_decide_eq_true (by first | (with_reducible assumption) | assumption)) (by have h_ : (x5_1 : Int) < ((x0_1.length : Int) : Int) := of_decide_eq_true (by first | (with_reducible assumption) | assumption); first | exact h_ | (have e_ := (Kd.R_reads' HO_0.out).1; omega) | simpa using h_) (seg := [.int .i64 (wrap64 (x1_1 + 1))]) (j := 1) hcl11 hcc11 (show 2 ≤ 3 from by decide) (x' := (⟨(rd_T53 y265 x5_1).f0, wrap64 (x1_1 + 1), (rd_T53 y265 x5_1).f2⟩ : S53)) (k53_mkM _ _ _ (⟨(rd_T53 y265 x5_1).f0, wrap64 (x1_1 + 1), (rd_T53 y265 x5_1).f2⟩ : S53) ) (fun _ hk => hk); have hx11_1 := hcc11 1 _ rfl; (try simp only [show (k53).sz = 3 from rfl, Nat.mul_one, Nat.add_zero] at hx11_1); have hf11_1 := hfr11 1; (try simp only [show (k53).sz = 3 from rfl, Nat.mul_one, Nat.add_zero] at hf11_1); (try clear hcl11); (try clear hcc11); (try clear hfr11); (try clear hM11)) | ((with_reducible refine gate_store (t := 2) (p := 23) rfl ?_); refine store_event (t := 2) (p := 23) (v := ?vo_w12) (w1 := (w10.setCell ⟨go5, (x5_1 : Int).toNat * 3 + 1, none⟩ (.int .i64 (wrap64 (x1_1 + 1))))) ?hg ?ho ?hn ?hr ?_; (case ho => rfl); (case hg => rfl); (case hn => rfl); (case hr => first | (go_simp; done) | (go_simp; rfl)); intro w12 hw; have hg : w10.grownBy w12 (some go5) := (by rw [hw]; exact HP11.2); have hp_ : Kd.R k53 53 w12 w0.heap.size (fun k_ => (P0_ k_ ∨ w.heap.size ≤ k_)) (.slice (some ⟨go5, 0, none⟩) x0_1.length co8) y266 := (by rw [hw, Ny266.out]; exact HP11.1); clear HP11; have n0_ := Aside0.mk (hp_); have n1_ := Aside0.mk ((by rw [hw]; exact below_set (HB.out) GB5.out : Below w0.heap.size w0 w12)); have n2_ := Aside0.mk (Kept.of_grown (S := (fun k_ => P0_ k_)) hg (by repeat (first | (with_reducible first | exact HK.out | apply Kept.alloc | apply Kept.drewN | apply Kept.drew) | exact HK.out)) (fun k_ e_ => (HO_0.out.1 k_ e_))); clear HO_0; clear HB; clear HK; have HO_0 := n0_; have HB := n1_; have HK := n2_; clear n0_ n1_ n2_; clear hg hw hp_; have p7 : 0 ≤ (x5_1 : Int) := of_decide_eq_true (by first | (with_reducible assumption) | assumption); have q7 : (x5_1 : Int) < ((x0_1.length : Int) : Int) := of_decide_eq_true (by first | (with_reducible assumption) | assumption); obtain ⟨ce7, hcl7, hM7, hcc7, hfr7⟩ := Kd.R_elem HO_0.out z53 (x5_1 : Int) p7 q7; obtain rfl := k53_openM hM7; have hx7_0 : w12.cell? ⟨go5, (x5_1 : Int).toNat * 3, none⟩ = some (.int .i64 ((rd_T53 y266 x5_1).f0)) := hcc7 0 _ rfl; have hx7_1 : w12.cell? ⟨go5, (x5_1 : Int).toNat * 3 + 1, none⟩ = some (.int .i64 ((rd_T53 y266 x5_1).f1)) := hcc7 1 _ rfl; have hx7_2 : w12.cell? ⟨go5, (x5_1 : Int).toNat * 3 + 2, none⟩ = some (.bool ((rd_T53 y266 x5_1).f2)) := hcc7 2 _ rfl; have hf7_0 : w12.frozen? ⟨go5, (x5_1 : Int).toNat * 3, none⟩ = false := hfr7 0; have hf7_1 : w12.frozen? ⟨go5, (x5_1 : Int).toNat * 3 + 1, none⟩ = false := hfr7 1; have hf7_2 : w12.frozen? ⟨go5, (x5_1 : Int).toNat * 3 + 2, none⟩ = false := hfr7 2; (try clear hcl7); (try clear hcc7); (try clear hfr7); (try clear hM7); replace p7 := eq_true p7; replace q7 := eq_true q7; have HX13 := Aside0.mk (show Kd.R k53 53 w12 w0.heap.size (fun k_ => (P0_ k_ ∨ w.heap.size ≤ k_)) (.slice (some ⟨go5, 0, none⟩) x0_1.length co8) y266 from (by (with_reducible repeat (first | apply Kd.R_alloc | apply Kd.R_drewN | apply Kd.R_drew)); exact HO_0.out)); obtain ⟨ce13, hcl13, hM13, hcc13, hfr13⟩ := Kd.R_elem HX13.out z53 (x5_1 : Int) (of_decide_eq_true (by first | (with_reducible assumption) | assumption)) (by have h_ : (x5_1 : Int) < ((x0_1.length : Int) : Int) := of_decide_eq_true (by first | (with_reducible assumption) | assumption); first | exact h_ | (have e_ := (Kd.R_reads' HO_0.out).1; omega) | simpa using h_); obtain rfl := k53_openM hM13; have HP13 := Kd.R_seg HX13.out (x5_1 : Int) (of_decide_eq_true (by first | (with_reducible assumption) | assumption)) (by have h_ : (x5_1 : Int) < ((x0_1.length : Int) : Int) := of_decide_eq_true (by first | (with_reducible assumption) | assumption); first | exact h_ | (have e_ := (Kd.R_reads' HO_0.out).1; omega) | simpa using h_) (seg := [.bool ((Int.tmod (wrap64 ((wrap64 (x1_1 + 1)) + 1)) 3) == 0)]) (j := 2) hcl13 hcc13 (show 3 ≤ 3 from by decide) (x' := (⟨(rd_T53 y266 x5_1).f0, (rd_T53 y266 x5_1).f1, ((Int.tmod (wrap64 ((wrap64 (x1_1 + 1)) + 1)) 3) == 0)⟩ : S53)) (k53_mkM _ _ _ (⟨(rd_T53 y266 x5_1).f0, (rd_T53 y266 x5_1).f1, ((Int.tmod (wrap64 ((wrap64 (x1_1 + 1)) + 1)) 3) == 0)⟩ : S53) ) (fun _ hk => hk); have hx13_2 := hcc13 2 _ rfl; (try simp only [show (k53).sz = 3 from rfl, Nat.mul_one, Nat.add_zero] at hx13_2); have hf13_2 := hfr13 2; (try simp only [show (k53).sz = 3 from rfl, Nat.mul_one, Nat.add_zero] at hf13_2); (try clear hcl13); (try clear hcc13); (try clear hfr13); (try clear hM13)) | ((with_reducible refine gate_store (t := 4) (p := 32) rfl ?_); refine store_event (t := 4) (p := 32) (v := ?vo_w14) (w1 := (w12.setCell ⟨go5, (x5_1 : Int).toNat * 3 + 2, none⟩ (.bool ((Int.tmod (wrap64 ((wrap64 (x1_1 + 1)) + 1)) 3) == 0)))) ?hg ?ho ?hn ?hr ?_; (case ho => rfl); (case hg => rfl); (case hn => rfl); (case hr => first | (go_simp; done) | (go_simp; rfl)); intro w14 hw; have hg : w12.grownBy w14 (some go5) := (by rw [hw]; exact HP13.2); have hp_ : Kd.R k53 53 w14 w0.heap.size (fun k_ => (P0_ k_ ∨ w.heap.size ≤ k_)) (.slice (some ⟨go5, 0, none⟩) x0_1.length co8) y267 := (by rw [hw, Ny267.out]; exact HP13.1); clear HP13; have n0_ := Aside0.mk (hp_); have n1_ := Aside0.mk ((by rw [hw]; exact below_set (HB.out) GB5.out : Below w0.heap.size w0 w14)); have n2_ := Aside0.mk (Kept.of_grown (S := (fun k_ => P0_ k_)) hg (by repeat (first | (with_reducible first | exact HK.out | apply Kept.alloc | apply Kept.drewN | apply Kept.drew) | exact HK.out)) (fun k_ e_ => (HO_0.out.1 k_ e_))); clear HO_0; clear HB; clear HK; have HO_0 := n0_; have HB := n1_; have HK := n2_; clear n0_ n1_ n2_; clear hg hw hp_))
          go_roundg k1
          case measure => have := HK1.out; omega
          case rel => exact ⟨(y267), (wrap64 ((wrap64 ((wrap64 (x1_1 + 1)) + 1)) + 1)), (wrap64 (x5_1 + 1)), (by first | rfl | (simp; done) | (simp [*]; done)), (by first | rfl | (simp; done) | (simp [*]; done)), H', ⟨by have := HK1.out; omega⟩, ⟨by (with_reducible repeat (first | apply Kd.R_alloc | apply Kd.R_drewN | apply Kd.R_drew)); exact HO_0.out⟩, ⟨by repeat (first | (with_reducible first | exact HK.out | apply Kept.alloc | apply Kept.drewN | apply Kept.drew) | exact HK.out)⟩, ⟨by repeat (first | (with_reducible first | exact HB.out | apply below_alloc | apply pw_below_drewN | apply below_drew1) | exact HB.out)⟩⟩
        · rw [if_neg c4] at H
          exact absurd H (by simp)
      · rw [if_neg c3] at H
        have c3b0 : decide (x5_1 < (x0_1.length : Int)) = false := decide_eq_false c3
        clear c3
        simp only [Option.some.injEq, Prod.mk.injEq] at H
        obtain ⟨rfl, rfl⟩ := H
        obtain ⟨Ao15, co15, eo15⟩ := Kd.R_slice HO_0.out
        subst eo15
        go_wp2
        go_ret
        exact ⟨by first | rfl | (simp [errW_none, errW_some] <;> rfl) | (simp [*, errW_none, errW_some] <;> rfl), by (with_reducible repeat (first | apply Kd.R_alloc | apply Kd.R_drewN | apply Kd.R_drew)); exact HO_0.out, by repeat (first | (with_reducible first | exact HB.out | apply below_alloc | apply pw_below_drewN | apply below_drew1) | exact HB.out), by repeat (first | (with_reducible first | exact HK.out | apply Kept.alloc | apply Kept.drewN | apply Kept.drew) | exact HK.out)⟩

/-! ### laws_markEntryS: function 77 -/
def laws_markEntryS.l0 : Nat → List (S37) → Int → Int → Option (Int × (List (S37)))
  | 0, _, _, _ => none
  | k + 1, x0, x1, x5 => if x5 < (x0.length : Int) then (if 0 ≤ x5 then ((some (x0.set (x5 : Int).toNat (⟨x1, (rd_T37 x0 x5).f1, (rd_T37 x0 x5).f2, (rd_T37 x0 x5).f3⟩ : S37) : List (S37))).bind fun y268 => ((some (y268.set (x5 : Int).toNat (⟨(rd_T37 y268 x5).f0, ((Int.tmod (wrap64 (x1 + 1)) 3) == 0), (rd_T37 y268 x5).f2, (rd_T37 y268 x5).f3⟩ : S37) : List (S37))).bind fun y269 => ((some (y269.set (x5 : Int).toNat (⟨(rd_T37 y269 x5).f0, (rd_T37 y269 x5).f1, ((Int.tmod (wrap64 ((wrap64 (x1 + 1)) + 1)) 3) == 0), (rd_T37 y269 x5).f3⟩ : S37) : List (S37))).bind fun y270 => (laws_markEntryS.l0 k (y270.set (x5 : Int).toNat (⟨(rd_T37 y270 x5).f0, (rd_T37 y270 x5).f1, (rd_T37 y270 x5).f2, ((Int.tmod (wrap64 ((wrap64 ((wrap64 (x1 + 1)) + 1)) + 1)) 3) == 0)⟩ : S37)) (wrap64 ((wrap64 ((wrap64 ((wrap64 (x1 + 1)) + 1)) + 1)) + 1)) (wrap64 (x5 + 1)))))) else (none)) else (some (x1, x0))
def laws_markEntryS.f (k : Nat) (l0 : List (S37)) (a1 : Int) : Option (Int × (List (S37))) := laws_markEntryS.l0 k l0 a1 0
theorem laws_markEntryS.mono_l : ∀ k, (∀ y0 y1 y2, LeO (laws_markEntryS.l0 k y0 y1 y2) (laws_markEntryS.l0 (k + 1) y0 y1 y2))
  | 0 => fun _ _ _ r h => by simp [laws_markEntryS.l0] at h
  | k + 1 => by
    have ih0 := laws_markEntryS.mono_l k
    · intro y0 y1 y2
      unfold laws_markEntryS.l0
      repeat' first
      | (with_reducible exact ih0 _ _ _)
      | (with_reducible exact LeO.refl _)
      | (with_reducible exact LeO.none _)
      | (with_reducible refine LeO.ite ?_ ?_)
      | (with_reducible refine LeO.bind ?_ (fun _ => ?_))
      | exact ih0 _ _ _
      | exact LeO.none _
      | refine LeO.ite ?_ ?_
      | refine LeO.bind ?_ (fun _ => ?_)
theorem laws_markEntryS.mono : ∀ a0 a1 k, LeO (laws_markEntryS.f k a0 a1) (laws_markEntryS.f (k + 1) a0 a1) := by
  intro a0 a1 k
  have ih0 := laws_markEntryS.mono_l k
  unfold laws_markEntryS.f
  repeat' first
      | (with_reducible exact ih0 _ _ _)
      | (with_reducible exact LeO.refl _)
      | (with_reducible exact LeO.none _)
      | (with_reducible refine LeO.ite ?_ ?_)
      | (with_reducible refine LeO.bind ?_ (fun _ => ?_))
      | exact ih0 _ _ _
      | exact LeO.none _
      | refine LeO.ite ?_ ?_
      | refine LeO.bind ?_ (fun _ => ?_)
set_option maxHeartbeats 8000000 in
set_option maxRecDepth 100000 in
theorem laws_markEntryS.calls (k : Nat) (P0_ : Nat → Prop) (u9000_ : Value) (l0 : List (S37)) (a1 : Int) (r1 : Int) (r2 : List (S37)) (w0 w : World) (hB : Below w0.heap.size w0 w) (ho0 : Kd.R k37 37 w w0.heap.size P0_ u9000_ l0) (h : laws_markEntryS.f k l0 a1 = some (r1, r2)) :
    Calls Try.prog 77 #[u9000_, .int .i64 a1] w fun e w' => e = .returned (.int .i64 r1) ∧ Kd.R k37 37 w' w0.heap.size (fun k_ => (P0_ k_ ∨ w.heap.size ≤ k_)) u9000_ r2 ∧ Below w0.heap.size w0 w' ∧ Kept w w' (fun k_ => P0_ k_) := by
  have HO0 := Aside0.mk (show Kd.R k37 37 w w0.heap.size (fun k_ => (P0_ k_ ∨ w.heap.size ≤ k_)) u9000_ l0 from Kd.R_mono ho0 (fun k_ hk => (.inl hk)))
  have HK := Aside0.mk (Kept.refl w (fun k_ => P0_ k_))
  have HW0 := Aside0.mk hB.size
  have HB := Aside0.mk hB
  clear hB
  have H : (laws_markEntryS.l0 k l0 a1 0) = some (r1, r2) := h
  clear h
  have H' := Aside0.mk H
  clear H
  go_enter Try.func77, Try.ntmps77
  go_wp2
  go_loopg [1, 5] k (fun kq v1 v5 w' => ∃ (x0_1 : List (S37)) (x1_1 : Int) (x5_1 : Int), v1 = .int .i64 x1_1 ∧ v5 = .int .i64 x5_1 ∧ Aside0 (laws_markEntryS.l0 kq x0_1 x1_1 x5_1 = some (r1, r2)) ∧ Aside0 (kq ≤ k) ∧ Aside0 (Kd.R k37 37 w' w0.heap.size (fun k_ => (P0_ k_ ∨ w.heap.size ≤ k_)) u9000_ x0_1) ∧ Aside0 (Kept w w' (fun k_ => P0_ k_)) ∧ Aside0 (Below w0.heap.size w0 w'))
  case atStart => exact ⟨(l0), (a1), (0), (by first | rfl | (simp; done) | (simp [*]; done)), (by first | rfl | (simp; done) | (simp [*]; done)), H', ⟨Nat.le_refl _⟩, ⟨by (with_reducible repeat (first | apply Kd.R_alloc | apply Kd.R_drewN | apply Kd.R_drew)); exact HO0.out⟩, ⟨by repeat (first | (with_reducible first | exact HK.out | apply Kept.alloc | apply Kept.drewN | apply Kept.drew) | exact HK.out)⟩, ⟨by repeat (first | (with_reducible first | exact HB.out | apply below_alloc | apply pw_below_drewN | apply below_drew1) | exact HB.out)⟩⟩
  case round =>
    clear H'
    try clear p2
    obtain ⟨x0_1, x1_1, x5_1, rfl, rfl, HA, HK1, HO_0, HK, HB⟩ := hrel
    cases gk with
    | zero => exact absurd HA.out (by simp [laws_markEntryS.l0])
    | succ k1 =>
      have H := HA.out
      clear HA
      simp only [laws_markEntryS.l0] at H
      by_cases c3 : x5_1 < (x0_1.length : Int)
      · rw [if_pos c3] at H
        have c3b0 : decide (x5_1 < (x0_1.length : Int)) = true := decide_eq_true c3
        clear c3
        by_cases c4 : 0 ≤ x5_1
        · rw [if_pos c4] at H
          have c4b0 : decide (0 ≤ x5_1) = true := decide_eq_true c4
          clear c4
          obtain ⟨y268, hy268⟩ : ∃ y_ : List (S37), y_ = (x0_1.set (x5_1 : Int).toNat (⟨x1_1, (rd_T37 x0_1 x5_1).f1, (rd_T37 x0_1 x5_1).f2, (rd_T37 x0_1 x5_1).f3⟩ : S37)) := ⟨_, rfl⟩
          replace H : ((some (y268.set (x5_1 : Int).toNat (⟨(rd_T37 y268 x5_1).f0, ((Int.tmod (wrap64 (x1_1 + 1)) 3) == 0), (rd_T37 y268 x5_1).f2, (rd_T37 y268 x5_1).f3⟩ : S37) : List (S37))).bind fun y269 => ((some (y269.set (x5_1 : Int).toNat (⟨(rd_T37 y269 x5_1).f0, (rd_T37 y269 x5_1).f1, ((Int.tmod (wrap64 ((wrap64 (x1_1 + 1)) + 1)) 3) == 0), (rd_T37 y269 x5_1).f3⟩ : S37) : List (S37))).bind fun y270 => (laws_markEntryS.l0 k1 (y270.set (x5_1 : Int).toNat (⟨(rd_T37 y270 x5_1).f0, (rd_T37 y270 x5_1).f1, (rd_T37 y270 x5_1).f2, ((Int.tmod (wrap64 ((wrap64 ((wrap64 (x1_1 + 1)) + 1)) + 1)) 3) == 0)⟩ : S37)) (wrap64 ((wrap64 ((wrap64 ((wrap64 (x1_1 + 1)) + 1)) + 1)) + 1)) (wrap64 (x5_1 + 1))))) = some (r1, r2) := by first | (rw [hy268]; with_reducible exact H) | (have H2_ := (Option.bind_some _ _).symm.trans H; rw [hy268]; with_reducible exact H2_) | (have H2_ := (Option.bind_some _ _).symm.trans H; with_reducible exact H2_) | with_reducible exact H | (rw [hy268]; exact H) | exact H
          have Ny268 := Aside0.mk hy268
          clear hy268
          obtain ⟨y269, hy269⟩ : ∃ y_ : List (S37), y_ = (y268.set (x5_1 : Int).toNat (⟨(rd_T37 y268 x5_1).f0, ((Int.tmod (wrap64 (x1_1 + 1)) 3) == 0), (rd_T37 y268 x5_1).f2, (rd_T37 y268 x5_1).f3⟩ : S37)) := ⟨_, rfl⟩
          replace H : ((some (y269.set (x5_1 : Int).toNat (⟨(rd_T37 y269 x5_1).f0, (rd_T37 y269 x5_1).f1, ((Int.tmod (wrap64 ((wrap64 (x1_1 + 1)) + 1)) 3) == 0), (rd_T37 y269 x5_1).f3⟩ : S37) : List (S37))).bind fun y270 => (laws_markEntryS.l0 k1 (y270.set (x5_1 : Int).toNat (⟨(rd_T37 y270 x5_1).f0, (rd_T37 y270 x5_1).f1, (rd_T37 y270 x5_1).f2, ((Int.tmod (wrap64 ((wrap64 ((wrap64 (x1_1 + 1)) + 1)) + 1)) 3) == 0)⟩ : S37)) (wrap64 ((wrap64 ((wrap64 ((wrap64 (x1_1 + 1)) + 1)) + 1)) + 1)) (wrap64 (x5_1 + 1)))) = some (r1, r2) := by first | (rw [hy269]; with_reducible exact H) | (have H2_ := (Option.bind_some _ _).symm.trans H; rw [hy269]; with_reducible exact H2_) | (have H2_ := (Option.bind_some _ _).symm.trans H; with_reducible exact H2_) | with_reducible exact H | (rw [hy269]; exact H) | exact H
          have Ny269 := Aside0.mk hy269
          clear hy269
          obtain ⟨y270, hy270⟩ : ∃ y_ : List (S37), y_ = (y269.set (x5_1 : Int).toNat (⟨(rd_T37 y269 x5_1).f0, (rd_T37 y269 x5_1).f1, ((Int.tmod (wrap64 ((wrap64 (x1_1 + 1)) + 1)) 3) == 0), (rd_T37 y269 x5_1).f3⟩ : S37)) := ⟨_, rfl⟩
          replace H : (laws_markEntryS.l0 k1 (y270.set (x5_1 : Int).toNat (⟨(rd_T37 y270 x5_1).f0, (rd_T37 y270 x5_1).f1, (rd_T37 y270 x5_1).f2, ((Int.tmod (wrap64 ((wrap64 ((wrap64 (x1_1 + 1)) + 1)) + 1)) 3) == 0)⟩ : S37)) (wrap64 ((wrap64 ((wrap64 ((wrap64 (x1_1 + 1)) + 1)) + 1)) + 1)) (wrap64 (x5_1 + 1))) = some (r1, r2) := by first | (rw [hy270]; with_reducible exact H) | (have H2_ := (Option.bind_some _ _).symm.trans H; rw [hy270]; with_reducible exact H2_) | (have H2_ := (Option.bind_some _ _).symm.trans H; with_reducible exact H2_) | with_reducible exact H | (rw [hy270]; exact H) | exact H
          have Ny270 := Aside0.mk hy270
          clear hy270
          obtain ⟨y271, hy271⟩ : ∃ y_ : List (S37), y_ = (y270.set (x5_1 : Int).toNat (⟨(rd_T37 y270 x5_1).f0, (rd_T37 y270 x5_1).f1, (rd_T37 y270 x5_1).f2, ((Int.tmod (wrap64 ((wrap64 ((wrap64 (x1_1 + 1)) + 1)) + 1)) 3) == 0)⟩ : S37)) := ⟨_, rfl⟩
          replace H : (laws_markEntryS.l0 k1 y271 (wrap64 ((wrap64 ((wrap64 ((wrap64 (x1_1 + 1)) + 1)) + 1)) + 1)) (wrap64 (x5_1 + 1))) = some (r1, r2) := by first | (rw [hy271]; with_reducible exact H) | (have H2_ := (Option.bind_some _ _).symm.trans H; rw [hy271]; with_reducible exact H2_) | (have H2_ := (Option.bind_some _ _).symm.trans H; with_reducible exact H2_) | with_reducible exact H | (rw [hy271]; exact H) | exact H
          have Ny271 := Aside0.mk hy271
          clear hy271
          have H' := Aside0.mk H
          clear H
          obtain ⟨Ao9, co9, eo9⟩ := Kd.R_slice HO_0.out
          subst eo9
          have p5 : 0 ≤ (x5_1 : Int) := of_decide_eq_true (by first | (with_reducible assumption) | assumption)
          have q5 : (x5_1 : Int) < ((x0_1.length : Int) : Int) := of_decide_eq_true (by first | (with_reducible assumption) | assumption)
          obtain ⟨go5, co5, eo5, gb5, gl5, cl5, HG5⟩ := Kd.R_form HO_0.out (by omega)
          (first | cases eo5 | (injection eo5 with ea_ en_ ec_; (first | subst ea_ | (injection ea_ with ea_; subst ea_)); subst ec_; clear en_))
          have GB5 := Aside0.mk gb5
          have GG5 := Aside0.mk HG5
          clear gb5 gl5 HG5
          have HMgo5 := Aside0.mk (show (P0_ go5 ∨ w.heap.size ≤ go5) from (HO_0.out.1 _ rfl))
          obtain ⟨ce5, hcl5, hM5, hcc5, hfr5⟩ := Kd.R_elem HO_0.out z37 (x5_1 : Int) p5 q5
          obtain rfl := k37_openM hM5
          have hx5_0 : wr.cell? ⟨go5, (x5_1 : Int).toNat * 4, none⟩ = some (.int .i64 ((rd_T37 x0_1 x5_1).f0)) := hcc5 0 _ rfl
          have hx5_1 : wr.cell? ⟨go5, (x5_1 : Int).toNat * 4 + 1, none⟩ = some (.bool ((rd_T37 x0_1 x5_1).f1)) := hcc5 1 _ rfl
          have hx5_2 : wr.cell? ⟨go5, (x5_1 : Int).toNat * 4 + 2, none⟩ = some (.bool ((rd_T37 x0_1 x5_1).f2)) := hcc5 2 _ rfl
          have hx5_3 : wr.cell? ⟨go5, (x5_1 : Int).toNat * 4 + 3, none⟩ = some (.bool ((rd_T37 x0_1 x5_1).f3)) := hcc5 3 _ rfl
          have hf5_0 : wr.frozen? ⟨go5, (x5_1 : Int).toNat * 4, none⟩ = false := hfr5 0
          have hf5_1 : wr.frozen? ⟨go5, (x5_1 : Int).toNat * 4 + 1, none⟩ = false := hfr5 1
          have hf5_2 : wr.frozen? ⟨go5, (x5_1 : Int).toNat * 4 + 2, none⟩ = false := hfr5 2
          have hf5_3 : wr.frozen? ⟨go5, (x5_1 : Int).toNat * 4 + 3, none⟩ = false := hfr5 3
          (try clear hcl5); (try clear hcc5); (try clear hfr5); (try clear hM5)
          replace p5 := eq_true p5
          replace q5 := eq_true q5
          have HX10 := Aside0.mk (show Kd.R k37 37 wr w0.heap.size (fun k_ => (P0_ k_ ∨ w.heap.size ≤ k_)) (.slice (some ⟨go5, 0, none⟩) x0_1.length co9) x0_1 from (by (with_reducible repeat (first | apply Kd.R_alloc | apply Kd.R_drewN | apply Kd.R_drew)); exact HO_0.out))
          obtain ⟨ce10, hcl10, hM10, hcc10, hfr10⟩ := Kd.R_elem HX10.out z37 (x5_1 : Int) (of_decide_eq_true (by first | (with_reducible assumption) | assumption)) (by have h_ : (x5_1 : Int) < ((x0_1.length : Int) : Int) := of_decide_eq_true (by first | (with_reducible assumption) | assumption); first | exact h_ | (have e_ := (Kd.R_reads' HO_0.out).1; omega) | simpa using h_)
          obtain rfl := k37_openM hM10
          have HP10 := Kd.R_seg HX10.out (x5_1 : Int) (of_decide_eq_true (by first | (with_reducible assumption) | assumption)) (by have h_ : (x5_1 : Int) < ((x0_1.length : Int) : Int) := of_decide_eq_true (by first | (with_reducible assumption) | assumption); first | exact h_ | (have e_ := (Kd.R_reads' HO_0.out).1; omega) | simpa using h_) (seg := [.int .i64 x1_1]) (j := 0) hcl10 hcc10 (show 1 ≤ 4 from by decide) (x' := (⟨x1_1, (rd_T37 x0_1 x5_1).f1, (rd_T37 x0_1 x5_1).f2, (rd_T37 x0_1 x5_1).f3⟩ : S37)) (k37_mkM _ _ _ (⟨x1_1, (rd_T37 x0_1 x5_1).f1, (rd_T37 x0_1 x5_1).f2, (rd_T37 x0_1 x5_1).f3⟩ : S37) ) (fun _ hk => hk)
          have hx10_0 := hcc10 0 _ rfl
          (try simp only [show (k37).sz = 4 from rfl, Nat.mul_one, Nat.add_zero] at hx10_0)
          have hf10_0 := hfr10 0
          (try simp only [show (k37).sz = 4 from rfl, Nat.mul_one, Nat.add_zero] at hf10_0)
          (try clear hcl10); (try clear hcc10); (try clear hfr10); (try clear hM10)
          go_wp2_with (first | ((with_reducible refine gate_store (t := 2) (p := 16) rfl ?_); refine store_event (t := 2) (p := 16) (v := ?vo_w11) (w1 := (wr.setCell ⟨go5, (x5_1 : Int).toNat * 4, none⟩ (.int .i64 x1_1))) ?hg ?ho ?hn ?hr ?_; (case ho => rfl); (case hg => rfl); (case hn => rfl); (case hr => first | (go_simp; done) | (go_simp; rfl)); intro w11 hw; have hg : wr.grownBy w11 (some go5) := (by rw [hw]; exact HP10.2); have hp_ : Kd.R k37 37 w11 w0.heap.size (fun k_ => (P0_ k_ ∨ w.heap.size ≤ k_)) (.slice (some ⟨go5, 0, none⟩) x0_1.length co9) y268 := (by rw [hw, Ny268.out]; exact HP10.1); clear HP10; have n0_ := Aside0.mk (hp_); have n1_ := Aside0.mk ((by rw [hw]; exact below_set (HB.out) GB5.out : Below w0.heap.size w0 w11)); have n2_ := Aside0.mk (Kept.of_grown (S := (fun k_ => P0_ k_)) hg (by repeat (first | (with_reducible first | exact HK.out | apply Kept.alloc | apply Kept.drewN | apply Kept.drew) | exact HK.out)) (fun k_ e_ => (HO_0.out.1 k_ e_))); clear HO_0; clear HB; clear HK; have HO_0 := n0_; have HB := n1_; have HK := n2_; clear n0_ n1_ n2_; clear hg hw hp_; have p6 : 0 ≤ (x5_1 : Int) := of_decide_eq_true (by first | (with_reducible assumption) | assumption); have q6 : (x5_1 : Int) < ((x0_1.length : Int) : Int) := of_decide_eq_true (by first | (with_reducible assumption) | assumption); obtain ⟨ce6, hcl6, hM6, hcc6, hfr6⟩ := Kd.R_elem HO_0.out z37 (x5_1 : Int) p6 q6; obtain rfl := k37_openM hM6; have hx6_0 : w11.cell? ⟨go5, (x5_1 : Int).toNat * 4, none⟩ = some (.int .i64 ((rd_T37 y268 x5_1).f0)) := hcc6 0 _ rfl; have hx6_1 : w11.cell? ⟨go5, (x5_1 : Int).toNat * 4 + 1, none⟩ = some (.bool ((rd_T37 y268 x5_1).f1)) := hcc6 1 _ rfl; have hx6_2 : w11.cell? ⟨go5, (x5_1 : Int).toNat * 4 + 2, none⟩ = some (.bool ((rd_T37 y268 x5_1).f2)) := hcc6 2 _ rfl; have hx6_3 : w11.cell? ⟨go5, (x5_1 : Int).toNat * 4 + 3, none⟩ = some (.bool ((rd_T37 y268 x5_1).f3)) := hcc6 3 _ rfl; have hf6_0 : w11.frozen? ⟨go5, (x5_1 : Int).toNat * 4, none⟩ = false := hfr6 0; have hf6_1 : w11.frozen? ⟨go5, (x5_1 : Int).toNat * 4 + 1, none⟩ = false := hfr6 1; have hf6_2 : w11.frozen? ⟨go5, (x5_1 : Int).toNat * 4 + 2, none⟩ = false := hfr6 2; have hf6_3 : w11.frozen? ⟨go5, (x5_1 : Int).toNat * 4 + 3, none⟩ = false := hfr6 3; (try clear hcl6); (try clear hcc6); (try clear hfr6); (try clear hM6); replace p6 := eq_true p6; replace q6 := eq_true q6; have HX12 := Aside0.mk (show Kd.R k37 37 w11 w0.heap.size (fun k_ => (P0_ k_ ∨ w.heap.size ≤ k_)) (.slice (some ⟨go5, 0, none⟩) x0_1.length co9) y268 from (by (with_reducible repeat (first | apply Kd.R_alloc | apply Kd.R_drewN | apply Kd.R_drew)); exact HO_0.out)); obtain ⟨ce12, hcl12, hM12, hcc12, hfr12⟩ := Kd.R_elem HX12.out z37 (x5_1 : Int) (of_decide_eq_true (by first | (with_reducible assumption) | assumption)) (by have h_ : (x5_1 : Int) < ((x0_1.length : Int) : Int) := of_decide_eq_true (by first | (with_reducible assumption) | assumption); first | exact h_ | (have e_ := (Kd.R_reads' HO_0.out).1; omega) | simpa using h_); obtain rfl := k37_openM hM12; have HP12 := Kd.R_seg HX12.out (x5_1 : Int) (of_decide_eq_true (by first | (with_reducible assumption) | assumption)) (by have h_ : (x5_1 : Int) < ((x0_1.length : Int) : Int) := of_decide_eq_true (by first | (with_reducible assumption) | assumption); first | exact h_ | (have e_ := (Kd.R_reads' HO_0.out).1; omega) | simpa using h_) (seg := [.bool ((Int.tmod (wrap64 (x1_1 + 1)) 3) == 0)]) (j := 1) hcl12 hcc12 (show 2 ≤ 4 from by decide) (x' := (⟨(rd_T37 y268 x5_1).f0, ((Int.tmod (wrap64 (x1_1 + 1)) 3) == 0), (rd_T37 y268 x5_1).f2, (rd_T37 y268 x5_1).f3⟩ : S37)) (k37_mkM _ _ _ (⟨(rd_T37 y268 x5_1).f0, ((Int.tmod (wrap64 (x1_1 + 1)) 3) == 0), (rd_T37 y268 x5_1).f2, (rd_T37 y268 x5_1).f3⟩ : S37) ) (fun _ hk => hk); have hx12_1 := hcc12 1 _ rfl; (try simp only [show (k37).sz = 4 from rfl, Nat.mul_one, Nat.add_zero] at hx12_1); have hf12_1 := hfr12 1; (try simp only [show (k37).sz = 4 from rfl, Nat.mul_one, Nat.add_zero] at hf12_1); (try clear hcl12); (try clear hcc12); (try clear hfr12); (try clear hM12)) | ((with_reducible refine gate_store (t := 4) (p := 25) rfl ?_); refine store_event (t := 4) (p := 25) (v := ?vo_w13) (w1 := (w11.setCell ⟨go5, (x5_1 : Int).toNat * 4 + 1, none⟩ (.bool ((Int.tmod (wrap64 (x1_1 + 1)) 3) == 0)))) ?hg ?ho ?hn ?hr ?_; (case ho => rfl); (case hg => rfl); (case hn => rfl); (case hr => first | (go_simp; done) | (go_simp; rfl)); intro w13 hw; have hg : w11.grownBy w13 (some go5) := (by rw [hw]; exact HP12.2); have hp_ : Kd.R k37 37 w13 w0.heap.size (fun k_ => (P0_ k_ ∨ w.heap.size ≤ k_)) (.slice (some ⟨go5, 0, none⟩) x0_1.length co9) y269 := (by rw [hw, Ny269.out]; exact HP12.1); clear HP12; have n0_ := Aside0.mk (hp_); have n1_ := Aside0.mk ((by rw [hw]; exact below_set (HB.out) GB5.out : Below w0.heap.size w0 w13)); have n2_ := Aside0.mk (Kept.of_grown (S := (fun k_ => P0_ k_)) hg (by repeat (first | (with_reducible first | exact HK.out | apply Kept.alloc | apply Kept.drewN | apply Kept.drew) | exact HK.out)) (fun k_ e_ => (HO_0.out.1 k_ e_))); clear HO_0; clear HB; clear HK; have HO_0 := n0_; have HB := n1_; have HK := n2_; clear n0_ n1_ n2_; clear hg hw hp_; have p7 : 0 ≤ (x5_1 : Int) := of_decide_eq_true (by first | (with_reducible assumption) | assumption); have q7 : (x5_1 : Int) < ((x0_1.length : Int) : Int) := of_decide_eq_true (by first | (with_reducible assumption) | assumption); obtain ⟨ce7, hcl7, hM7, hcc7, hfr7⟩ := Kd.R_elem HO_0.out z37 (x5_1 : Int) p7 q7; obtain rfl := k37_openM hM7; have hx7_0 : w13.cell? ⟨go5, (x5_1 : Int).toNat * 4, none⟩ = some (.int .i64 ((rd_T37 y269 x5_1).f0)) := hcc7 0 _ rfl; have hx7_1 : w13.cell? ⟨go5, (x5_1 : Int).toNat * 4 + 1, none⟩ = some (.bool ((rd_T37 y269 x5_1).f1)) := hcc7 1 _ rfl; have hx7_2 : w13.cell? ⟨go5, (x5_1 : Int).toNat * 4 + 2, none⟩ = some (.bool ((rd_T37 y269 x5_1).f2)) := hcc7 2 _ rfl; have hx7_3 : w13.cell? ⟨go5, (x5_1 : Int).toNat * 4 + 3, none⟩ = some (.bool ((rd_T37 y269 x5_1).f3)) := hcc7 3 _ rfl; have hf7_0 : w13.frozen? ⟨go5, (x5_1 : Int).toNat * 4, none⟩ = false := hfr7 0; have hf7_1 : w13.frozen? ⟨go5, (x5_1 : Int).toNat * 4 + 1, none⟩ = false := hfr7 1; have hf7_2 : w13.frozen? ⟨go5, (x5_1 : Int).toNat * 4 + 2, none⟩ = false := hfr7 2; have hf7_3 : w13.frozen? ⟨go5, (x5_1 : Int).toNat * 4 + 3, none⟩ = false := hfr7 3; (try clear hcl7); (try clear hcc7); (try clear hfr7); (try clear hM7); replace p7 := eq_true p7; replace q7 := eq_true q7; have HX14 := Aside0.mk (show Kd.R k37 37 w13 w0.heap.size (fun k_ => (P0_ k_ ∨ w.heap.size ≤ k_)) (.slice (some ⟨go5, 0, none⟩) x0_1.length co9) y269 from (by (with_reducible repeat (first | apply Kd.R_alloc | apply Kd.R_drewN | apply Kd.R_drew)); exact HO_0.out)); obtain ⟨ce14, hcl14, hM14, hcc14, hfr14⟩ := Kd.R_elem HX14.out z37 (x5_1 : Int) (of_decide_eq_true (by first | (with_reducible assumption) | assumption)) (by have h_ : (x5_1 : Int) < ((x0_1.length : Int) : Int) := of_decide_eq_true (by first | (with_reducible assumption) | assumption); first | exact h_ | (have e_ := (Kd.R_reads' HO_0.out).1; omega) | simpa using h_); obtain rfl := k37_openM hM14; have HP14 := Kd.R_seg HX14.out (x5_1 : Int) (of_decide_eq_true (by first | (with_reducible assumption) | assumption)) (by have h_ : (x5_1 : Int) < ((x0_1.length : Int) : Int) := of_decide_eq_true (by first | (with_reducible assumption) | assumption); first | exact h_ | (have e_ := (Kd.R_reads' HO_0.out).1; omega) | simpa using h_) (seg := [.bool ((Int.tmod (wrap64 ((wrap64 (x1_1 + 1)) + 1)) 3) == 0)]) (j := 2) hcl14 hcc14 (show 3 ≤ 4 from by decide) (x' := (⟨(rd_T37 y269 x5_1).f0, (rd_T37 y269 x5_1).f1, ((Int.tmod (wrap64 ((wrap64 (x1_1 + 1)) + 1)) 3) == 0), (rd_T37 y269 x5_1).f3⟩ : S37)) (k37_mkM _ _ _ (⟨(rd_T37 y269 x5_1).f0, (rd_T37 y269 x5_1).f1, ((Int.tmod (wrap64 ((wrap64 (x1_1 + 1)) + 1)) 3) == 0), (rd_T37 y269 x5_1).f3⟩ : S37) ) (fun _ hk => hk); have hx14_2 := hcc14 2 _ rfl; (try simp only [show (k37).sz = 4 from rfl, Nat.mul_one, Nat.add_zero] at hx14_2); have hf14_2 := hfr14 2; (try simp only [show (k37).sz = 4 from rfl, Nat.mul_one, Nat.add_zero] at hf14_2); (try clear hcl14); (try clear hcc14); (try clear hfr14); (try clear hM14)) | ((with_reducible refine gate_store (t := 4) (p := 34) rfl ?_); refine store_event (t := 4) (p := 34) (v := ?vo_w15) (w1 := (w13.setCell ⟨go5, (x5_1 : Int).toNat * 4 + 2, none⟩ (.bool ((Int.tmod (wrap64 ((wrap64 (x1_1 + 1)) + 1)) 3) == 0)))) ?hg ?ho ?hn ?hr ?_; (case ho => rfl); (case hg => rfl); (case hn => rfl); (case hr => first | (go_simp; done) | (go_simp; rfl)); intro w15 hw; have hg : w13.grownBy w15 (some go5) := (by rw [hw]; exact HP14.2); have hp_ : Kd.R k37 37 w15 w0.heap.size (fun k_ => (P0_ k_ ∨ w.heap.size ≤ k_)) (.slice (some ⟨go5, 0, none⟩) x0_1.length co9) y270 := (by rw [hw, Ny270.out]; exact HP14.1); clear HP14; have n0_ := Aside0.mk (hp_); have n1_ := Aside0.mk ((by rw [hw]; exact below_set (HB.out) GB5.out : Below w0.heap.size w0 w15)); have n2_ := Aside0.mk (Kept.of_grown (S := (fun k_ => P0_ k_)) hg (by repeat (first | (with_reducible first | exact HK.out | apply Kept.alloc | apply Kept.drewN | apply Kept.drew) | exact HK.out)) (fun k_ e_ => (HO_0.out.1 k_ e_))); clear HO_0; clear HB; clear HK; have HO_0 := n0_; have HB := n1_; have HK := n2_; clear n0_ n1_ n2_; clear hg hw hp_; have p8 : 0 ≤ (x5_1 : Int) := of_decide_eq_true (by first | (with_reducible assumption) | assumption); have q8 : (x5_1 : Int) < ((x0_1.length : Int) : Int) := of_decide_eq_true (by first | (with_reducible assumption) | assumption); obtain ⟨ce8, hcl8, hM8, hcc8, hfr8⟩ := Kd.R_elem HO_0.out z37 (x5_1 : Int) p8 q8; obtain rfl := k37_openM hM8; have hx8_0 : w15.cell? ⟨go5, (x5_1 : Int).toNat * 4, none⟩ = some (.int .i64 ((rd_T37 y270 x5_1).f0)) := hcc8 0 _ rfl; have hx8_1 : w15.cell? ⟨go5, (x5_1 : Int).toNat * 4 + 1, none⟩ = some (.bool ((rd_T37 y270 x5_1).f1)) := hcc8 1 _ rfl; have hx8_2 : w15.cell? ⟨go5, (x5_1 : Int).toNat * 4 + 2, none⟩ = some (.bool ((rd_T37 y270 x5_1).f2)) := hcc8 2 _ rfl; have hx8_3 : w15.cell? ⟨go5, (x5_1 : Int).toNat * 4 + 3, none⟩ = some (.bool ((rd_T37 y270 x5_1).f3)) := hcc8 3 _ rfl; have hf8_0 : w15.frozen? ⟨go5, (x5_1 : Int).toNat * 4, none⟩ = false := hfr8 0; have hf8_1 : w15.frozen? ⟨go5, (x5_1 : Int).toNat * 4 + 1, none⟩ = false := hfr8 1; have hf8_2 : w15.frozen? ⟨go5, (x5_1 : Int).toNat * 4 + 2, none⟩ = false := hfr8 2; have hf8_3 : w15.frozen? ⟨go5, (x5_1 : Int).toNat * 4 + 3, none⟩ = false := hfr8 3; (try clear hcl8); (try clear hcc8); (try clear hfr8); (try clear hM8); replace p8 := eq_true p8; replace q8 := eq_true q8; have HX16 := Aside0.mk (show Kd.R k37 37 w15 w0.heap.size (fun k_ => (P0_ k_ ∨ w.heap.size ≤ k_)) (.slice (some ⟨go5, 0, none⟩) x0_1.length co9) y270 from (by (with_reducible repeat (first | apply Kd.R_alloc | apply Kd.R_drewN | apply Kd.R_drew)); exact HO_0.out)); obtain ⟨ce16, hcl16, hM16, hcc16, hfr16⟩ := Kd.R_elem HX16.out z37 (x5_1 : Int) (of_decide_eq_true (by first | (with_reducible assumption) | assumption)) (by have h_ : (x5_1 : Int) < ((x0_1.length : Int) : Int) := of_decide_eq_true (by first | (with_reducible assumption) | assumption); first | exact h_ | (have e_ := (Kd.R_reads' HO_0.out).1; omega) | simpa using h_); obtain rfl := k37_openM hM16; have HP16 := Kd.R_seg HX16.out (x5_1 : Int) (of_decide_eq_true (by first | (with_reducible assumption) | assumption)) (by have h_ : (x5_1 : Int) < ((x0_1.length : Int) : Int) := of_decide_eq_true (by first | (with_reducible assumption) | assumption); first | exact h_ | (have e_ := (Kd.R_reads' HO_0.out).1; omega) | simpa using h_) (seg := [.bool ((Int.tmod (wrap64 ((wrap64 ((wrap64 (x1_1 + 1)) + 1)) + 1)) 3) == 0)]) (j := 3) hcl16 hcc16 (show 4 ≤ 4 from by decide) (x' := (⟨(rd_T37 y270 x5_1).f0, (rd_T37 y270 x5_1).f1, (rd_T37 y270 x5_1).f2, ((Int.tmod (wrap64 ((wrap64 ((wrap64 (x1_1 + 1)) + 1)) + 1)) 3) == 0)⟩ : S37)) (k37_mkM _ _ _ (⟨(rd_T37 y270 x5_1).f0, (rd_T37 y270 x5_1).f1, (rd_T37 y270 x5_1).f2, ((Int.tmod (wrap64 ((wrap64 ((wrap64 (x1_1 + 1)) + 1)) + 1)) 3) == 0)⟩ : S37) ) (fun _ hk => hk); have hx16_3 := hcc16 3 _ rfl; (try simp only [show (k37).sz = 4 from rfl, Nat.mul_one, Nat.add_zero] at hx16_3); have hf16_3 := hfr16 3; (try simp only [show (k37).sz = 4 from rfl, Nat.mul_one, Nat.add_zero] at hf16_3); (try clear hcl16); (try clear hcc16); (try clear hfr16); (try clear hM16)) | ((with_reducible refine gate_store (t := 4) (p := 43) rfl ?_); refine store_event (t := 4) (p := 43) (v := ?vo_w17) (w1 := (w15.setCell ⟨go5, (x5_1 : Int).toNat * 4 + 3, none⟩ (.bool ((Int.tmod (wrap64 ((wrap64 ((wrap64 (x1_1 + 1)) + 1)) + 1)) 3) == 0)))) ?hg ?ho ?hn ?hr ?_; (case ho => rfl); (case hg => rfl); (case hn => rfl); (case hr => first | (go_simp; done) | (go_simp; rfl)); intro w17 hw; have hg : w15.grownBy w17 (some go5) := (by rw [hw]; exact HP16.2); have hp_ : Kd.R k37 37 w17 w0.heap.size (fun k_ => (P0_ k_ ∨ w.heap.size ≤ k_)) (.slice (some ⟨go5, 0, none⟩) x0_1.length co9) y271 := (by rw [hw, Ny271.out]; exact HP16.1); clear HP16; have n0_ := Aside0.mk (hp_); have n1_ := Aside0.mk ((by rw [hw]; exact below_set (HB.out) GB5.out : Below w0.heap.size w0 w17)); have n2_ := Aside0.mk (Kept.of_grown (S := (fun k_ => P0_ k_)) hg (by repeat (first | (with_reducible first | exact HK.out | apply Kept.alloc | apply Kept.drewN | apply Kept.drew) | exact HK.out)) (fun k_ e_ => (HO_0.out.1 k_ e_))); clear HO_0; clear HB; clear HK; have HO_0 := n0_; have HB := n1_; have HK := n2_; clear n0_ n1_ n2_; clear hg hw hp_))
          go_roundg k1
          case measure => have := HK1.out; omega
          case rel => exact ⟨(y271), (wrap64 ((wrap64 ((wrap64 ((wrap64 (x1_1 + 1)) + 1)) + 1)) + 1)), (wrap64 (x5_1 + 1)), (by first | rfl | (simp; done) | (simp [*]; done)), (by first | rfl | (simp; done) | (simp [*]; done)), H', ⟨by have := HK1.out; omega⟩, ⟨by (with_reducible repeat (first | apply Kd.R_alloc | apply Kd.R_drewN | apply Kd.R_drew)); exact HO_0.out⟩, ⟨by repeat (first | (with_reducible first | exact HK.out | apply Kept.alloc | apply Kept.drewN | apply Kept.drew) | exact HK.out)⟩, ⟨by repeat (first | (with_reducible first | exact HB.out | apply below_alloc | apply pw_below_drewN | apply below_drew1) | exact HB.out)⟩⟩
        · rw [if_neg c4] at H
          exact absurd H (by simp)
      · rw [if_neg c3] at H
        have c3b0 : decide (x5_1 < (x0_1.length : Int)) = false := decide_eq_false c3
        clear c3
        simp only [Option.some.injEq, Prod.mk.injEq] at H
        obtain ⟨rfl, rfl⟩ := H
        obtain ⟨Ao18, co18, eo18⟩ := Kd.R_slice HO_0.out
        subst eo18
        go_wp2
        go_ret
        exact ⟨by first | rfl | (simp [errW_none, errW_some] <;> rfl) | (simp [*, errW_none, errW_some] <;> rfl), by (with_reducible repeat (first | apply Kd.R_alloc | apply Kd.R_drewN | apply Kd.R_drew)); exact HO_0.out, by repeat (first | (with_reducible first | exact HB.out | apply below_alloc | apply pw_below_drewN | apply below_drew1) | exact HB.out), by repeat (first | (with_reducible first | exact HK.out | apply Kept.alloc | apply Kept.drewN | apply Kept.drew) | exact HK.out)⟩

end Go.Proofs.Ytpmglamjgfpmnaa.PFnExactDirtyPages
