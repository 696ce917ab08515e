-- Printed by this session's own program (wip/tools/xprint.py) over the kit's print; not trusted: Lean checks it.
import Derived.Test.YtdkpdpdaggnmhaaGreatZExactDirtyLinesPFnExactDirtyLinesx0
import Derived.Test.YtdkpdpdaggnmhaaGreatZExactDirtyLinesPFnExactDirtyLinesx1
import Derived.Test.YtdkpdpdaggnmhaaGreatZExactDirtyLinesPFnExactDirtyLinesx3
import Derived.Test.YtdkpdpdaggnmhaaGreatZExactDirtyLinesPFnExactDirtyLinesx4
import Derived.Test.YtdkpdpdaggnmhaaGreatZExactDirtyLinesPFnExactDirtyLinesx5
import Derived.Test.YtdkpdpdaggnmhaaGreatZExactDirtyLinesPFnExactDirtyLinesx6
namespace Go.Proofs.YtdkpdpdaggnmhaaGreat.PFnExactDirtyLines
open Go.RowKit Go.Proofs.YtdkpdpdaggnmhaaGreatW.PrintWords Go.Proofs.YtdkpdpdaggnmhaaGreatW.PrintLast Go.Proofs.YtdkpdpdaggnmhaaGreatW.PrintMore
attribute [local go_sem] max2_int min2_int max_two min_two max_three min_three max_four min_four   -- for this text's walks alone
set_option linter.unusedVariables false
set_option linter.unusedSimpArgs false

/-! ### impl_setOf: function 34 -/
def impl_setOf.f (l0 : List Int) : Option (List Int) := if l0.length ≤ 1048576 then some (setI l0) else none
theorem impl_setOf.calls (A0 : Option Addr) (c0 : Nat) (l0 : List Int) (r : List Int) (w : World) (hr0 : Kd.C (Kd.int .i64) w A0 l0.length l0) (hc0 : l0.length ≤ c0) (h : impl_setOf.f l0 = some r) :
    Calls Tryz.prog 34 #[.slice A0 l0.length c0] w fun e w' => ∃ v0_ : Value, e = .returned v0_ ∧ Kd.R (Kd.int .i64) 2 w' w.heap.size (fun _ => True) v0_ r ∧ Below w.heap.size w w' := by
  unfold impl_setOf.f at h
  split at h
  · obtain rfl := Option.some.inj h
    exact svSetOf A0 c0 l0 w hr0 (by omega)
  · cases h


/-! ### impl_DirtyLines: function 22 -/
/-- A number, brought into the range of lines. -/
def clipL (x : Int) : Int := if -1 ≤ x ∧ x < 16 then x else -1
theorem clip_in (x : Int) : -1 ≤ clipL x ∧ clipL x < 16 := by
  unfold clipL
  split <;> omega
theorem clip_id {x : Int} (h : -1 ≤ x ∧ x < 16) : clipL x = x := by
  unfold clipL
  rw [if_pos h]
def encL (x : Int) : Value := .int .i64 (clipL x)
def isDirty (ds : List Bool) (x : Int) : Bool := decide (0 ≤ x ∧ ds.getD x.toNat false = true)
theorem hold_kept {w0 W W' : World} {x : Thing × Nat × Nat} {L : List (Thing × Nat × Nat)} (h : Hold w0 W (x :: L)) (hk : ∀ k, k < W.heap.size → ¬ (x.2.1 ≤ k ∧ k < x.2.2) → W'.heap[k]? = W.heap[k]?) {T : Thing} {lo hi : Nat} (hm : (T, lo, hi) ∈ L) : T.P W' lo hi := by
  have hs := h.sits _ (List.mem_cons_of_mem _ hm)
  have ho : x.2.2 ≤ lo ∨ hi ≤ x.2.1 := (List.pairwise_cons.1 h.off).1 _ hm
  refine T.move hs.1 (fun k ka kb kc_ => hk k kc_ (fun hi_ => ?_))
  rcases ho with ho | ho <;> omega
set_option maxRecDepth 100000 in
theorem dirty_clo {W : World} {b6 g q : Nat} {ds : List Bool} {D : Int → Option Value} {dn : Nat} {pcs : Array Value} {t6 t7 : TypeId} (h6 : W.heap[b6]? = some (.cells #[.pointer (some ⟨g, 0, none⟩)] t6 (0, 0))) (hg : W.heap[g]? = some (.cells pcs t7 (0, 0))) (h8 : pcs[8]? = some (.map (some q)))
    (hq : MapIs Tryz.prog 2 W q D dn) (hD : ∀ k, D k = dirtyM ds k) (x : Int) (hx : -1 ≤ x ∧ x < 16) :
    FnGives Tryz.prog 37 #[.pointer (some ⟨b6, 0, none⟩)] #[.int .i64 x] (.bool (!isDirty ds x)) W := by
  have c6 : W.cell? ⟨b6, 0, none⟩ = some (.pointer (some ⟨g, 0, none⟩)) := (blk_cell h6 0).trans rfl
  have c8 : W.cell? ⟨g, 8, none⟩ = some (.map (some q)) := (blk_cell hg 8).trans h8
  have lk : (Instr.lookup 63 (.map (some q)) (.int .i64 x) false).run Tryz.prog W = .ok (.bool (isDirty ds x)) W := by
    have h1 := hq.look (t := 63) (e := 4) (z := .bool false) (k := x) Tryz.underlying2 Tryz.underlying63 (fun _ => rfl) (lit_wf (by omega))
    rw [h1, hD x, dirtyM]
    unfold isDirty
    split
    · rename_i h2
      rw [decide_eq_true h2]; rfl
    · rename_i h2
      rw [decide_eq_false h2]; rfl
  clear h6 hg h8 hq hD hx
  show Calls Tryz.prog 37 #[.int .i64 x, .pointer (some ⟨b6, 0, none⟩)] W _
  go_enter Tryz.func37, Tryz.ntmps37
  go_wp2_with fail
  go_ret
  exact ⟨rfl, 0, rfl⟩
open Go.Shelf Go.Sort in
theorem putRow_clip (w : World) (b : Nat) (d : Array Int) (h : ∀ x ∈ d.toList, clipL x = x) : putRow encL w b 0 d = putRow (Value.int .i64) w b 0 d := by
  unfold putRow putCells
  congr 1
  funext c
  apply Array.ext_getElem?
  intro k
  simp only [Array.getElem?_mapIdx]
  cases c[k]? with
  | none => rfl
  | some v =>
    simp only [Option.map_some]
    split
    · rename_i hk
      have hk2 : k - 0 < d.size := by omega
      rw [getElem!_pos d (k - 0) hk2]
      have := h d[k - 0] (by simp)
      unfold encL
      rw [this]
    · rfl
open Go.Shelf Go.Sort in
theorem sort_kept {w : World} {b n k : Nat} {os : Array Obj} {d : Array Int} (hk : k < w.heap.size) (hne : k ≠ b) : (sortWorld encL w b 0 n d os).heap[k]? = w.heap[k]? := by
  unfold sortWorld
  rw [heap_grow_old _ _ (by simpa using hk)]
  simp [putRow, mapBlock, Sort.ahead, Array.getElem?_modify, Ne.symm hne]
open Go.Shelf Go.Sort in
set_option maxHeartbeats 1600000 in
theorem del_dirty {w0 W : World} {L : List (Thing × Nat × Nat)} {l : List Int} {b c lo hi b6 b6' g g' q : Nat} {ds : List Bool} {D : Int → Option Value} {dn : Nat} {pcs : Array Value} {t6 t7 : TypeId}
    (h : Hold w0 W ((flat (Kd.int .i64) 2 (.slice (some ⟨b, 0, none⟩) l.length c) l, lo, hi) :: L)) (h6 : (boxT #[.pointer (some ⟨g, 0, none⟩)] t6, b6, b6') ∈ L) (hg : (boxT pcs t7, g, g') ∈ L) (h8 : pcs[8]? = some (.map (some q))) (hq : (mapT Tryz.prog 2 D dn, q, q + 1) ∈ L) (hD : ∀ k, D k = dirtyM ds k)
    (hl : ∀ x ∈ l, -1 ≤ x ∧ x < 16) (hlen : l.length ≤ 1000) (hpos : 0 < l.length) :
    Calls Tryz.prog 35 #[.slice (some ⟨b, 0, none⟩) l.length c, .func (.func 37) #[] #[.pointer (some ⟨b6, 0, none⟩)]] W fun e w' =>
      e = .returned (.slice (some ⟨b, 0, none⟩) (l.filter (isDirty ds)).length c) ∧ Kd.R (Kd.int .i64) 2 w' w0.heap.size (fun _ => True) (.slice (some ⟨b, 0, none⟩) (l.filter (isDirty ds)).length c) (l.filter (isDirty ds)) ∧ Below w0.heap.size w0 w' := by
  obtain ⟨hP, hlo, hlh, hhi⟩ := h.get List.mem_cons_self
  have hP' : (Kd.int .i64).R 2 W lo (In lo hi) (.slice (some ⟨b, 0, none⟩) l.length c) l := hP
  have hin := hP'.1 b (by simp [Value.ownBlock])
  obtain ⟨_, inner, hown, hr⟩ := hP'
  have hi_ : inner = l.map (Value.int .i64) := by
    apply List.ext_getElem
    · have := hr.1
      have hs : (Kd.int .i64).sz = 1 := rfl
      rw [hs] at this
      simp; omega
    · intro i h2 h3
      have hil : i < l.length := by simpa using h3
      have := hr.2 i l[i] (by simp [hil])
      have h4 : (inner.drop (i * 1)).take 1 = [Value.int .i64 l[i]] := this
      rw [Nat.mul_one] at h4
      have h5 : ((inner.drop i).take 1)[0]? = some (Value.int .i64 l[i]) := by rw [h4]; rfl
      rw [List.getElem?_take_of_lt (by omega), List.getElem?_drop, Nat.add_zero, List.getElem?_eq_getElem h2] at h5
      simpa using h5
  subst hi_
  rcases hown.2 with ⟨hv, _⟩ | ⟨g_, cap_, cur, hv, hbase, hgb, r1, r2, r3, r4⟩
  · cases hv
  injection hv with e1 e2 e3
  injection e1 with e1
  injection e1 with e1
  subst e1 e3
  have hs1 : (Kd.int .i64).sz = 1 := rfl
  rw [hs1] at r3 r4
  have r4' : cur.toList.take l.length = l.map (Value.int .i64) := by simpa using r4
  have hH : Holds (Value.int .i64) W b 0 l.toArray := holds_of_block_i hgb r4'
  have hH2 : Holds encL W b 0 l.toArray := by
    intro j hj
    obtain ⟨a1, a2⟩ := hH j hj
    refine ⟨?_, a2⟩
    rw [a1]
    have hj' : j < l.toArray.size := hj
    rw [getElem!_pos l.toArray j hj']
    unfold encL
    rw [clip_id (hl _ (by simp))]
  have clo : ∀ W' : World, (∀ k, k < W.heap.size → ¬ (lo ≤ k ∧ k < hi) → W'.heap[k]? = W.heap[k]?) → ∀ x : Int, FnGives Tryz.prog 37 #[.pointer (some ⟨b6, 0, none⟩)] #[encL x] (.bool (!isDirty ds (clipL x))) W' := by
    intro W' hk x
    exact dirty_clo (hold_kept h hk h6).1 (hold_kept h hk hg).1 h8 (hold_kept h hk hq).1 hD (clipL x) (clip_in x)
  have hD2 := Go.Proofs.AnyE.slices_DeleteFunc YtdkpdpdaggnmhaaGreat.layDeleteFunc encL (fun _ => rfl) (fun x => !isDirty ds (clipL x)) 37 #[.pointer (some ⟨b6, 0, none⟩)] (enters_of Tryz.func37 (by kernel_rfl) rfl) 0 Tryz.zeroValue2 b 0 c l.toArray W
    (fun W' x hb => clo W' (fun k hk _ => hb.block k hk) x) (fun n os dk x _ => clo _ (fun k hk hn => sort_kept hk (fun e => hn (by rw [e]; exact hin))) x) hH2 (by simp; omega) (by simpa using r1)
  have ef : (l.toArray.toList.filter fun x => !(!isDirty ds (clipL x))) = l.filter (isDirty ds) := by
    show l.filter _ = _
    apply List.filter_congr
    intro x hx
    rw [Bool.not_not, clip_id (hl x hx)]
  rw [ef] at hD2
  obtain ⟨ts, hts⟩ : ∃ ts, ts = l.filter (isDirty ds) := ⟨_, rfl⟩
  have htl : ts.length ≤ l.length := by rw [hts]; exact List.length_filter_le _ _
  have htm : ∀ x ∈ ts, -1 ≤ x ∧ x < 16 := fun x hx => hl x (by rw [hts] at hx; exact (List.mem_filter.1 hx).1)
  rw [← hts] at hD2 ⊢
  have esz : l.toArray.size = l.length := by simp
  rw [esz] at hD2
  refine hD2.mono ?_
  rintro e w' ⟨rfl, n, rfl⟩
  have hcl : ∀ x ∈ (ts ++ List.replicate (l.length - ts.length) 0).toArray.toList, clipL x = x := by
    intro x hx
    have hx2 : x ∈ ts ++ List.replicate (l.length - ts.length) (0 : Int) := hx
    rcases List.mem_append.1 hx2 with h1 | h1
    · exact clip_id (htm x h1)
    · rw [List.eq_of_mem_replicate h1]; exact clip_id (by omega)
  rw [putRow_clip _ _ _ hcl]
  have hbw : w0.heap.size ≤ b := Nat.le_trans hlo hin.1
  have hown2 := ownsRow_cut (q := n) (ts := ts) htl (base := w0.heap.size) hbw hgb r1 r2 r3
  have hg2 := grownBy_sorted_i (w := W) (g := b) (n := n) (os := #[]) (ts ++ List.replicate (l.length - ts.length) 0).toArray
  rw [show ∀ W : World, grow W #[] = W from fun W => by simp [grow]] at hg2
  refine ⟨rfl, Kd.R_of_own hown2 (fun _ _ => trivial), ?_⟩
  exact h.below.grown hg2 h.below.size (fun j hj => by cases hj; exact hbw)
theorem mem_leftC (ds : List Bool) (x : Int) : ∀ k, x ∈ leftC ds k ↔ 0 ≤ x ∧ x < k ∧ ds.getD x.toNat false = true
  | 0 => by
    constructor
    · intro h; cases h
    · rintro ⟨h1, h2, _⟩; omega
  | k + 1 => by
    rw [leftC, List.mem_append, mem_leftC ds x k]
    by_cases hd : ds.getD k false = true
    · rw [if_pos hd, List.mem_singleton]
      constructor
      · rintro (⟨a, b, c⟩ | rfl)
        · exact ⟨a, by omega, c⟩
        · exact ⟨by omega, by omega, by rw [Int.toNat_natCast]; exact hd⟩
      · rintro ⟨a, b, c⟩
        by_cases e : x = (k : Int)
        · exact .inr e
        · exact .inl ⟨a, by omega, c⟩
    · rw [if_neg hd]
      constructor
      · rintro (⟨a, b, c⟩ | h)
        · exact ⟨a, by omega, c⟩
        · cases h
      · rintro ⟨a, b, c⟩
        refine .inl ⟨a, ?_, c⟩
        by_cases e : x = (k : Int)
        · subst e
          rw [Int.toNat_natCast] at c
          exact absurd c hd
        · omega
theorem leftC_lt (ds : List Bool) : ∀ k, (leftC ds k).Pairwise (· < ·)
  | 0 => List.Pairwise.nil
  | k + 1 => by
    rw [leftC, List.pairwise_append]
    refine ⟨leftC_lt ds k, ?_, fun a ha b hb => ?_⟩
    · split
      · exact List.pairwise_singleton _ _
      · exact List.Pairwise.nil
    · split at hb
      · rw [List.mem_singleton.1 hb]
        exact ((mem_leftC ds a k).1 ha).2.1
      · cases hb
theorem set_dirty {s : CacheV} {n : Nat} (hok : s.Ok n) (hf : s.Fine) : setI (s.cont.filter (isDirty s.ds)) = leftC s.ds 16 := by
  refine rising_ext (setI_lt _) (leftC_lt _ _) (fun x => ?_)
  rw [mem_setI, mem_leftC, List.mem_filter]
  unfold isDirty
  rw [decide_eq_true_eq]
  constructor
  · rintro ⟨h1, h2, h3⟩
    exact ⟨h2, (hok.lines x h1).2, h3⟩
  · rintro ⟨h1, h2, h3⟩
    refine ⟨?_, h1, h3⟩
    have := hf.held x.toNat h3
    rwa [Int.toNat_of_nonneg h1] at this
def impl_DirtyLines.f (l0_0 : List (List Int)) (l0_1 : List Int) (a0_2 : Bool) (a0_3 : Bool) (l1 : List S58) : Option (List Int × Bool) := if polLen l0_0 l0_1 ∧ l1.length ≤ 1048576 then some (dirtyV l0_0 l0_1 a0_2 a0_3 l1) else none
set_option maxHeartbeats 1600000 in
set_option maxRecDepth 100000 in
theorem yDirtyLines_bad (A0_0 : Option Addr) (c0_0 : Nat) (l0_0 : List (List Int)) (A0_1 : Option Addr) (c0_1 : Nat) (l0_1 : List Int) (a0_2 : Bool) (a0_3 : Bool) (A1 : Option Addr) (c1 : Nat) (l1 : List S58) (w : World) (hr0_0 : Kd.C (Kd.slice 2 (Kd.int .i64)) w A0_0 l0_0.length l0_0) (hc0_0 : l0_0.length ≤ c0_0) (hr0_1 : Kd.C (Kd.int .i64) w A0_1 l0_1.length l0_1) (hc0_1 : l0_1.length ≤ c0_1) (hr1 : Kd.C k58 w A1 l1.length l1) (hc1 : l1.length ≤ c1) (hln : polLen l0_0 l0_1 ∧ l1.length ≤ 1048576) (hv : (validB l0_0 l0_1 && traceB l1) = false) :
    Calls Tryz.prog 22 #[.agg #[.slice A0_0 l0_0.length c0_0, .slice A0_1 l0_1.length c0_1, .bool a0_2, .bool a0_3], .slice A1 l1.length c1] w fun e w' => ∃ v0_ : Value, e = .returned (.tuple #[v0_, .bool false]) ∧ Kd.R (Kd.int .i64) 2 w' w.heap.size (fun _ => True) v0_ [] ∧ Below w.heap.size w w' := by
  have HR0 := Aside0.mk hr0_0
  have HC0 := Aside0.mk hc0_0
  have HR1 := Aside0.mk hr0_1
  have HC1 := Aside0.mk hc0_1
  have HT := Aside0.mk hr1
  have HCT := Aside0.mk hc1
  have HLN := Aside0.mk hln
  have HV := Aside0.mk hv
  clear hr0_0 hc0_0 hr0_1 hc0_1 hr1 hc1 hln hv
  have HS := (Hold.start w).box #[.slice A0_0 l0_0.length c0_0, .slice A0_1 l0_1.length c0_1, .bool a0_2, .bool a0_3] 35
  go_enter Tryz.func22, Tryz.ntmps22
  go_wp2_with fail
  refine (impl_isCached.calls A0_0 c0_0 l0_0 A0_1 c0_1 l0_1 a0_2 a0_3 A1 c1 l1 false _ (Kd.C_below HR0.out HS.below) HC0.out (Kd.C_below HR1.out HS.below) HC1.out (Kd.C_below HT.out HS.below) HCT.out ((isCached_f a0_2 a0_3 HLN.out.1).trans (by rw [HV.out]))).mono ?_
  rintro e w1 ⟨rfl, hb⟩
  replace HS := HS.step (by first | exact hb | exact hb.below)
  clear hb
  go_wp2_with fail
  go_ret2
  exact ⟨_, rfl, Kd.R_nil _ _ _ _ _, HS.below⟩

set_option maxHeartbeats 1600000 in
set_option maxRecDepth 100000 in
theorem yDirtyLines_ok (A0_0 : Option Addr) (c0_0 : Nat) (l0_0 : List (List Int)) (A0_1 : Option Addr) (c0_1 : Nat) (l0_1 : List Int) (a0_2 : Bool) (a0_3 : Bool) (A1 : Option Addr) (c1 : Nat) (l1 : List S58) (w : World) (hr0_0 : Kd.C (Kd.slice 2 (Kd.int .i64)) w A0_0 l0_0.length l0_0) (hc0_0 : l0_0.length ≤ c0_0) (hr0_1 : Kd.C (Kd.int .i64) w A0_1 l0_1.length l0_1) (hc0_1 : l0_1.length ≤ c0_1) (hr1 : Kd.C k58 w A1 l1.length l1) (hc1 : l1.length ≤ c1) (hln : polLen l0_0 l0_1 ∧ l1.length ≤ 1048576) (hv : (validB l0_0 l0_1 && traceB l1) = true) :
    Calls Tryz.prog 22 #[.agg #[.slice A0_0 l0_0.length c0_0, .slice A0_1 l0_1.length c0_1, .bool a0_2, .bool a0_3], .slice A1 l1.length c1] w fun e w' => ∃ v0_ : Value, e = .returned (.tuple #[v0_, .bool true]) ∧ Kd.R (Kd.int .i64) 2 w' w.heap.size (fun _ => True) v0_ (leftC (cacheEnd l0_0 l0_1 a0_2 a0_3 l1).ds 16) ∧ Below w.heap.size w w' := by
  have HR0 := Aside0.mk hr0_0
  have HC0 := Aside0.mk hc0_0
  have HR1 := Aside0.mk hr0_1
  have HC1 := Aside0.mk hc0_1
  have HT := Aside0.mk hr1
  have HCT := Aside0.mk hc1
  have HLN := Aside0.mk hln
  have HV := Aside0.mk hv
  clear hr0_0 hc0_0 hr0_1 hc0_1 hr1 hc1 hln hv
  have HS := (Hold.start w).box #[.slice A0_0 l0_0.length c0_0, .slice A0_1 l0_1.length c0_1, .bool a0_2, .bool a0_3] 35
  go_enter Tryz.func22, Tryz.ntmps22
  go_wp2_with fail
  refine (impl_isCached.calls A0_0 c0_0 l0_0 A0_1 c0_1 l0_1 a0_2 a0_3 A1 c1 l1 true _ (Kd.C_below HR0.out HS.below) HC0.out (Kd.C_below HR1.out HS.below) HC1.out (Kd.C_below HT.out HS.below) HCT.out ((isCached_f a0_2 a0_3 HLN.out.1).trans (by rw [HV.out]))).mono ?_
  rintro e w1 ⟨rfl, hb⟩
  replace HS := HS.step (by first | exact hb | exact hb.below)
  clear hb
  obtain ⟨hv1, hv2⟩ := Bool.and_eq_true_iff.1 HV.out
  have HTF := Aside0.mk (trace_facts hv2)
  have HVF := Aside0.mk (valid_facts hv1)
  have HV1 := Aside0.mk hv1
  clear hv1 hv2
  have x0 : w1.cell? ⟨w.heap.size, 0, none⟩ = some (.slice A0_0 l0_0.length c0_0) := HS.cell List.mem_cons_self 0 _ rfl
  have x1 : w1.cell? ⟨w.heap.size, 1, none⟩ = some (.slice A0_1 l0_1.length c0_1) := HS.cell List.mem_cons_self 1 _ rfl
  have x2 : w1.cell? ⟨w.heap.size, 2, none⟩ = some (.bool a0_2) := HS.cell List.mem_cons_self 2 _ rfl
  have x3 : w1.cell? ⟨w.heap.size, 3, none⟩ = some (.bool a0_3) := HS.cell List.mem_cons_self 3 _ rfl
  go_wp2_with fail
  clear x0 x1 x2 x3
  refine (cached_calls A0_0 c0_0 l0_0 A0_1 c0_1 l0_1 a0_2 a0_3 A1 c1 l1 (m := l0_1.length) (fin := (cacheEnd l0_0 l0_1 a0_2 a0_3 l1)) (Kd.C_below HR0.out HS.below) HC0.out (Kd.C_below HR1.out HS.below) HC1.out HV1.out rfl (Kd.C_below HT.out HS.below) HCT.out HTF.out.2 HTF.out.1 rfl (by unfold impl_Policy_empty.f; exact if_pos ⟨HVF.out.1, by have := HVF.out.2.1; omega⟩)).mono ?_
  rintro e w2 ⟨g, rfl, bm, cm, lm, hm, p, q, R, HI⟩
  obtain ⟨bk, kc, lk, hk, V, vc, lv, hv, K, b, c, lo, hi, M, D, mn, dn, ⟨_, _, hDM, _, _⟩, HQ⟩ := HI
  replace HS := hold_glue HS HQ
  clear HQ
  simp only [List.cons_append, List.nil_append] at HS
  have HDM := Aside0.mk hDM
  clear hDM
  have HEO := Aside0.mk (end_ok HV1.out a0_2 a0_3 HTF.out.2)
  have HCN := Aside0.mk HEO.out.1.cont
  have HB6 := HS.box #[.pointer (some ⟨g, 0, none⟩)] 66
  replace HS := HB6
  clear HB6
  have o6 : (w2.alloc (.cells #[.pointer (some ⟨g, 0, none⟩)] 66)).cell? ⟨g, 6, none⟩ = some (.slice (some ⟨bk, 0, none⟩) l0_1.length kc) := HS.cell (List.mem_cons_of_mem _ List.mem_cons_self) 6 _ rfl
  go_wp2_with fail
  clear o6
  generalize w2.alloc (.cells #[.pointer (some ⟨g, 0, none⟩)] 66) = w3 at HS ⊢
  generalize w2.heap.size = b6 at HS ⊢
  refine (show Calls _ _ #[.slice (some ⟨bk, 0, none⟩) l0_1.length kc] _ _ from (HS.reads' (List.mem_cons_of_mem _ (List.mem_cons_of_mem _ (List.mem_cons_of_mem _ List.mem_cons_self)))).1 ▸ slices_Clone_int64_int64.calls (some ⟨bk, 0, none⟩) kc (cacheEnd l0_0 l0_1 a0_2 a0_3 l1).cont (cacheEnd l0_0 l0_1 a0_2 a0_3 l1).cont _ (HS.reads' (List.mem_cons_of_mem _ (List.mem_cons_of_mem _ (List.mem_cons_of_mem _ List.mem_cons_self)))).2.2 (HS.reads' (List.mem_cons_of_mem _ (List.mem_cons_of_mem _ (List.mem_cons_of_mem _ List.mem_cons_self)))).2.1 (by unfold slices_Clone_int64_int64.f; exact if_pos (by have := HCN.out; have := HVF.out.2.1; omega))).mono ?_
  rintro e w4 ⟨v_, rfl, hr, hb⟩
  replace HS := HS.made hb hr
  clear hb hr
  obtain ⟨b, c_, rfl, _, _⟩ := HS.row_form List.mem_cons_self (by have := HCN.out; have := HVF.out.1; omega)
  go_wp2_with fail
  refine (del_dirty HS List.mem_cons_self (List.mem_cons_of_mem _ List.mem_cons_self) rfl (List.mem_cons_of_mem _ (List.mem_cons_of_mem _ (List.mem_cons_of_mem _ (List.mem_cons_of_mem _ (List.mem_cons_of_mem _ (List.mem_cons_of_mem _ List.mem_cons_self)))))) HDM.out HEO.out.1.lines (by have := HCN.out; have := HVF.out.2.1; omega) (by have := HCN.out; have := HVF.out.1; omega)).mono ?_
  clear HS
  rintro e w5 ⟨rfl, hR, hB⟩
  have HR5 := Aside0.mk hR
  have HB5 := Aside0.mk hB
  clear hR hB
  go_wp2_with fail
  have HLF : Aside0 (((cacheEnd l0_0 l0_1 a0_2 a0_3 l1).cont.filter (isDirty (cacheEnd l0_0 l0_1 a0_2 a0_3 l1).ds)).length ≤ 1048576) := ⟨by have h1 := List.length_filter_le (isDirty (cacheEnd l0_0 l0_1 a0_2 a0_3 l1).ds) (cacheEnd l0_0 l0_1 a0_2 a0_3 l1).cont; have := HCN.out; have := HVF.out.2.1; omega⟩
  refine (impl_setOf.calls (some ⟨b, 0, none⟩) c_ _ _ _ (Kd.R_reads' HR5.out).2.2 (Kd.R_reads' HR5.out).2.1 (by unfold impl_setOf.f; exact if_pos HLF.out)).mono ?_
  rintro e w6 ⟨v_, rfl, hR, hB⟩
  rw [set_dirty HEO.out.1 HEO.out.2] at hR
  have HRR := Aside0.mk (Kd.R_lower hR HB5.out.size)
  have HB := Aside0.mk (below_le HB5.out hB)
  clear hR hB
  go_wp2_with fail
  go_ret2
  exact ⟨_, rfl, HRR.out, HB.out⟩

theorem impl_DirtyLines.calls (A0_0 : Option Addr) (c0_0 : Nat) (l0_0 : List (List Int)) (A0_1 : Option Addr) (c0_1 : Nat) (l0_1 : List Int) (a0_2 : Bool) (a0_3 : Bool) (A1 : Option Addr) (c1 : Nat) (l1 : List S58) (r1 : List Int) (r2 : Bool) (w : World) (hr0_0 : Kd.C (Kd.slice 2 (Kd.int .i64)) w A0_0 l0_0.length l0_0) (hc0_0 : l0_0.length ≤ c0_0) (hr0_1 : Kd.C (Kd.int .i64) w A0_1 l0_1.length l0_1) (hc0_1 : l0_1.length ≤ c0_1) (hr1 : Kd.C k58 w A1 l1.length l1) (hc1 : l1.length ≤ c1) (h : impl_DirtyLines.f l0_0 l0_1 a0_2 a0_3 l1 = some (r1, r2)) :
    Calls Tryz.prog 22 #[.agg #[.slice A0_0 l0_0.length c0_0, .slice A0_1 l0_1.length c0_1, .bool a0_2, .bool a0_3], .slice A1 l1.length c1] w fun e w' => ∃ v0_ : Value, e = .returned (.tuple #[v0_, .bool r2]) ∧ Kd.R (Kd.int .i64) 2 w' w.heap.size (fun _ => True) v0_ r1 ∧ Below w.heap.size w w' := by
  unfold impl_DirtyLines.f dirtyV cacheOk at h
  split at h
  rotate_left
  · cases h
  rename_i hln
  cases hv : (validB l0_0 l0_1 && traceB l1) with
  | false =>
    rw [hv, if_neg (by decide)] at h
    cases h
    exact yDirtyLines_bad A0_0 c0_0 l0_0 A0_1 c0_1 l0_1 a0_2 a0_3 A1 c1 l1 w hr0_0 hc0_0 hr0_1 hc0_1 hr1 hc1 hln hv
  | true =>
    rw [hv, if_pos rfl] at h
    injection h with h
    injection h with h1 h2
    subst h1 h2
    exact yDirtyLines_ok A0_0 c0_0 l0_0 A0_1 c0_1 l0_1 a0_2 a0_3 A1 c1 l1 w hr0_0 hc0_0 hr0_1 hc0_1 hr1 hc1 hln hv



/-! ### laws_FnExactDirtyLines: function 5 -/
/-- n rising numbers from a on. -/
def cnt (a : Int) (n : Nat) : List Int := (List.range n).map fun (j : Nat) => a + (j : Int)
theorem cnt_length (a : Int) (n : Nat) : (cnt a n).length = n := by simp [cnt]
theorem cnt_succ (a : Int) (n : Nat) : cnt a (n + 1) = cnt a n ++ [a + (n : Int)] := by simp [cnt, List.range_succ]
theorem cnt_getD (a : Int) (n i : Nat) (h : i < n) : (cnt a n).getD i 0 = a + (i : Int) := by
  simp [cnt, List.getD_eq_getElem?_getD, h]
theorem set_mark {α : Type} (A l : List α) (i : Nat) (v : α) (h : i = A.length) (hi : i < l.length) : (A ++ l.drop i).set i v = (A ++ [v]) ++ l.drop (i + 1) := by
  subst h
  rw [List.set_append_right _ _ (Nat.le_refl _), Nat.sub_self, List.drop_eq_getElem_cons hi, List.set_cons_zero]
  simp
theorem szInt64S_f (l : List Int) (a : Int) (h0 : 0 ≤ a) (h1 : a ≤ 1048576) (hl : l.length ≤ 9223372036854775807) : laws_szInt64S.f l a = some (if a < l.length then -1 else a - l.length) := by
  unfold laws_szInt64S.f
  rw [wrap_id (by omega) (by omega)]
  by_cases h : a < l.length
  · rw [if_pos (by omega), if_pos h]
  · rw [if_neg (by omega), if_neg h]
theorem szInt64SS_ev (l : List (List Int)) (a : Int) (h0 : 0 ≤ a) (h1 : a ≤ 1048576) (hl : l.length ≤ 9223372036854775807) (hi : ∀ x ∈ l, x.length ≤ 9223372036854775807) :
    Ev (fun k => laws_szInt64SS.f k l a) (if a < (l.length : Int) + (sumLen l : Int) then -1 else a - ((l.length : Int) + (sumLen l : Int))) := by
  unfold laws_szInt64SS.f
  rw [wrap_id (by omega) (by omega)]
  by_cases h : a < l.length
  · refine Ev.pos (by omega) (Ev.some ?_)
    rw [if_pos (by omega)]
  · refine Ev.neg (by omega) ?_
    have key : ∀ d i (b : Int), l.length - i = d → i ≤ l.length → 0 ≤ b → b ≤ 1048576 → Ev (fun k => laws_szInt64SS.l0 k l b (i : Int)) (if b < (sumLen (l.drop i) : Int) then -1 else b - (sumLen (l.drop i) : Int)) := by
      intro d
      induction d with
      | zero =>
        intro i b hd hi' hb0 hb1
        refine Ev.succ ?_
        simp only [laws_szInt64SS.l0]
        refine Ev.neg (by omega) (Ev.some ?_)
        rw [List.drop_eq_nil_of_le (by omega)]
        simp [sumLen]; omega
      | succ d ih =>
        intro i b hd hi' hb0 hb1
        refine Ev.succ ?_
        simp only [laws_szInt64SS.l0]
        have hx := hi _ (getD_mem l i [] (by omega))
        refine Ev.pos (by omega) (Ev.pos (by omega) (Ev.bindc (szInt64S_f (l.getD i []) b hb0 hb1 hx) ?_))
        rw [drop_cons l i [] (by omega), sumLen_cons]
        generalize l.getD i [] = x at hx ⊢
        by_cases hx2 : b < x.length
        · rw [if_pos hx2]
          refine Ev.pos (by omega) (Ev.some ?_)
          rw [if_pos (by omega)]
        · rw [if_neg hx2]
          refine Ev.neg (by omega) ?_
          rw [wrap_succ (show i < l.length by omega) (by omega)]
          have := ih (i + 1) (b - x.length) (by omega) (by omega) (by omega) (by omega)
          rw [show (if b < ((x.length + sumLen (l.drop (i + 1)) : Nat) : Int) then (-1 : Int) else b - ((x.length + sumLen (l.drop (i + 1)) : Nat) : Int)) = (if b - x.length < (sumLen (l.drop (i + 1)) : Int) then (-1 : Int) else b - x.length - (sumLen (l.drop (i + 1)) : Int)) by split <;> split <;> omega]
          exact this
    have := key l.length 0 (a - l.length) (by omega) (by omega) (by omega) (by omega)
    rw [List.drop_zero] at this
    rw [show (if a < (l.length : Int) + (sumLen l : Int) then (-1 : Int) else a - ((l.length : Int) + (sumLen l : Int))) = (if a - l.length < (sumLen l : Int) then (-1 : Int) else a - l.length - (sumLen l : Int)) by split <;> split <;> omega]
    exact this
theorem toInt64S_ev (l : List Int) (h : l.length ≤ 1048576) : Ev (fun k => laws_toInt64S.f k l) l := by
  unfold laws_toInt64S.f
  refine Ev.pos (by omega) (Ev.pos (by omega) ?_)
  refine Ev.upto (F := fun k s i => laws_toInt64S.l0 k l s i) (n := l.length) (r := l) (fun i s => s = (l.take i).map id ++ List.replicate (l.length - i) 0) ?_ ?_ 0 (Nat.zero_le _) _ (by simp)
  · intro i s hi hs ih
    have hsl : s.length = l.length := by rw [hs]; simp; omega
    refine Ev.succ ?_
    simp only [laws_toInt64S.l0]
    refine Ev.pos (by omega) (Ev.pos (by omega) (Ev.pos (by omega) ?_))
    rw [wrap_succ hi (by omega)]
    refine ih _ ?_
    rw [hs, Int.toNat_natCast]
    exact fill_next id l 0 0 i hi _ rfl
  · intro s hs
    refine Ev.succ ?_
    simp only [laws_toInt64S.l0]
    exact Ev.neg (by omega) (Ev.some (by rw [hs]; simp))
theorem toInt64SS_ev (l : List (List Int)) (h : l.length ≤ 1048576) (hi : ∀ x ∈ l, x.length ≤ 1048576) : Ev (fun k => laws_toInt64SS.f k l) (l.map id) := by
  unfold laws_toInt64SS.f
  refine Ev.pos (by omega) (Ev.pos (by omega) ?_)
  refine Ev.upto (F := fun k s i => laws_toInt64SS.l0 k l s i) (n := l.length) (r := l.map id) (fun i s => s = (l.take i).map id ++ List.replicate (l.length - i) []) ?_ ?_ 0 (Nat.zero_le _) _ (by simp)
  · intro i s hi' hs ih
    have hsl : s.length = l.length := by rw [hs]; simp; omega
    refine Ev.succ ?_
    simp only [laws_toInt64SS.l0]
    refine Ev.pos (by omega) (Ev.pos (by omega) (Ev.bind (toInt64S_ev (l.getD i []) (hi _ (getD_mem l i [] hi'))) (Ev.pos (by omega) ?_)))
    rw [wrap_succ hi' (by omega)]
    refine ih _ ?_
    rw [hs, Int.toNat_natCast]
    exact fill_next id l [] [] i hi' _ rfl
  · intro s hs
    refine Ev.succ ?_
    simp only [laws_toInt64SS.l0]
    exact Ev.neg (by omega) (Ev.some (by rw [hs]; simp))
theorem eqInt64S_ev (l : List Int) (h : l.length ≤ 1048576) : Ev (fun k => laws_eqInt64S.f k l l) true := by
  unfold laws_eqInt64S.f
  refine Ev.pos rfl ?_
  refine Ev.upto (F := fun k (_ : Unit) i => laws_eqInt64S.l0 k l l i) (n := l.length) (r := true) (fun _ _ => True) ?_ ?_ 0 (Nat.zero_le _) () trivial
  · intro i s hi _ ih
    refine Ev.succ ?_
    simp only [laws_eqInt64S.l0]
    refine Ev.pos (by omega) (Ev.pos (by omega) (Ev.pos (by omega) (Ev.pos (by simp) ?_)))
    rw [wrap_succ hi (by omega)]
    exact ih () trivial
  · intro s _
    refine Ev.succ ?_
    simp only [laws_eqInt64S.l0]
    exact Ev.neg (by omega) (Ev.some rfl)
theorem eqInt64SS_ev (l : List (List Int)) (h : l.length ≤ 1048576) (hi : ∀ x ∈ l, x.length ≤ 1048576) : Ev (fun k => laws_eqInt64SS.f k l l) true := by
  unfold laws_eqInt64SS.f
  refine Ev.pos rfl ?_
  refine Ev.upto (F := fun k (_ : Unit) i => laws_eqInt64SS.l0 k l l i) (n := l.length) (r := true) (fun _ _ => True) ?_ ?_ 0 (Nat.zero_le _) () trivial
  · intro i s hi' _ ih
    refine Ev.succ ?_
    simp only [laws_eqInt64SS.l0]
    refine Ev.pos (by omega) (Ev.pos (by omega) (Ev.pos (by omega) (Ev.bind (eqInt64S_ev (l.getD i []) (hi _ (getD_mem l i [] hi'))) (Ev.pos rfl ?_))))
    rw [wrap_succ hi' (by omega)]
    exact ih () trivial
  · intro s _
    refine Ev.succ ?_
    simp only [laws_eqInt64SS.l0]
    exact Ev.neg (by omega) (Ev.some rfl)
theorem szPolicy_ev (h : List (List Int)) (m : List Int) (a : Int) (h0 : 0 ≤ a) (h1 : a ≤ 1048576) (hl : h.length ≤ 9223372036854775807) (hi : ∀ x ∈ h, x.length ≤ 9223372036854775807) (hm : m.length ≤ 9223372036854775807) :
    Ev (fun k => laws_szPolicy.f k h m a) (if a < (h.length : Int) + (sumLen h : Int) + m.length then -1 else a - ((h.length : Int) + (sumLen h : Int) + m.length)) := by
  unfold laws_szPolicy.f
  refine Ev.bind (szInt64SS_ev h a h0 h1 hl hi) ?_
  by_cases hb : a < (h.length : Int) + (sumLen h : Int)
  · rw [if_pos hb]
    exact Ev.pos (by omega) (Ev.some (by rw [if_pos (by omega)]))
  · rw [if_neg hb]
    refine Ev.neg (by omega) (Ev.bindc (szInt64S_f m _ (by omega) (by omega) hm) ?_)
    by_cases hc : a - ((h.length : Int) + (sumLen h : Int)) < m.length
    · rw [if_pos hc]
      exact Ev.pos (by omega) (Ev.some (by rw [if_pos (by omega)]))
    · rw [if_neg hc]
      exact Ev.neg (by omega) (Ev.some (by rw [if_neg (by omega)]; omega))
theorem eqPolicy_ev (h : List (List Int)) (m : List Int) (hl : h.length ≤ 1048576) (hi : ∀ x ∈ h, x.length ≤ 1048576) (hm : m.length ≤ 1048576) : Ev (fun k => laws_eqPolicy.f k h m h m) true := by
  unfold laws_eqPolicy.f
  exact Ev.bind (eqInt64SS_ev h hl hi) (Ev.pos rfl (Ev.bind (eqInt64S_ev m hm) (Ev.pos rfl (Ev.some rfl))))
theorem szAccessS_f (l : List S60) (a : Int) (h0 : 0 ≤ a) (h1 : a ≤ 1048576) (hl : l.length ≤ 9223372036854775807) : laws_szAccessS.f l a = some (if a < l.length then -1 else a - l.length) := by
  unfold laws_szAccessS.f
  rw [wrap_id (by omega) (by omega)]
  by_cases h : a < l.length
  · rw [if_pos (by omega), if_pos h]
  · rw [if_neg (by omega), if_neg h]
def cvAccess (x : S60) : S58 := ⟨x.f0, x.f1⟩
theorem toAccessS_ev (l : List S60) (h : l.length ≤ 1048576) : Ev (fun k => laws_toAccessS.f k l) (l.map cvAccess) := by
  unfold laws_toAccessS.f
  refine Ev.pos (by omega) (Ev.pos (by omega) ?_)
  refine Ev.upto (F := fun k s i => laws_toAccessS.l0 k l s i) (n := l.length) (r := l.map cvAccess) (fun i s => s = (l.take i).map cvAccess ++ List.replicate (l.length - i) z58) ?_ ?_ 0 (Nat.zero_le _) _ (by simp)
  · intro i s hi hs ih
    have hsl : s.length = l.length := by rw [hs]; simp; omega
    refine Ev.succ ?_
    simp only [laws_toAccessS.l0]
    refine Ev.pos (by omega) (Ev.pos (by omega) (Ev.bindc (a := ((rd_T60 l (i : Int)).f0, (rd_T60 l (i : Int)).f1)) rfl (Ev.pos (by omega) ?_)))
    rw [wrap_succ hi (by omega)]
    refine ih _ ?_
    rw [hs, Int.toNat_natCast]
    exact fill_next cvAccess l z58 z60 i hi _ rfl
  · intro s hs
    refine Ev.succ ?_
    simp only [laws_toAccessS.l0]
    exact Ev.neg (by omega) (Ev.some (by rw [hs]; simp))
theorem eqAccessS_ev (l : List S58) (h : l.length ≤ 1048576) : Ev (fun k => laws_eqAccessS.f k l l) true := by
  unfold laws_eqAccessS.f
  refine Ev.pos rfl ?_
  refine Ev.upto (F := fun k (_ : Unit) i => laws_eqAccessS.l0 k l l i) (n := l.length) (r := true) (fun _ _ => True) ?_ ?_ 0 (Nat.zero_le _) () trivial
  · intro i s hi _ ih
    refine Ev.succ ?_
    simp only [laws_eqAccessS.l0]
    refine Ev.pos (by omega) (Ev.pos (by omega) (Ev.pos (by omega) (Ev.bindc (a := true) (by simp [laws_eqAccess.f]) (Ev.pos rfl ?_))))
    rw [wrap_succ hi (by omega)]
    exact ih () trivial
  · intro s _
    refine Ev.succ ?_
    simp only [laws_eqAccessS.l0]
    exact Ev.neg (by omega) (Ev.some rfl)
theorem eqCache_ev (h : List (List Int)) (m : List Int) (b1 b2 : Bool) (hp : polLen h m) : Ev (fun k => laws_eqCache.f k h m b1 b2 h m b1 b2) true := by
  unfold laws_eqCache.f
  exact Ev.bind (eqPolicy_ev h m hp.1 hp.2.1 hp.2.2) (Ev.pos rfl (Ev.neg (by simp) (Ev.neg (by simp) (Ev.some rfl))))
theorem rows_len {α : Type} {d : Kd α} {e : Nat} {w : World} {A : Option Addr} {n : Nat} {xs : List (List α)} (h : Kd.C (Kd.slice e d) w A n xs) (y : List α) (hy : y ∈ xs) : y.length ≤ 9223372036854775807 := by
  obtain ⟨i, hi, rfl⟩ := List.getElem_of_mem hy
  obtain ⟨ad, A', c', _, _, _, hC⟩ := at_row h i (by have := h.1; omega)
  have h2 := hC.2.1
  rw [getD_lt xs i [] hi] at h2
  exact h2
theorem markInt64S_ev (l : List Int) (a : Int) (h : l.length ≤ 1048576) (h0 : 0 ≤ a) (h1 : a ≤ 1000000000000) : Ev (fun k => laws_markInt64S.f k l a) (a + (l.length : Int), cnt a l.length) := by
  unfold laws_markInt64S.f
  refine Ev.upto (F := fun k (s : List Int × Int) i => laws_markInt64S.l0 k s.1 s.2 i) (n := l.length) (r := (a + (l.length : Int), cnt a l.length)) (fun i s => s = (cnt a i ++ l.drop i, a + (i : Int))) ?_ ?_ 0 (Nat.zero_le _) (l, a) (by simp [cnt])
  · intro i s hi hs ih
    have hsl : (cnt a i ++ l.drop i).length = l.length := by simp [cnt_length]; omega
    refine Ev.succ ?_
    simp only [laws_markInt64S.l0, hs]
    refine Ev.pos (by omega) (Ev.pos (by omega) ?_)
    rw [wrap_succ hi (by omega), wrap_id (x := a + (i : Int) + 1) (by omega) (by omega)]
    refine ih (_, _) ?_
    rw [Int.toNat_natCast, set_mark _ _ _ _ (cnt_length a i).symm hi, cnt_succ]
    simp only [Prod.mk.injEq, true_and]
    omega
  · intro s hs
    have hsl : (cnt a l.length ++ l.drop l.length).length = l.length := by simp [cnt_length]
    refine Ev.succ ?_
    simp only [laws_markInt64S.l0, hs]
    exact Ev.neg (by omega) (Ev.some (by simp))
theorem heldInt64S_ev (n : Nat) (a : Int) (h : n ≤ 1048576) (h0 : 0 ≤ a) (h1 : a ≤ 1000000000000) : Ev (fun k => laws_heldInt64S.f k (cnt a n) a) (a + (n : Int)) := by
  unfold laws_heldInt64S.f
  have hl := cnt_length a n
  refine Ev.upto (F := fun k (s : Int) i => laws_heldInt64S.l0 k (cnt a n) s i) (n := n) (r := a + (n : Int)) (fun i s => s = a + (i : Int)) ?_ ?_ 0 (Nat.zero_le _) a (by simp)
  · intro i s hi hs ih
    refine Ev.succ ?_
    simp only [laws_heldInt64S.l0, hs]
    have hr : rd (cnt a n) (i : Int) = a + (i : Int) := by unfold rd; rw [Int.toNat_natCast, cnt_getD _ _ _ hi]
    refine Ev.pos (by omega) (Ev.pos (by omega) (Ev.pos hr ?_))
    rw [wrap_succ hi (by omega), wrap_id (x := a + (i : Int) + 1) (by omega) (by omega)]
    exact ih _ (by omega)
  · intro s hs
    refine Ev.succ ?_
    simp only [laws_heldInt64S.l0, hs]
    exact Ev.neg (by omega) (Ev.some rfl)
theorem markAccessS_ev (l : List S58) (a : Int) (h : l.length ≤ 1048576) (h0 : 0 ≤ a) (h1 : a ≤ 1000000000000) : ∃ l' : List S58, Ev (fun k => laws_markAccessS.f k l a) (a + 2 * (l.length : Int), l') := by
  unfold laws_markAccessS.f
  have key : ∀ d i (y0 : List S58), l.length - i = d → i ≤ l.length → y0.length = l.length → ∃ l' : List S58, Ev (fun k => laws_markAccessS.l0 k y0 (a + 2 * (i : Int)) (i : Int)) (a + 2 * (l.length : Int), l') := by
    intro d
    induction d with
    | zero =>
      intro i s hd hi hs
      refine ⟨s, Ev.succ ?_⟩
      simp only [laws_markAccessS.l0]
      exact Ev.neg (by omega) (Ev.some (by rw [show i = l.length by omega]))
    | succ d ih =>
      intro i y0 hd hi hs
      let y1 := y0.set (i : Int).toNat (⟨a + 2 * (i : Int), (rd_T58 y0 (i : Int)).f1⟩ : S58)
      let y2 := y1.set (i : Int).toNat (⟨(rd_T58 y1 (i : Int)).f0, a + 2 * (i : Int) + 1⟩ : S58)
      obtain ⟨l', hl'⟩ := ih (i + 1) y2 (by omega) (by omega) (by simp only [y1, y2, List.length_set]; exact hs)
      refine ⟨l', Ev.succ ?_⟩
      simp only [laws_markAccessS.l0, Option.bind_some]
      refine Ev.pos (by omega) (Ev.pos (by omega) ?_)
      rw [wrap_succ (show i < l.length by omega) (by omega), wrap_id (x := a + 2 * (i : Int) + 1) (by omega) (by omega), wrap_id (x := a + 2 * (i : Int) + 1 + 1) (by omega) (by omega)]
      rw [show a + 2 * (i : Int) + 1 + 1 = a + 2 * ((i + 1 : Nat) : Int) by omega]
      exact hl'
  obtain ⟨l', hl'⟩ := key l.length 0 l (by omega) (by omega) rfl
  refine ⟨l', ?_⟩
  simpa using hl'
/-- A thing of which nothing is told. -/
def noThing : Thing where
  P _ _ _ := True
  move _ _ := trivial
theorem st_toInt64S_ {w0 W : World} {L : List (Thing × Nat × Nat)} {A : Option Addr} {c : Nat} {l : List Int} {r : List Int} (h : Hold w0 W L) (hr : Kd.C (Kd.int .i64) w0 A l.length l) (hc : l.length ≤ c) (he : Ev (fun k => laws_toInt64S.f k l) r) :
    Calls Tryz.prog 48 #[.slice A l.length c] W fun e w' => ∃ B cb lo hi, e = .returned (.slice B r.length cb) ∧ Hold w0 w' ((flat (Kd.int .i64) 2 (.slice B r.length cb) r, lo, hi) :: L) := by
  obtain ⟨k, hk⟩ := he
  refine (laws_toInt64S.calls k A c l r W (Kd.C_below hr h.below) hc (hk k (Nat.le_refl _))).mono ?_
  rintro e w' ⟨v, rfl, hr', hb⟩
  obtain ⟨B, cb, rfl⟩ := Kd.R_slice hr'
  exact ⟨B, cb, _, _, rfl, h.add hb (flat_new hr')⟩
theorem st_eqInt64S_ {w0 W : World} {L : List (Thing × Nat × Nat)} {v1 v2 : Value} {l : List Int} {lo1 hi1 lo2 hi2 : Nat} {b : Bool} (h : Hold w0 W L) (h1 : (flat (Kd.int .i64) 2 v1 l, lo1, hi1) ∈ L) (h2 : (flat (Kd.int .i64) 2 v2 l, lo2, hi2) ∈ L) (he : Ev (fun k => laws_eqInt64S.f k l l) b) :
    Calls Tryz.prog 12 #[v1, v2] W fun e w' => e = .returned (.bool b) ∧ Hold w0 w' L := by
  obtain ⟨A1, c1, rfl, hc1, hC1⟩ := flat_reads (h.get h1).1
  obtain ⟨A2, c2, rfl, hc2, hC2⟩ := flat_reads (h.get h2).1
  obtain ⟨k, hk⟩ := he
  refine (laws_eqInt64S.calls k A1 c1 l A2 c2 l b W hC1 hc1 hC2 hc2 (hk k (Nat.le_refl _))).mono ?_
  rintro e w' ⟨rfl, hb⟩
  exact ⟨rfl, by first | exact h.step hb | exact h.step hb.below⟩
theorem st_markInt64S_ {w0 W : World} {L L' : List (Thing × Nat × Nat)} {v : Value} {l l' : List Int} {a r : Int} {lo hi : Nat} (h : Hold w0 W L) (u : Upd (flat (Kd.int .i64) 2 v l) (flat (Kd.int .i64) 2 v l') lo hi L L') (he : Ev (fun k => laws_markInt64S.f k l a) (r, l')) :
    Calls Tryz.prog 17 #[v, .int .i64 a] W fun e w' => e = .returned (.int .i64 r) ∧ Hold w0 w' L' := by
  obtain ⟨hp, hlo, _, _⟩ := h.get u.mem
  obtain ⟨k, hk⟩ := he
  refine (laws_markInt64S.calls k (fun k_ => some k_ = v.ownBlock) v l a r l' w0 W h.below (Kd.R_lower (Kd.R_tight rfl hp) hlo) (hk k (Nat.le_refl _))).mono ?_
  rintro e w' ⟨rfl, hr', hb, hk'⟩
  exact ⟨rfl, h.upd u hb (hk'.mono (fun k e => hp.1 k e.symm)) (flat_marked (b := w0.heap.size) rfl (fun _ _ _ _ h => h) hp hr')⟩
theorem st_heldInt64S_ {w0 W : World} {L : List (Thing × Nat × Nat)} {v1 : Value} {l : List Int} {a r : Int} {lo hi : Nat} (h : Hold w0 W L) (h1 : (flat (Kd.int .i64) 2 v1 l, lo, hi) ∈ L) (he : Ev (fun k => laws_heldInt64S.f k l a) r) :
    Calls Tryz.prog 18 #[v1, .int .i64 a] W fun e w' => e = .returned (.int .i64 r) ∧ Hold w0 w' L := by
  obtain ⟨A1, c1, rfl, hc1, hC1⟩ := flat_reads (h.get h1).1
  obtain ⟨k, hk⟩ := he
  refine (laws_heldInt64S.calls k A1 c1 l a r W hC1 hc1 (hk k (Nat.le_refl _))).mono ?_
  rintro e w' ⟨rfl, hb⟩
  exact ⟨rfl, by first | exact h.step hb | exact h.step hb.below⟩
theorem st_toInt64SS_ {w0 W : World} {L : List (Thing × Nat × Nat)} {A : Option Addr} {c : Nat} {l : List (List Int)} {r : List (List Int)} (h : Hold w0 W L) (hr : Kd.C (Kd.slice 2 (Kd.int .i64)) w0 A l.length l) (hc : l.length ≤ c) (he : Ev (fun k => laws_toInt64SS.f k l) r) :
    Calls Tryz.prog 47 #[.slice A l.length c] W fun e w' => ∃ B cb lo hi, e = .returned (.slice B r.length cb) ∧ Hold w0 w' ((nest (Kd.slice 2 (Kd.int .i64)) 23 (.slice B r.length cb) r, lo, hi) :: L) := by
  obtain ⟨k, hk⟩ := he
  refine (laws_toInt64SS.calls k A c l r W (Kd.C_below hr h.below) hc (hk k (Nat.le_refl _))).mono ?_
  rintro e w' ⟨v, rfl, hr', hb⟩
  obtain ⟨B, cb, rfl⟩ := Kd.S_slice hr'
  exact ⟨B, cb, _, _, rfl, h.add hb (nest_new hr')⟩
theorem sumLen_take_le_ {α : Type} (l : List (List α)) (i : Nat) : sumLen (l.take i) ≤ sumLen l := by
  have h : sumLen l = sumLen (l.take i) + sumLen (l.drop i) := by unfold sumLen; rw [← List.sum_append, ← List.map_append, List.take_append_drop]
  omega
set_option maxHeartbeats 1600000 in
/-- Marks in a list of lists: what the lists are then is not told; what lies elsewhere is kept. -/
theorem markInt64SS_calls_ (v : Value) (l0 : List (List Int)) (a : Int) (lo hi : Nat) (w0 w : World) (hB : Below w0.heap.size w0 w) (hlo : w0.heap.size ≤ lo) (h0 : (nest (Kd.slice 2 (Kd.int .i64)) 23 v l0).P w lo hi)
    (hl : l0.length ≤ 1048576) (hr : ∀ x ∈ l0, x.length ≤ 1048576) (hs : sumLen l0 ≤ 2000000) (ha : 0 ≤ a) (ha1 : a ≤ 10000000) :
    Calls Tryz.prog 54 #[v, .int .i64 a] w fun e w' => e = .returned (.int .i64 (a + (sumLen l0 : Int))) ∧ Below w0.heap.size w0 w' ∧ Kept w w' (In lo hi) := by
  obtain ⟨A0, c0, rfl, hc0, _⟩ := nest_reads h0
  have HS0 := Aside0.mk h0
  have HB0 := Aside0.mk hB
  clear h0 hB
  go_enter Tryz.func54, Tryz.ntmps54
  go_wp2
  go_loopg [1, 5] l0.length (fun gg s1 s5 wr => ∃ kk : Nat, kk ≤ l0.length ∧ l0.length - kk ≤ gg ∧ s1 = .int .i64 (a + (sumLen (l0.take kk) : Int)) ∧ s5 = .int .i64 kk ∧ Aside0 (Below w0.heap.size w0 wr) ∧ Aside0 (Kept w wr (In lo hi)) ∧ ∃ m : List (List Int), Aside0 (m.length = l0.length) ∧ Aside0 (∀ i, kk ≤ i → m.getD i [] = l0.getD i []) ∧ Aside0 ((nest (Kd.slice 2 (Kd.int .i64)) 23 (.slice A0 l0.length c0) m).P wr lo hi))
  case atStart => exact ⟨0, Nat.zero_le _, by omega, by simp [sumLen], rfl, HB0, ⟨Kept.refl _ _⟩, l0, ⟨rfl⟩, ⟨fun _ _ => rfl⟩, HS0⟩
  case round =>
    obtain ⟨kk, hkk, hg, rfl, rfl, BW, KW, m, ML, MR, SW⟩ := hrel
    by_cases hlt : kk < l0.length
    · have hltz : (kk : Int) < (l0.length : Int) := by omega
      have hmlt : kk < m.length := by have := ML.out; omega
      obtain ⟨A1, c1, e1, hc1, hC⟩ := nest_reads SW.out
      have hlen := ML.out
      rw [hlen] at e1 hC
      injection e1 with e1 _ e2
      subst e1 e2
      clear hlen
      obtain ⟨ad, A1, c1, e, hx0, hle, hC1⟩ := at_row hC kk hlt
      subst e
      obtain ⟨g, rfl⟩ := Kd.R_head (Kd.S_R SW.out)
      obtain ⟨oki, c, hcl, hM, hcc, hoki, hH⟩ := Kd.S_lend SW.out [] (kk : Int) (by omega) (by have := ML.out; omega)
      obtain ⟨vi, rfl, hRi⟩ := hM
      rw [Int.toNat_natCast] at hRi hcc
      have hcell := hcc 0 vi rfl
      have hvi : vi = .slice A1 (m.getD kk []).length c1 := by
        have hx1 := hx0
        rw [add_plain] at hx1
        simp only [Kd.slice, Nat.mul_one, Nat.add_zero] at hcell
        rw [hcell] at hx1
        exact Option.some.inj hx1
      subst hvi
      have hrow : m.getD kk [] = l0.getD kk [] := MR.out kk (Nat.le_refl _)
      rw [hrow] at hRi hx0
      rw [add_plain] at hx0
      obtain ⟨y, hy⟩ : ∃ y, y = l0.getD kk [] := ⟨_, rfl⟩
      rw [← hy] at hRi hx0
      have hyl : y.length ≤ 1048576 := by rw [hy]; exact hr _ (getD_mem l0 kk [] hlt)
      have htk : l0.take (kk + 1) = l0.take kk ++ [y] := by rw [take_succ l0 kk [] hlt, hy]
      have hsm : sumLen (l0.take (kk + 1)) = sumLen (l0.take kk) + y.length := by rw [htk]; simp [sumLen]
      have hsb := sumLen_take_le_ l0 (kk + 1)
      obtain ⟨y', q, hq⟩ : ∃ y' q, ∀ k, q ≤ k → laws_markInt64S.f k y (a + (sumLen (l0.take kk) : Int)) = some ((a + (sumLen (l0.take kk) : Int)) + (y.length : Int), y') := by obtain ⟨q, hq⟩ := markInt64S_ev y (a + (sumLen (l0.take kk) : Int)) hyl (by omega) (by omega); exact ⟨_, q, hq⟩
      have HM := Aside0.mk (hq q (Nat.le_refl _))
      have HR := Aside0.mk hRi
      have HH := Aside0.mk hH
      have HY := Aside0.mk hy
      have HRO := Aside0.mk hrow
      have HO := Aside0.mk hoki
      have HML := Aside0.mk hmlt
      clear hq hRi hH hy hoki hC1 hle hC hrow hmlt
      go_wp2_with (go_at_call 17; refine (laws_markInt64S.calls q oki (.slice A1 y.length c1) y _ _ _ w0 _ BW.out (Kd.R_lower HR.out hlo) HM.out).mono ?_; rintro e w' ⟨rfl, hr', hb', hk'⟩)
      go_roundg (l0.length - (kk + 1))
      case measure => omega
      case rel =>
        refine ⟨kk + 1, by omega, by omega, by rw [hsm]; go_num, by go_num, ⟨hb'⟩, ⟨KW.out.then_ hk' (fun k hk => .inl (HO.out k hk).1)⟩, m.set kk y', ⟨by rw [List.length_set]; exact ML.out⟩, ⟨fun i hi => ?_⟩, ⟨?_⟩⟩
        · rw [← MR.out i (by omega), List.getD_eq_getElem?_getD, List.getD_eq_getElem?_getD, List.getElem?_set_ne (by omega)]
        · have hM' : (Kd.slice 2 (Kd.int .i64)).M w' lo oki y' [.slice A1 (m.getD kk []).length c1] := by
            refine ⟨_, rfl, ?_⟩
            rw [HRO.out, ← HY.out]
            exact Kd.R_reok rfl (Kd.R_raise (d := (Kd.int .i64)) (b := w0.heap.size) (b' := lo) (fun _ _ _ _ h => h) hr' (fun k hk => ((HO.out k (HR.out.1 k hk)).1).1)) (fun k hk => HR.out.1 k hk)
          have := Kd.H_back (Kd.H_kept HH.out hk' (fun k _ hn hs => hn hs)) hM' (fun k hk => hk)
          rw [Int.toNat_natCast] at this
          exact this
    · have hltz : ¬ (kk : Int) < (l0.length : Int) := by omega
      obtain rfl : kk = l0.length := by omega
      go_wp2
      go_ret
      exact ⟨by simp, BW.out, KW.out⟩
theorem st_markInt64SS_ {w0 W : World} {L L' : List (Thing × Nat × Nat)} {v : Value} {l : List (List Int)} {a : Int} {lo hi : Nat} {T' : Thing} (h : Hold w0 W L) (u : Upd (nest (Kd.slice 2 (Kd.int .i64)) 23 v l) T' lo hi L L') (ht : ∀ (w : World) lo hi, T'.P w lo hi)
    (hl : l.length ≤ 1048576) (hr : ∀ x ∈ l, x.length ≤ 1048576) (hs : sumLen l ≤ 2000000) (ha : 0 ≤ a) (ha1 : a ≤ 10000000) :
    Calls Tryz.prog 54 #[v, .int .i64 a] W fun e w' => e = .returned (.int .i64 (a + (sumLen l : Int))) ∧ Hold w0 w' L' := by
  obtain ⟨hp, hlo, _, _⟩ := h.get u.mem
  refine (markInt64SS_calls_ v l a lo hi w0 W h.below hlo hp hl hr hs ha ha1).mono ?_
  rintro e w' ⟨rfl, hb, hk'⟩
  exact ⟨rfl, h.upd u hb hk' (ht _ _ _)⟩
set_option maxHeartbeats 3200000 in
set_option maxRecDepth 100000 in
theorem st_toPolicy {w0 W : World} {L : List (Thing × Nat × Nat)} {A0 : Option Addr} {c0 : Nat} {l0 : List (List Int)} {A1 : Option Addr} {c1 : Nat} {l1 : List Int} {r0 : List (List Int)} {r1 : List Int} (h : Hold w0 W L) (hr0 : Kd.C (Kd.slice 2 (Kd.int .i64)) w0 A0 l0.length l0) (hc0 : l0.length ≤ c0) (hr1 : Kd.C (Kd.int .i64) w0 A1 l1.length l1) (hc1 : l1.length ≤ c1) (he0 : Ev (fun k => laws_toInt64SS.f k l0) r0) (he1 : Ev (fun k => laws_toInt64S.f k l1) r1) :
    Calls Tryz.prog 26 #[.agg #[.slice A0 l0.length c0, .slice A1 l1.length c1]] W fun e w' => ∃ B0 b0 B1 b1, e = .returned (.agg #[.slice B0 r0.length b0, .slice B1 r1.length b1]) ∧ ∃ lo0 hi0 lo1 hi1, Hold w0 w' ((flat (Kd.int .i64) 2 (.slice B1 r1.length b1) r1, lo1, hi1) :: (nest (Kd.slice 2 (Kd.int .i64)) 23 (.slice B0 r0.length b0) r0, lo0, hi0) :: L) := by
  have HR0 := Aside0.mk hr0
  have HC0 := Aside0.mk hc0
  have HE0 := Aside0.mk he0
  have HR1 := Aside0.mk hr1
  have HC1 := Aside0.mk hc1
  have HE1 := Aside0.mk he1
  have HS := h
  clear hr0 hc0 he0 hr1 hc1 he1 h
  go_enter Tryz.func26, Tryz.ntmps26
  go_wp2_with fail
  refine (st_toInt64SS_ (w0 := w0) (Hold.box (Hold.box (Hold.box HS _ _) _ _) _ _) HR0.out HC0.out HE0.out).mono ?_
  rintro e w1 ⟨B0, b0, lo0, hi0, rfl, HS⟩
  simp only [World.size_alloc] at HS
  have q1 : w1.cell? ⟨W.heap.size, 1, none⟩ = some (.slice A1 l1.length c1) := HS.cell (cs := #[.slice A0 l0.length c0, .slice A1 l1.length c1]) (t := 25) (by repeat (first | with_reducible exact List.mem_cons_self | refine List.mem_cons_of_mem _ ?_)) 1 _ rfl
  have u0 : w1.cell? ⟨W.heap.size + 1 + 1, 0, none⟩ = some (.slice none 0 0) := HS.cell (cs := #[.slice none 0 0, .slice none 0 0]) (t := 33) (by repeat (first | with_reducible exact List.mem_cons_self | refine List.mem_cons_of_mem _ ?_)) 0 _ rfl
  have fzu : ∀ j, w1.frozen? ⟨W.heap.size + 1 + 1, j, none⟩ = false := HS.thaw (cs := #[.slice none 0 0, .slice none 0 0]) (t := 33) (by repeat (first | with_reducible exact List.mem_cons_self | refine List.mem_cons_of_mem _ ?_))
  go_wp2_with fail
  refine (st_toInt64S_ (w0 := w0) (Hold.setBoxU (by with_reducible exact HS) 0 _ (by repeat (first | with_reducible exact Upd.here | apply Upd.there))) HR1.out HC1.out HE1.out).mono ?_
  rintro e w2 ⟨B1, b1, lo1, hi1, rfl, HS⟩
  simp only [List.setIfInBounds_toArray, List.set_cons_zero, List.set_cons_succ] at HS
  clear q1 u0 fzu
  have u0 : w2.cell? ⟨W.heap.size + 1 + 1, 0, none⟩ = some (.slice B0 r0.length b0) := HS.cell (cs := #[.slice B0 r0.length b0, .slice none 0 0]) (t := 33) (by repeat (first | with_reducible exact List.mem_cons_self | refine List.mem_cons_of_mem _ ?_)) 0 _ rfl
  have u1 : w2.cell? ⟨W.heap.size + 1 + 1, 1, none⟩ = some (.slice none 0 0) := HS.cell (cs := #[.slice B0 r0.length b0, .slice none 0 0]) (t := 33) (by repeat (first | with_reducible exact List.mem_cons_self | refine List.mem_cons_of_mem _ ?_)) 1 _ rfl
  have fzu : ∀ j, w2.frozen? ⟨W.heap.size + 1 + 1, j, none⟩ = false := HS.thaw (cs := #[.slice B0 r0.length b0, .slice none 0 0]) (t := 33) (by repeat (first | with_reducible exact List.mem_cons_self | refine List.mem_cons_of_mem _ ?_))
  have z0 : w2.cell? ⟨W.heap.size + 1, 0, none⟩ = some (.slice none 0 0) := HS.cell (cs := #[.slice none 0 0, .slice none 0 0]) (t := 33) (by repeat (first | with_reducible exact List.mem_cons_self | refine List.mem_cons_of_mem _ ?_)) 0 _ rfl
  have z1 : w2.cell? ⟨W.heap.size + 1, 1, none⟩ = some (.slice none 0 0) := HS.cell (cs := #[.slice none 0 0, .slice none 0 0]) (t := 33) (by repeat (first | with_reducible exact List.mem_cons_self | refine List.mem_cons_of_mem _ ?_)) 1 _ rfl
  have fzz : ∀ j, w2.frozen? ⟨W.heap.size + 1, j, none⟩ = false := HS.thaw (cs := #[.slice none 0 0, .slice none 0 0]) (t := 33) (by repeat (first | with_reducible exact List.mem_cons_self | refine List.mem_cons_of_mem _ ?_))
  go_wp2_with fail
  refine bodyPost_ret (results_cell_row rfl _ _ (W.heap.size + 1) 33 _ (0, 0) _ rfl (Hold.blk (w0 := w0) (Hold.setBoxU (Hold.setBoxU (Hold.setBoxU (by with_reducible exact HS) 1 _ (by repeat (first | with_reducible exact Upd.here | apply Upd.there))) 0 _ (by repeat (first | with_reducible exact Upd.here | apply Upd.there))) 1 _ (by repeat (first | with_reducible exact Upd.here | apply Upd.there))) (by repeat (first | with_reducible exact List.mem_cons_self | refine List.mem_cons_of_mem _ ?_))) Tryz.underlying33 rfl (by kernel_rfl)) rfl ?_
  exact ⟨B0, b0, B1, b1, rfl, _, _, _, _, Hold.sub (w0 := w0) (Hold.setBoxU (Hold.setBoxU (Hold.setBoxU (by with_reducible exact HS) 1 _ (by repeat (first | with_reducible exact Upd.here | apply Upd.there))) 0 _ (by repeat (first | with_reducible exact Upd.here | apply Upd.there))) 1 _ (by repeat (first | with_reducible exact Upd.here | apply Upd.there))) (List.Sublist.cons_cons _ (List.Sublist.cons_cons _ (List.Sublist.cons _ (List.Sublist.cons _ (List.Sublist.cons _ (List.Sublist.refl _))))))⟩
set_option maxHeartbeats 1600000 in
set_option maxRecDepth 100000 in
theorem st_markPolicy {w0 W : World} {L0 : List (Thing × Nat × Nat)} {L1 : List (Thing × Nat × Nat)} {L2 : List (Thing × Nat × Nat)} {r0 : List (List Int)} {A0 : Option Addr} {n0 c0 lo0 hi0 : Nat} {r1 : List Int} {A1 : Option Addr} {n1 c1 lo1 hi1 : Nat} {s1 : List Int} {a a1 a2 : Int} (h : Hold w0 W L0)
    (u0 : Upd (nest (Kd.slice 2 (Kd.int .i64)) 23 (.slice A0 n0 c0) r0) noThing lo0 hi0 L0 L1) (p0 : r0.length ≤ 1048576) (j0 : ∀ x ∈ r0, x.length ≤ 1048576) (i0 : sumLen r0 ≤ 2000000) (b0 : 0 ≤ a) (v0 : a ≤ 10000000) (e0 : a + (sumLen r0 : Int) = a1)
    (u1 : Upd (flat (Kd.int .i64) 2 (.slice A1 n1 c1) r1) (flat (Kd.int .i64) 2 (.slice A1 n1 c1) s1) lo1 hi1 L1 L2) (e1 : Ev (fun k => laws_markInt64S.f k r1 a1) (a2, s1)) :
    Calls Tryz.prog 32 #[.agg #[.slice A0 n0 c0, .slice A1 n1 c1], .int .i64 a] W fun e w' => e = .returned (.int .i64 a2) ∧ Hold w0 w' L2 := by
  have Xu0 := Aside0.mk u0
  have Xp0 := Aside0.mk p0
  have Xj0 := Aside0.mk j0
  have Xi0 := Aside0.mk i0
  have Xb0 := Aside0.mk b0
  have Xv0 := Aside0.mk v0
  have Xe0 := Aside0.mk e0
  have Xu1 := Aside0.mk u1
  have Xe1 := Aside0.mk e1
  have HS := h
  clear u0 p0 j0 i0 b0 v0 e0 u1 e1 h
  go_enter Tryz.func32, Tryz.ntmps32
  go_wp2_with fail
  refine (st_markInt64SS_ (w0 := w0) (Hold.box HS _ _) (Upd.there Xu0.out) (fun _ _ _ => trivial) Xp0.out Xj0.out Xi0.out Xb0.out Xv0.out).mono ?_
  rw [Xe0.out]
  rintro e w1 ⟨rfl, HS⟩
  have q1 : w1.cell? ⟨W.heap.size, 1, none⟩ = some (.slice A1 n1 c1) := HS.cell (cs := #[.slice A0 n0 c0, .slice A1 n1 c1]) (t := 33) (by repeat (first | with_reducible exact List.mem_cons_self | refine List.mem_cons_of_mem _ ?_)) 1 _ rfl
  go_wp2_with fail
  refine (st_markInt64S_ (w0 := w0) (by with_reducible exact HS) (Upd.there Xu1.out) Xe1.out).mono ?_
  rintro e w2 ⟨rfl, HS⟩
  clear q1
  go_wp2_with fail
  go_ret
  exact ⟨rfl, Hold.sub HS (List.Sublist.cons _ (List.Sublist.refl _))⟩
theorem st_toAccessS_ {w0 W : World} {L : List (Thing × Nat × Nat)} {A : Option Addr} {c : Nat} {l : List S60} {r : List S58} (h : Hold w0 W L) (hr : Kd.C k60 w0 A l.length l) (hc : l.length ≤ c) (he : Ev (fun k => laws_toAccessS.f k l) r) :
    Calls Tryz.prog 10 #[.slice A l.length c] W fun e w' => ∃ B cb lo hi, e = .returned (.slice B r.length cb) ∧ Hold w0 w' ((flat k58 58 (.slice B r.length cb) r, lo, hi) :: L) := by
  obtain ⟨k, hk⟩ := he
  refine (laws_toAccessS.calls k A c l r W (Kd.C_below hr h.below) hc (hk k (Nat.le_refl _))).mono ?_
  rintro e w' ⟨v, rfl, hr', hb⟩
  obtain ⟨B, cb, rfl⟩ := Kd.R_slice hr'
  exact ⟨B, cb, _, _, rfl, h.add hb (flat_new hr')⟩
theorem st_eqAccessS_ {w0 W : World} {L : List (Thing × Nat × Nat)} {v1 v2 : Value} {l : List S58} {lo1 hi1 lo2 hi2 : Nat} {b : Bool} (h : Hold w0 W L) (h1 : (flat k58 58 v1 l, lo1, hi1) ∈ L) (h2 : (flat k58 58 v2 l, lo2, hi2) ∈ L) (he : Ev (fun k => laws_eqAccessS.f k l l) b) :
    Calls Tryz.prog 14 #[v1, v2] W fun e w' => e = .returned (.bool b) ∧ Hold w0 w' L := by
  obtain ⟨A1, c1, rfl, hc1, hC1⟩ := flat_reads (h.get h1).1
  obtain ⟨A2, c2, rfl, hc2, hC2⟩ := flat_reads (h.get h2).1
  obtain ⟨k, hk⟩ := he
  refine (laws_eqAccessS.calls k A1 c1 l A2 c2 l b W hC1 hc1 hC2 hc2 (hk k (Nat.le_refl _))).mono ?_
  rintro e w' ⟨rfl, hb⟩
  exact ⟨rfl, by first | exact h.step hb | exact h.step hb.below⟩
theorem st_markAccessS_ {w0 W : World} {L L' : List (Thing × Nat × Nat)} {v : Value} {l l' : List S58} {a r : Int} {lo hi : Nat} (h : Hold w0 W L) (u : Upd (flat k58 58 v l) (flat k58 58 v l') lo hi L L') (he : Ev (fun k => laws_markAccessS.f k l a) (r, l')) :
    Calls Tryz.prog 16 #[v, .int .i64 a] W fun e w' => e = .returned (.int .i64 r) ∧ Hold w0 w' L' := by
  obtain ⟨hp, hlo, _, _⟩ := h.get u.mem
  obtain ⟨k, hk⟩ := he
  refine (laws_markAccessS.calls k (fun k_ => some k_ = v.ownBlock) v l a r l' w0 W h.below (Kd.R_lower (Kd.R_tight rfl hp) hlo) (hk k (Nat.le_refl _))).mono ?_
  rintro e w' ⟨rfl, hr', hb, hk'⟩
  exact ⟨rfl, h.upd u hb (hk'.mono (fun k e => hp.1 k e.symm)) (flat_marked (b := w0.heap.size) rfl (fun _ _ _ _ h => h) hp hr')⟩
theorem st_szCache {w0 W : World} {L : List (Thing × Nat × Nat)} {A0 : Option Addr} {c0 : Nat} {l0 : List (List Int)} {A1 : Option Addr} {c1 : Nat} {l1 : List Int} {x2 : Bool} {x3 : Bool} {a r : Int} (h : Hold w0 W L) (hr0 : Kd.C (Kd.slice 2 (Kd.int .i64)) w0 A0 l0.length l0) (hc0 : l0.length ≤ c0) (hr1 : Kd.C (Kd.int .i64) w0 A1 l1.length l1) (hc1 : l1.length ≤ c1) (he : Ev (fun k => laws_szCache.f k l0 l1 x2 x3 a) r) :
    Calls Tryz.prog 6 #[.agg #[.slice A0 l0.length c0, .slice A1 l1.length c1, .bool x2, .bool x3], .int .i64 a] W fun e w' => e = .returned (.int .i64 r) ∧ Hold w0 w' L := by
  obtain ⟨k, hk⟩ := he
  refine (laws_szCache.calls k A0 c0 l0 A1 c1 l1 x2 x3 a r W (Kd.C_below hr0 h.below) hc0 (Kd.C_below hr1 h.below) hc1 (hk k (Nat.le_refl _))).mono ?_
  rintro e w' ⟨rfl, hb⟩
  exact ⟨rfl, h.step (by first | exact hb | exact hb.below)⟩
set_option maxHeartbeats 3200000 in
set_option maxRecDepth 100000 in
theorem st_toCache {w0 W : World} {L : List (Thing × Nat × Nat)} {A0 : Option Addr} {c0 : Nat} {l0 : List (List Int)} {A1 : Option Addr} {c1 : Nat} {l1 : List Int} {x2 : Bool} {x3 : Bool} {r0 : List (List Int)} {r1 : List Int} (h : Hold w0 W L) (hr0 : Kd.C (Kd.slice 2 (Kd.int .i64)) w0 A0 l0.length l0) (hc0 : l0.length ≤ c0) (hr1 : Kd.C (Kd.int .i64) w0 A1 l1.length l1) (hc1 : l1.length ≤ c1) (he0 : Ev (fun k => laws_toInt64SS.f k l0) r0) (he1 : Ev (fun k => laws_toInt64S.f k l1) r1) :
    Calls Tryz.prog 9 #[.agg #[.slice A0 l0.length c0, .slice A1 l1.length c1, .bool x2, .bool x3]] W fun e w' => ∃ B0 b0 B1 b1, e = .returned (.agg #[.slice B0 r0.length b0, .slice B1 r1.length b1, .bool x2, .bool x3]) ∧ ∃ lo0 hi0 lo1 hi1, Hold w0 w' ((flat (Kd.int .i64) 2 (.slice B1 r1.length b1) r1, lo1, hi1) :: (nest (Kd.slice 2 (Kd.int .i64)) 23 (.slice B0 r0.length b0) r0, lo0, hi0) :: L) := by
  have HR0 := Aside0.mk hr0
  have HC0 := Aside0.mk hc0
  have HE0 := Aside0.mk he0
  have HR1 := Aside0.mk hr1
  have HC1 := Aside0.mk hc1
  have HE1 := Aside0.mk he1
  have HS := h
  clear hr0 hc0 he0 hr1 hc1 he1 h
  go_enter Tryz.func9, Tryz.ntmps9
  go_wp2_with fail
  refine (st_toPolicy (w0 := w0) (Hold.box (Hold.box (Hold.box HS _ _) _ _) _ _) HR0.out HC0.out HR1.out HC1.out HE0.out HE1.out).mono ?_
  rintro e w1 ⟨B0, b0, B1, b1, rfl, lo0, hi0, lo1, hi1, HS⟩
  simp only [World.size_alloc] at HS
  have q2 : w1.cell? ⟨W.heap.size, 2, none⟩ = some (.bool x2) := HS.cell (cs := #[.slice A0 l0.length c0, .slice A1 l1.length c1, .bool x2, .bool x3]) (t := 27) (by repeat (first | with_reducible exact List.mem_cons_self | refine List.mem_cons_of_mem _ ?_)) 2 _ rfl
  have q3 : w1.cell? ⟨W.heap.size, 3, none⟩ = some (.bool x3) := HS.cell (cs := #[.slice A0 l0.length c0, .slice A1 l1.length c1, .bool x2, .bool x3]) (t := 27) (by repeat (first | with_reducible exact List.mem_cons_self | refine List.mem_cons_of_mem _ ?_)) 3 _ rfl
  have u0 : w1.cell? ⟨W.heap.size + 1 + 1, 0, none⟩ = some (.slice none 0 0) := HS.cell (cs := #[.slice none 0 0, .slice none 0 0, .bool false, .bool false]) (t := 35) (by repeat (first | with_reducible exact List.mem_cons_self | refine List.mem_cons_of_mem _ ?_)) 0 _ rfl
  have u1 : w1.cell? ⟨W.heap.size + 1 + 1, 1, none⟩ = some (.slice none 0 0) := HS.cell (cs := #[.slice none 0 0, .slice none 0 0, .bool false, .bool false]) (t := 35) (by repeat (first | with_reducible exact List.mem_cons_self | refine List.mem_cons_of_mem _ ?_)) 1 _ rfl
  have u2 : w1.cell? ⟨W.heap.size + 1 + 1, 2, none⟩ = some (.bool false) := HS.cell (cs := #[.slice none 0 0, .slice none 0 0, .bool false, .bool false]) (t := 35) (by repeat (first | with_reducible exact List.mem_cons_self | refine List.mem_cons_of_mem _ ?_)) 2 _ rfl
  have u3 : w1.cell? ⟨W.heap.size + 1 + 1, 3, none⟩ = some (.bool false) := HS.cell (cs := #[.slice none 0 0, .slice none 0 0, .bool false, .bool false]) (t := 35) (by repeat (first | with_reducible exact List.mem_cons_self | refine List.mem_cons_of_mem _ ?_)) 3 _ rfl
  have fzu : ∀ j, w1.frozen? ⟨W.heap.size + 1 + 1, j, none⟩ = false := HS.thaw (cs := #[.slice none 0 0, .slice none 0 0, .bool false, .bool false]) (t := 35) (by repeat (first | with_reducible exact List.mem_cons_self | refine List.mem_cons_of_mem _ ?_))
  have z0 : w1.cell? ⟨W.heap.size + 1, 0, none⟩ = some (.slice none 0 0) := HS.cell (cs := #[.slice none 0 0, .slice none 0 0, .bool false, .bool false]) (t := 35) (by repeat (first | with_reducible exact List.mem_cons_self | refine List.mem_cons_of_mem _ ?_)) 0 _ rfl
  have z1 : w1.cell? ⟨W.heap.size + 1, 1, none⟩ = some (.slice none 0 0) := HS.cell (cs := #[.slice none 0 0, .slice none 0 0, .bool false, .bool false]) (t := 35) (by repeat (first | with_reducible exact List.mem_cons_self | refine List.mem_cons_of_mem _ ?_)) 1 _ rfl
  have z2 : w1.cell? ⟨W.heap.size + 1, 2, none⟩ = some (.bool false) := HS.cell (cs := #[.slice none 0 0, .slice none 0 0, .bool false, .bool false]) (t := 35) (by repeat (first | with_reducible exact List.mem_cons_self | refine List.mem_cons_of_mem _ ?_)) 2 _ rfl
  have z3 : w1.cell? ⟨W.heap.size + 1, 3, none⟩ = some (.bool false) := HS.cell (cs := #[.slice none 0 0, .slice none 0 0, .bool false, .bool false]) (t := 35) (by repeat (first | with_reducible exact List.mem_cons_self | refine List.mem_cons_of_mem _ ?_)) 3 _ rfl
  have fzz : ∀ j, w1.frozen? ⟨W.heap.size + 1, j, none⟩ = false := HS.thaw (cs := #[.slice none 0 0, .slice none 0 0, .bool false, .bool false]) (t := 35) (by repeat (first | with_reducible exact List.mem_cons_self | refine List.mem_cons_of_mem _ ?_))
  go_wp2_with fail
  refine bodyPost_ret (results_cell_row rfl _ _ (W.heap.size + 1) 35 _ (0, 0) _ rfl (Hold.blk (w0 := w0) (Hold.setBoxU (Hold.setBoxU (Hold.setBoxU (Hold.setBoxU (Hold.setBoxU (Hold.setBoxU (Hold.setBoxU (Hold.setBoxU (by with_reducible exact HS) 0 _ (by repeat (first | with_reducible exact Upd.here | apply Upd.there))) 1 _ (by repeat (first | with_reducible exact Upd.here | apply Upd.there))) 2 _ (by repeat (first | with_reducible exact Upd.here | apply Upd.there))) 3 _ (by repeat (first | with_reducible exact Upd.here | apply Upd.there))) 0 _ (by repeat (first | with_reducible exact Upd.here | apply Upd.there))) 1 _ (by repeat (first | with_reducible exact Upd.here | apply Upd.there))) 2 _ (by repeat (first | with_reducible exact Upd.here | apply Upd.there))) 3 _ (by repeat (first | with_reducible exact Upd.here | apply Upd.there))) (by repeat (first | with_reducible exact List.mem_cons_self | refine List.mem_cons_of_mem _ ?_))) Tryz.underlying35 rfl (by kernel_rfl)) rfl ?_
  exact ⟨B0, b0, B1, b1, rfl, _, _, _, _, Hold.sub (w0 := w0) (Hold.setBoxU (Hold.setBoxU (Hold.setBoxU (Hold.setBoxU (Hold.setBoxU (Hold.setBoxU (Hold.setBoxU (Hold.setBoxU (by with_reducible exact HS) 0 _ (by repeat (first | with_reducible exact Upd.here | apply Upd.there))) 1 _ (by repeat (first | with_reducible exact Upd.here | apply Upd.there))) 2 _ (by repeat (first | with_reducible exact Upd.here | apply Upd.there))) 3 _ (by repeat (first | with_reducible exact Upd.here | apply Upd.there))) 0 _ (by repeat (first | with_reducible exact Upd.here | apply Upd.there))) 1 _ (by repeat (first | with_reducible exact Upd.here | apply Upd.there))) 2 _ (by repeat (first | with_reducible exact Upd.here | apply Upd.there))) 3 _ (by repeat (first | with_reducible exact Upd.here | apply Upd.there))) (List.Sublist.cons_cons _ (List.Sublist.cons_cons _ (List.Sublist.cons _ (List.Sublist.cons _ (List.Sublist.cons _ (List.Sublist.refl _))))))⟩
theorem st_eqCache {w0 W : World} {L : List (Thing × Nat × Nat)} {r0 : List (List Int)} {A0 B0 : Option Addr} {n0 m0 c0 d0 lo0 hi0 lp0 hp0 : Nat} {r1 : List Int} {A1 B1 : Option Addr} {n1 m1 c1 d1 lo1 hi1 lp1 hp1 : Nat} {x2 : Bool} {x3 : Bool} {b : Bool} (h : Hold w0 W L)
    (h0 : (nest (Kd.slice 2 (Kd.int .i64)) 23 (.slice A0 n0 c0) r0, lo0, hi0) ∈ L) (g0 : (nest (Kd.slice 2 (Kd.int .i64)) 23 (.slice B0 m0 d0) r0, lp0, hp0) ∈ L) (h1 : (flat (Kd.int .i64) 2 (.slice A1 n1 c1) r1, lo1, hi1) ∈ L) (g1 : (flat (Kd.int .i64) 2 (.slice B1 m1 d1) r1, lp1, hp1) ∈ L)
    (he : Ev (fun k => laws_eqCache.f k r0 r1 x2 x3 r0 r1 x2 x3) b) :
    Calls Tryz.prog 13 #[.agg #[.slice A0 n0 c0, .slice A1 n1 c1, .bool x2, .bool x3], .agg #[.slice B0 m0 d0, .slice B1 m1 d1, .bool x2, .bool x3]] W fun e w' => e = .returned (.bool b) ∧ Hold w0 w' L := by
  obtain ⟨rfl, a0, C0⟩ := Kd.S_reads' (h.get h0).1
  obtain ⟨rfl, a1, C1⟩ := Kd.R_reads' (h.get h1).1
  obtain ⟨rfl, a4, C4⟩ := Kd.S_reads' (h.get g0).1
  obtain ⟨rfl, a5, C5⟩ := Kd.R_reads' (h.get g1).1
  obtain ⟨k, hk⟩ := he
  refine (laws_eqCache.calls k A0 c0 r0 A1 c1 r1 x2 x3 B0 d0 r0 B1 d1 r1 x2 x3 b W C0 a0 C1 a1 C4 a4 C5 a5 (hk k (Nat.le_refl _))).mono ?_
  rintro e w' ⟨rfl, hb⟩
  exact ⟨rfl, by first | exact h.step hb | exact h.step hb.below⟩
set_option maxHeartbeats 1600000 in
set_option maxRecDepth 100000 in
theorem st_markCache {w0 W : World} {L0 : List (Thing × Nat × Nat)} {L1 : List (Thing × Nat × Nat)} {L2 : List (Thing × Nat × Nat)} {r0 : List (List Int)} {A0 : Option Addr} {n0 c0 lo0 hi0 : Nat} {r1 : List Int} {A1 : Option Addr} {n1 c1 lo1 hi1 : Nat} {x2 : Bool} {x3 : Bool} {s1 : List Int} {a a1 a2 : Int} (h : Hold w0 W L0)
    (u0 : Upd (nest (Kd.slice 2 (Kd.int .i64)) 23 (.slice A0 n0 c0) r0) noThing lo0 hi0 L0 L1) (p0 : r0.length ≤ 1048576) (j0 : ∀ x ∈ r0, x.length ≤ 1048576) (i0 : sumLen r0 ≤ 2000000) (b0 : 0 ≤ a) (v0 : a ≤ 10000000) (e0 : a + (sumLen r0 : Int) = a1) (u1 : Upd (flat (Kd.int .i64) 2 (.slice A1 n1 c1) r1) (flat (Kd.int .i64) 2 (.slice A1 n1 c1) s1) lo1 hi1 L1 L2) (e1 : Ev (fun k => laws_markInt64S.f k r1 a1) (a2, s1)) :
    Calls Tryz.prog 15 #[.agg #[.slice A0 n0 c0, .slice A1 n1 c1, .bool x2, .bool x3], .int .i64 a] W fun e w' => e = .returned (.int .i64 a2) ∧ Hold w0 w' L2 := by
  have Xu0 := Aside0.mk u0
  have Xp0 := Aside0.mk p0
  have Xj0 := Aside0.mk j0
  have Xi0 := Aside0.mk i0
  have Xb0 := Aside0.mk b0
  have Xv0 := Aside0.mk v0
  have Xe0 := Aside0.mk e0
  have Xu1 := Aside0.mk u1
  have Xe1 := Aside0.mk e1
  have HS := h
  clear u0 p0 j0 i0 b0 v0 e0 u1 e1 h
  go_enter Tryz.func15, Tryz.ntmps15
  go_wp2_with fail
  refine (st_markPolicy (w0 := w0) (Hold.box HS _ _) (Upd.there Xu0.out) Xp0.out Xj0.out Xi0.out Xb0.out Xv0.out Xe0.out (Upd.there Xu1.out) Xe1.out).mono ?_
  rintro e w1 ⟨rfl, HS⟩
  go_wp2_with fail
  go_ret
  exact ⟨rfl, Hold.sub HS (List.Sublist.cons _ (List.Sublist.refl _))⟩
theorem st_specX {w0 W : World} {L : List (Thing × Nat × Nat)} {A0 : Option Addr} {n0 c0 lo0 hi0 : Nat} {r0 : List (List Int)} {A1 : Option Addr} {n1 c1 lo1 hi1 : Nat} {r1 : List Int} {x2 : Bool} {x3 : Bool} {A4 : Option Addr} {n4 c4 lo4 hi4 : Nat} {r4 : List S58} {g0 : List Int} {g1 : Bool} (h : Hold w0 W L) (h0 : (nest (Kd.slice 2 (Kd.int .i64)) 23 (.slice A0 n0 c0) r0, lo0, hi0) ∈ L) (h1 : (flat (Kd.int .i64) 2 (.slice A1 n1 c1) r1, lo1, hi1) ∈ L) (h4 : (flat k58 58 (.slice A4 n4 c4) r4, lo4, hi4) ∈ L) (he : spec_DirtyLines.f r0 r1 x2 x3 r4 = some (g0, g1)) :
    Calls Tryz.prog 21 #[.agg #[.slice A0 n0 c0, .slice A1 n1 c1, .bool x2, .bool x3], .slice A4 n4 c4] W fun e w' => ∃ V0 d0, e = .returned (.tuple #[.slice V0 g0.length d0, .bool g1]) ∧ ∃ vl0 vh0, Hold w0 w' ((flat (Kd.int .i64) 2 (.slice V0 g0.length d0) g0, vl0, vh0) :: L) := by
  obtain ⟨rfl, a0, C0⟩ := Kd.S_reads' (h.get h0).1
  obtain ⟨rfl, a1, C1⟩ := Kd.R_reads' (h.get h1).1
  obtain ⟨rfl, a4, C4⟩ := Kd.R_reads' (h.get h4).1
  refine (spec_DirtyLines.calls A0 c0 r0 A1 c1 r1 x2 x3 A4 c4 r4 g0 g1 W C0 a0 C1 a1 C4 a4 he).mono ?_
  rintro e w' ⟨v, rfl, hr', hb⟩
  obtain ⟨V, d, rfl⟩ := Kd.R_slice hr'
  exact ⟨V, d, rfl, _, _, h.add (by first | exact hb | exact hb.below) (flat_new hr')⟩
theorem st_implX {w0 W : World} {L : List (Thing × Nat × Nat)} {A0 : Option Addr} {n0 c0 lo0 hi0 : Nat} {r0 : List (List Int)} {A1 : Option Addr} {n1 c1 lo1 hi1 : Nat} {r1 : List Int} {x2 : Bool} {x3 : Bool} {A4 : Option Addr} {n4 c4 lo4 hi4 : Nat} {r4 : List S58} {g0 : List Int} {g1 : Bool} (h : Hold w0 W L) (h0 : (nest (Kd.slice 2 (Kd.int .i64)) 23 (.slice A0 n0 c0) r0, lo0, hi0) ∈ L) (h1 : (flat (Kd.int .i64) 2 (.slice A1 n1 c1) r1, lo1, hi1) ∈ L) (h4 : (flat k58 58 (.slice A4 n4 c4) r4, lo4, hi4) ∈ L) (he : impl_DirtyLines.f r0 r1 x2 x3 r4 = some (g0, g1)) :
    Calls Tryz.prog 22 #[.agg #[.slice A0 n0 c0, .slice A1 n1 c1, .bool x2, .bool x3], .slice A4 n4 c4] W fun e w' => ∃ V0 d0, e = .returned (.tuple #[.slice V0 g0.length d0, .bool g1]) ∧ ∃ vl0 vh0, Hold w0 w' ((flat (Kd.int .i64) 2 (.slice V0 g0.length d0) g0, vl0, vh0) :: L) := by
  obtain ⟨rfl, a0, C0⟩ := Kd.S_reads' (h.get h0).1
  obtain ⟨rfl, a1, C1⟩ := Kd.R_reads' (h.get h1).1
  obtain ⟨rfl, a4, C4⟩ := Kd.R_reads' (h.get h4).1
  refine (impl_DirtyLines.calls A0 c0 r0 A1 c1 r1 x2 x3 A4 c4 r4 g0 g1 W C0 a0 C1 a1 C4 a4 he).mono ?_
  rintro e w' ⟨v, rfl, hr', hb⟩
  obtain ⟨V, d, rfl⟩ := Kd.R_slice hr'
  exact ⟨V, d, rfl, _, _, h.add (by first | exact hb | exact hb.below) (flat_new hr')⟩
set_option maxHeartbeats 1600000 in
theorem big0 (A0 : Option Addr) (c0 : Nat) (l0 : List (List Int)) (A1 : Option Addr) (c1 : Nat) (l1 : List Int) (x2 : Bool) (x3 : Bool) (A4 : Option Addr) (c4 : Nat) (l4 : List S60) (w : World) (hr0 : Kd.C (Kd.slice 2 (Kd.int .i64)) w A0 l0.length l0) (hc0 : l0.length ≤ c0) (hr1 : Kd.C (Kd.int .i64) w A1 l1.length l1) (hc1 : l1.length ≤ c1) (hr4 : Kd.C k60 w A4 l4.length l4) (hc4 : l4.length ≤ c4)  (z0 : Int) (hs0 : Ev (fun k => laws_szCache.f k l0 l1 x2 x3 1048576) z0) (hz0 : decide (z0 < 0) = true) :
    Calls Tryz.prog 5 #[.agg #[.slice A0 l0.length c0, .slice A1 l1.length c1, .bool x2, .bool x3], .slice A4 l4.length c4] w fun e w' => e = .returned (.bool true) ∧ Below w.heap.size w w' := by
  have SZ0 := Aside0.mk hs0
  have HR0 := Aside0.mk hr0
  have HR1 := Aside0.mk hr1
  have HR4 := Aside0.mk hr4
  have HC0 := Aside0.mk hc0
  have HC1 := Aside0.mk hc1
  have HC4 := Aside0.mk hc4
  have HS := Hold.start w
  clear hr0 hc0 hr1 hc1 hr4 hc4
  clear hs0
  go_enter Tryz.func5, Tryz.ntmps5
  go_wp2_with fail
  refine (st_szCache (w0 := w) (Hold.box HS #[.slice A0 l0.length c0, .slice A1 l1.length c1, .bool x2, .bool x3] 27) HR0.out HC0.out HR1.out HC1.out SZ0.out).mono ?_
  rintro e w1 ⟨rfl, HS⟩
  try simp only [World.size_alloc] at HS
  go_wp2_with fail
  go_ret
  exact ⟨rfl, HS.below⟩
set_option maxHeartbeats 1600000 in
theorem big1 (A0 : Option Addr) (c0 : Nat) (l0 : List (List Int)) (A1 : Option Addr) (c1 : Nat) (l1 : List Int) (x2 : Bool) (x3 : Bool) (A4 : Option Addr) (c4 : Nat) (l4 : List S60) (w : World) (hr0 : Kd.C (Kd.slice 2 (Kd.int .i64)) w A0 l0.length l0) (hc0 : l0.length ≤ c0) (hr1 : Kd.C (Kd.int .i64) w A1 l1.length l1) (hc1 : l1.length ≤ c1) (hr4 : Kd.C k60 w A4 l4.length l4) (hc4 : l4.length ≤ c4)  (z0 : Int) (hs0 : Ev (fun k => laws_szCache.f k l0 l1 x2 x3 1048576) z0) (hz0 : decide (z0 < 0) = false) (z1 : Int) (hs1 : laws_szAccessS.f l4 z0 = some z1) (hz1 : decide (z1 < 0) = true) :
    Calls Tryz.prog 5 #[.agg #[.slice A0 l0.length c0, .slice A1 l1.length c1, .bool x2, .bool x3], .slice A4 l4.length c4] w fun e w' => e = .returned (.bool true) ∧ Below w.heap.size w w' := by
  have SZ0 := Aside0.mk hs0
  have SZ1 := Aside0.mk hs1
  have HR0 := Aside0.mk hr0
  have HR1 := Aside0.mk hr1
  have HR4 := Aside0.mk hr4
  have HC0 := Aside0.mk hc0
  have HC1 := Aside0.mk hc1
  have HC4 := Aside0.mk hc4
  have HS := Hold.start w
  clear hr0 hc0 hr1 hc1 hr4 hc4
  clear hs0 hs1
  go_enter Tryz.func5, Tryz.ntmps5
  go_wp2_with fail
  refine (st_szCache (w0 := w) (Hold.box HS #[.slice A0 l0.length c0, .slice A1 l1.length c1, .bool x2, .bool x3] 27) HR0.out HC0.out HR1.out HC1.out SZ0.out).mono ?_
  rintro e w1 ⟨rfl, HS⟩
  try simp only [World.size_alloc] at HS
  go_wp2_with fail
  refine (laws_szAccessS.calls A4 c4 l4 (z0) z1 _ (Kd.C_below HR4.out HS.below) HC4.out SZ1.out).mono ?_
  rintro e w2 ⟨rfl, hb⟩
  replace HS := HS.step (by first | exact hb | exact hb.below)
  clear hb
  go_wp2_with fail
  go_ret
  exact ⟨rfl, HS.below⟩
set_option maxHeartbeats 8000000 in
set_option maxRecDepth 100000 in
theorem walk (A0 : Option Addr) (c0 : Nat) (l0 : List (List Int)) (A1 : Option Addr) (c1 : Nat) (l1 : List Int) (x2 : Bool) (x3 : Bool) (A4 : Option Addr) (c4 : Nat) (l4 : List S60) (w : World) (hr0 : Kd.C (Kd.slice 2 (Kd.int .i64)) w A0 l0.length l0) (hc0 : l0.length ≤ c0) (hr1 : Kd.C (Kd.int .i64) w A1 l1.length l1) (hc1 : l1.length ≤ c1) (hr4 : Kd.C k60 w A4 l4.length l4) (hc4 : l4.length ≤ c4)
    (z0 : Int) (hs0 : Ev (fun k => laws_szCache.f k l0 l1 x2 x3 1048576) z0) (hz0 : decide (z0 < 0) = false)
    (z1 : Int) (hs1 : laws_szAccessS.f l4 z0 = some z1) (hz1 : decide (z1 < 0) = false)
    {r0 : List (List Int)}
    {r1 : List Int}
    {r4 : List S58}
    (ht0 : Ev (fun k => laws_toInt64SS.f k l0) r0)
    (ht1 : Ev (fun k => laws_toInt64S.f k l1) r1)
    (ht4 : Ev (fun k => laws_toAccessS.f k l4) r4)
    {g0 : List Int}
    {g1 : Bool}
    (hsp : spec_DirtyLines.f r0 r1 x2 x3 r4 = some (g0, g1))
    (him : impl_DirtyLines.f r0 r1 x2 x3 r4 = some (g0, g1))
    (eg0 : Ev (fun k => laws_eqInt64S.f k g0 g0) true)
    (ep0 : Ev (fun k => laws_eqCache.f k r0 r1 x2 x3 r0 r1 x2 x3) true)
    (ep1 : Ev (fun k => laws_eqAccessS.f k r4 r4) true)
    {kk1 kk2 kk3 : Int}
    {s1 : List Int} {s4 : List S58}
    (xp0 : r0.length ≤ 1048576) (xj0 : ∀ x ∈ r0, x.length ≤ 1048576) (xi0 : sumLen r0 ≤ 2000000) (xb0 : 0 ≤ (1 : Int)) (xv0 : (1 : Int) ≤ 10000000) (xe0 : (1 : Int) + (sumLen r0 : Int) = kk1) (xe1 : Ev (fun k => laws_markInt64S.f k r1 kk1) (kk2, s1)) (xe4 : Ev (fun k => laws_markAccessS.f k r4 kk2) (kk3, s4))
    (hk : decide (kk3 < 0) = false)
    {q0 : Int} {m0 : List Int} (mg0 : Ev (fun k => laws_markInt64S.f k g0 1) (q0, m0)) (hg0 : Ev (fun k => laws_heldInt64S.f k m0 1) q0) (hq0 : decide (q0 < 0) = false) :
    Calls Tryz.prog 5 #[.agg #[.slice A0 l0.length c0, .slice A1 l1.length c1, .bool x2, .bool x3], .slice A4 l4.length c4] w fun e w' => e = .returned (.bool true) ∧ Below w.heap.size w w' := by
  have SZ0 := Aside0.mk hs0
  have SZ1 := Aside0.mk hs1
  have HT0 := Aside0.mk ht0
  have HT1 := Aside0.mk ht1
  have HT4 := Aside0.mk ht4
  have SP := Aside0.mk hsp
  have IM := Aside0.mk him
  have EG0 := Aside0.mk eg0
  have EP0 := Aside0.mk ep0
  have EP1 := Aside0.mk ep1
  have XP0 := Aside0.mk xp0
  have XJ0 := Aside0.mk xj0
  have XI0 := Aside0.mk xi0
  have XB0 := Aside0.mk xb0
  have XV0 := Aside0.mk xv0
  have XE0 := Aside0.mk xe0
  have XE1 := Aside0.mk xe1
  have XE4 := Aside0.mk xe4
  have MG0 := Aside0.mk mg0
  have HG0 := Aside0.mk hg0
  have HR0 := Aside0.mk hr0
  have HR1 := Aside0.mk hr1
  have HR4 := Aside0.mk hr4
  have HC0 := Aside0.mk hc0
  have HC1 := Aside0.mk hc1
  have HC4 := Aside0.mk hc4
  have HS := Hold.start w
  clear hr0 hc0 hr1 hc1 hr4 hc4
  clear hs0 hs1 ht0 ht1 ht4 hsp him eg0 ep0 ep1 xp0 xj0 xi0 xb0 xv0 xe0 xe1 xe4 mg0 hg0
  go_enter Tryz.func5, Tryz.ntmps5
  go_wp2_with fail
  refine (st_szCache (w0 := w) (Hold.box HS #[.slice A0 l0.length c0, .slice A1 l1.length c1, .bool x2, .bool x3] 27) HR0.out HC0.out HR1.out HC1.out SZ0.out).mono ?_
  rintro e w1 ⟨rfl, HS⟩
  try simp only [World.size_alloc] at HS
  go_wp2_with fail
  refine (laws_szAccessS.calls A4 c4 l4 (z0) z1 _ (Kd.C_below HR4.out HS.below) HC4.out SZ1.out).mono ?_
  rintro e w2 ⟨rfl, hb⟩
  replace HS := HS.step (by first | exact hb | exact hb.below)
  clear hb
  have q0 : w2.cell? ⟨w.heap.size, 0, none⟩ = some (.slice A0 l0.length c0) := HS.cell List.mem_cons_self 0 _ rfl
  have q1 : w2.cell? ⟨w.heap.size, 1, none⟩ = some (.slice A1 l1.length c1) := HS.cell List.mem_cons_self 1 _ rfl
  have q2 : w2.cell? ⟨w.heap.size, 2, none⟩ = some (.bool x2) := HS.cell List.mem_cons_self 2 _ rfl
  have q3 : w2.cell? ⟨w.heap.size, 3, none⟩ = some (.bool x3) := HS.cell List.mem_cons_self 3 _ rfl
  go_wp2_with fail
  clear q0 q1 q2 q3
  refine (st_toCache (w0 := w) (by with_reducible exact HS) HR0.out HC0.out HR1.out HC1.out HT0.out HT1.out).mono ?_
  rintro e w3 ⟨U0, u0, U1, u1, rfl, ul0, uh0, ul1, uh1, HS⟩
  go_wp2_with fail
  refine (st_toAccessS_ (w0 := w) (by with_reducible exact HS) HR4.out HC4.out HT4.out).mono ?_
  rintro e w4 ⟨U4, u4, ul4, uh4, rfl, HS⟩
  go_wp2_with fail
  refine (st_specX (w0 := w) (by with_reducible exact HS) (List.mem_cons_of_mem _ (List.mem_cons_of_mem _ List.mem_cons_self)) (List.mem_cons_of_mem _ List.mem_cons_self) List.mem_cons_self SP.out).mono ?_
  rintro e w5 ⟨V0, v0, rfl, vl0, vh0, HS⟩
  have q0 : w5.cell? ⟨w.heap.size, 0, none⟩ = some (.slice A0 l0.length c0) := HS.cell (List.mem_cons_of_mem _ (List.mem_cons_of_mem _ (List.mem_cons_of_mem _ (List.mem_cons_of_mem _ List.mem_cons_self)))) 0 _ rfl
  have q1 : w5.cell? ⟨w.heap.size, 1, none⟩ = some (.slice A1 l1.length c1) := HS.cell (List.mem_cons_of_mem _ (List.mem_cons_of_mem _ (List.mem_cons_of_mem _ (List.mem_cons_of_mem _ List.mem_cons_self)))) 1 _ rfl
  have q2 : w5.cell? ⟨w.heap.size, 2, none⟩ = some (.bool x2) := HS.cell (List.mem_cons_of_mem _ (List.mem_cons_of_mem _ (List.mem_cons_of_mem _ (List.mem_cons_of_mem _ List.mem_cons_self)))) 2 _ rfl
  have q3 : w5.cell? ⟨w.heap.size, 3, none⟩ = some (.bool x3) := HS.cell (List.mem_cons_of_mem _ (List.mem_cons_of_mem _ (List.mem_cons_of_mem _ (List.mem_cons_of_mem _ List.mem_cons_self)))) 3 _ rfl
  go_wp2_with fail
  clear q0 q1 q2 q3
  refine (st_toCache (w0 := w) (by with_reducible exact HS) HR0.out HC0.out HR1.out HC1.out HT0.out HT1.out).mono ?_
  rintro e w6 ⟨X0, x0, X1, x1, rfl, xl0, xh0, xl1, xh1, HS⟩
  go_wp2_with fail
  refine (st_toAccessS_ (w0 := w) (Hold.box HS #[.slice X0 r0.length x0, .slice X1 r1.length x1, .bool x2, .bool x3] 35) HR4.out HC4.out HT4.out).mono ?_
  rintro e w7 ⟨X4, x4, xl4, xh4, rfl, HS⟩
  try simp only [World.size_alloc] at HS
  have x0_0 : w7.cell? ⟨w6.heap.size, 0, none⟩ = some (.slice X0 r0.length x0) := HS.cell (List.mem_cons_of_mem _ List.mem_cons_self) 0 _ rfl
  have x0_1 : w7.cell? ⟨w6.heap.size, 1, none⟩ = some (.slice X1 r1.length x1) := HS.cell (List.mem_cons_of_mem _ List.mem_cons_self) 1 _ rfl
  have x0_2 : w7.cell? ⟨w6.heap.size, 2, none⟩ = some (.bool x2) := HS.cell (List.mem_cons_of_mem _ List.mem_cons_self) 2 _ rfl
  have x0_3 : w7.cell? ⟨w6.heap.size, 3, none⟩ = some (.bool x3) := HS.cell (List.mem_cons_of_mem _ List.mem_cons_self) 3 _ rfl
  go_wp2_with fail
  clear x0_0 x0_1 x0_2 x0_3
  refine (st_implX (w0 := w) (by with_reducible exact HS) (List.mem_cons_of_mem _ (List.mem_cons_of_mem _ (List.mem_cons_of_mem _ List.mem_cons_self))) (List.mem_cons_of_mem _ (List.mem_cons_of_mem _ List.mem_cons_self)) List.mem_cons_self IM.out).mono ?_
  rintro e w8 ⟨G0, g0, rfl, gl0, gh0, HS⟩
  go_wp2_with fail
  refine (st_eqInt64S_ (w0 := w) (by with_reducible exact HS) List.mem_cons_self (List.mem_cons_of_mem _ (List.mem_cons_of_mem _ (List.mem_cons_of_mem _ (List.mem_cons_of_mem _ (List.mem_cons_of_mem _ List.mem_cons_self))))) EG0.out).mono ?_
  rintro e w9 ⟨rfl, HS⟩
  go_wp2_with fail
  have HD := Hold.drew HS
  refine start_ (n := 5) (S := fun w' => w'.cell? ⟨w6.heap.size, 0, none⟩ = some (.slice X0 r0.length x0) ∧ w'.cell? ⟨w6.heap.size, 1, none⟩ = some (.slice X1 r1.length x1) ∧ w'.cell? ⟨w6.heap.size, 2, none⟩ = some (.bool x2) ∧ w'.cell? ⟨w6.heap.size, 3, none⟩ = some (.bool x3) ∧ w'.cell? ⟨w.heap.size, 0, none⟩ = some (.slice A0 l0.length c0) ∧ w'.cell? ⟨w.heap.size, 1, none⟩ = some (.slice A1 l1.length c1) ∧ w'.cell? ⟨w.heap.size, 2, none⟩ = some (.bool x2) ∧ w'.cell? ⟨w.heap.size, 3, none⟩ = some (.bool x3)) (ds := []) #[false, false, false, false, false] (by kernel_rfl) rfl rfl ⟨(HD.cell (List.mem_cons_of_mem _ (List.mem_cons_of_mem _ List.mem_cons_self)) 0 _ rfl), (HD.cell (List.mem_cons_of_mem _ (List.mem_cons_of_mem _ List.mem_cons_self)) 1 _ rfl), (HD.cell (List.mem_cons_of_mem _ (List.mem_cons_of_mem _ List.mem_cons_self)) 2 _ rfl), (HD.cell (List.mem_cons_of_mem _ (List.mem_cons_of_mem _ List.mem_cons_self)) 3 _ rfl), (HD.cell (List.mem_cons_of_mem _ (List.mem_cons_of_mem _ (List.mem_cons_of_mem _ (List.mem_cons_of_mem _ (List.mem_cons_of_mem _ (List.mem_cons_of_mem _ (List.mem_cons_of_mem _ (List.mem_cons_of_mem _ (List.mem_cons_of_mem _ List.mem_cons_self))))))))) 0 _ rfl), (HD.cell (List.mem_cons_of_mem _ (List.mem_cons_of_mem _ (List.mem_cons_of_mem _ (List.mem_cons_of_mem _ (List.mem_cons_of_mem _ (List.mem_cons_of_mem _ (List.mem_cons_of_mem _ (List.mem_cons_of_mem _ (List.mem_cons_of_mem _ List.mem_cons_self))))))))) 1 _ rfl), (HD.cell (List.mem_cons_of_mem _ (List.mem_cons_of_mem _ (List.mem_cons_of_mem _ (List.mem_cons_of_mem _ (List.mem_cons_of_mem _ (List.mem_cons_of_mem _ (List.mem_cons_of_mem _ (List.mem_cons_of_mem _ (List.mem_cons_of_mem _ List.mem_cons_self))))))))) 2 _ rfl), (HD.cell (List.mem_cons_of_mem _ (List.mem_cons_of_mem _ (List.mem_cons_of_mem _ (List.mem_cons_of_mem _ (List.mem_cons_of_mem _ (List.mem_cons_of_mem _ (List.mem_cons_of_mem _ (List.mem_cons_of_mem _ (List.mem_cons_of_mem _ List.mem_cons_self))))))))) 3 _ rfl)⟩ (fun hHeld => ?_)
  generalize w9.drew = wd at HD hHeld ⊢
  refine take_ (i := 0) (N := some 54) (v := ?_) (a' := ?_) #[true, false, false, false, false] rfl rfl (by kernel_rfl) (fun _ _ _ h => h) (Or.inl ⟨by rfl, ?_⟩) hHeld ?_ ?_
  rotate_left
  · rintro w' ⟨s0, s1, s2, s3, s4, s5, s6, s7⟩
    go_simp
    with_reducible rfl
  rotate_left
  · simp only [Act.put, List.setIfInBounds_toArray, List.set_cons_zero, List.set_cons_succ, i64_w, i32_w]
    rfl
  refine take_ (i := 1) (N := some 55) (v := ?_) (a' := ?_) #[true, true, false, false, false] rfl rfl (by kernel_rfl) (fun _ _ _ h => h) (Or.inl ⟨by rfl, ?_⟩) hHeld ?_ ?_
  rotate_left
  · rintro w' ⟨s0, s1, s2, s3, s4, s5, s6, s7⟩
    go_simp
    with_reducible rfl
  rotate_left
  · simp only [Act.put, List.setIfInBounds_toArray, List.set_cons_zero, List.set_cons_succ, i64_w, i32_w]
    rfl
  refine one_ (i := 2) (N := some 56) #[true, true, true, false, false] rfl rfl (by kernel_rfl) (by decide) (fun K hK => ?_)
  refine goes_ Tryz.func9 (by kernel_rfl) rfl #[.agg #[.slice A0 l0.length c0, .slice A1 l1.length c1, .bool x2, .bool x3]] (by rfl) rfl rfl (by simp only [List.map_toArray, List.map_cons, List.map_nil]; rfl) ?_
  with_reducible refine (st_toCache (w0 := w) (by with_reducible exact HD) HR0.out HC0.out HR1.out HC1.out HT0.out HT1.out).mono ?_
  rintro e w10 ⟨Y0_0, y0_0, Y0_1, y0_1, rfl, y0_l0, y0_h0, y0_l1, y0_h1, HD⟩
  refine ⟨_, rfl, ?_⟩
  have s0_ : w10.cell? ⟨w6.heap.size, 0, none⟩ = some (.slice X0 r0.length x0) := HD.cell (List.mem_cons_of_mem _ (List.mem_cons_of_mem _ (List.mem_cons_of_mem _ (List.mem_cons_of_mem _ List.mem_cons_self)))) 0 _ rfl
  have s1_ : w10.cell? ⟨w6.heap.size, 1, none⟩ = some (.slice X1 r1.length x1) := HD.cell (List.mem_cons_of_mem _ (List.mem_cons_of_mem _ (List.mem_cons_of_mem _ (List.mem_cons_of_mem _ List.mem_cons_self)))) 1 _ rfl
  have s2_ : w10.cell? ⟨w6.heap.size, 2, none⟩ = some (.bool x2) := HD.cell (List.mem_cons_of_mem _ (List.mem_cons_of_mem _ (List.mem_cons_of_mem _ (List.mem_cons_of_mem _ List.mem_cons_self)))) 2 _ rfl
  have s3_ : w10.cell? ⟨w6.heap.size, 3, none⟩ = some (.bool x3) := HD.cell (List.mem_cons_of_mem _ (List.mem_cons_of_mem _ (List.mem_cons_of_mem _ (List.mem_cons_of_mem _ List.mem_cons_self)))) 3 _ rfl
  have s4_ : w10.cell? ⟨w.heap.size, 0, none⟩ = some (.slice A0 l0.length c0) := HD.cell (List.mem_cons_of_mem _ (List.mem_cons_of_mem _ (List.mem_cons_of_mem _ (List.mem_cons_of_mem _ (List.mem_cons_of_mem _ (List.mem_cons_of_mem _ (List.mem_cons_of_mem _ (List.mem_cons_of_mem _ (List.mem_cons_of_mem _ (List.mem_cons_of_mem _ (List.mem_cons_of_mem _ List.mem_cons_self))))))))))) 0 _ rfl
  have s5_ : w10.cell? ⟨w.heap.size, 1, none⟩ = some (.slice A1 l1.length c1) := HD.cell (List.mem_cons_of_mem _ (List.mem_cons_of_mem _ (List.mem_cons_of_mem _ (List.mem_cons_of_mem _ (List.mem_cons_of_mem _ (List.mem_cons_of_mem _ (List.mem_cons_of_mem _ (List.mem_cons_of_mem _ (List.mem_cons_of_mem _ (List.mem_cons_of_mem _ (List.mem_cons_of_mem _ List.mem_cons_self))))))))))) 1 _ rfl
  have s6_ : w10.cell? ⟨w.heap.size, 2, none⟩ = some (.bool x2) := HD.cell (List.mem_cons_of_mem _ (List.mem_cons_of_mem _ (List.mem_cons_of_mem _ (List.mem_cons_of_mem _ (List.mem_cons_of_mem _ (List.mem_cons_of_mem _ (List.mem_cons_of_mem _ (List.mem_cons_of_mem _ (List.mem_cons_of_mem _ (List.mem_cons_of_mem _ (List.mem_cons_of_mem _ List.mem_cons_self))))))))))) 2 _ rfl
  have s7_ : w10.cell? ⟨w.heap.size, 3, none⟩ = some (.bool x3) := HD.cell (List.mem_cons_of_mem _ (List.mem_cons_of_mem _ (List.mem_cons_of_mem _ (List.mem_cons_of_mem _ (List.mem_cons_of_mem _ (List.mem_cons_of_mem _ (List.mem_cons_of_mem _ (List.mem_cons_of_mem _ (List.mem_cons_of_mem _ (List.mem_cons_of_mem _ (List.mem_cons_of_mem _ List.mem_cons_self))))))))))) 3 _ rfl
  refine hK.out _ _ ⟨s0_, s1_, s2_, s3_, s4_, s5_, s6_, s7_⟩ (fun hHeld => ?_)
  clear hK K
  refine norm_ (a' := ?_) ?_ ?_
  rotate_left
  · show Act.put _ (some 56) _ = _
    simp only [Act.put, List.setIfInBounds_toArray, List.set_cons_zero, List.set_cons_succ, i64_w, i32_w]
    rfl
  refine one_ (i := 3) (N := some 57) #[true, true, true, true, false] rfl rfl (by kernel_rfl) (by decide) (fun K hK => ?_)
  clear s0_ s1_ s2_ s3_ s4_ s5_ s6_ s7_
  refine goes_ Tryz.func13 (by kernel_rfl) rfl #[.agg #[.slice X0 r0.length x0, .slice X1 r1.length x1, .bool x2, .bool x3], .agg #[.slice Y0_0 r0.length y0_0, .slice Y0_1 r1.length y0_1, .bool x2, .bool x3]] (by rfl) rfl rfl (by simp only [List.map_toArray, List.map_cons, List.map_nil]; rfl) ?_
  with_reducible refine (st_eqCache (w0 := w) (by with_reducible exact HD) (List.mem_cons_of_mem _ (List.mem_cons_of_mem _ (List.mem_cons_of_mem _ (List.mem_cons_of_mem _ (List.mem_cons_of_mem _ (List.mem_cons_of_mem _ List.mem_cons_self)))))) (List.mem_cons_of_mem _ List.mem_cons_self) (List.mem_cons_of_mem _ (List.mem_cons_of_mem _ (List.mem_cons_of_mem _ (List.mem_cons_of_mem _ (List.mem_cons_of_mem _ List.mem_cons_self))))) List.mem_cons_self EP0.out).mono ?_
  rintro e w11 ⟨rfl, HD⟩
  refine ⟨_, rfl, ?_⟩
  have s0_ : w11.cell? ⟨w6.heap.size, 0, none⟩ = some (.slice X0 r0.length x0) := HD.cell (List.mem_cons_of_mem _ (List.mem_cons_of_mem _ (List.mem_cons_of_mem _ (List.mem_cons_of_mem _ List.mem_cons_self)))) 0 _ rfl
  have s1_ : w11.cell? ⟨w6.heap.size, 1, none⟩ = some (.slice X1 r1.length x1) := HD.cell (List.mem_cons_of_mem _ (List.mem_cons_of_mem _ (List.mem_cons_of_mem _ (List.mem_cons_of_mem _ List.mem_cons_self)))) 1 _ rfl
  have s2_ : w11.cell? ⟨w6.heap.size, 2, none⟩ = some (.bool x2) := HD.cell (List.mem_cons_of_mem _ (List.mem_cons_of_mem _ (List.mem_cons_of_mem _ (List.mem_cons_of_mem _ List.mem_cons_self)))) 2 _ rfl
  have s3_ : w11.cell? ⟨w6.heap.size, 3, none⟩ = some (.bool x3) := HD.cell (List.mem_cons_of_mem _ (List.mem_cons_of_mem _ (List.mem_cons_of_mem _ (List.mem_cons_of_mem _ List.mem_cons_self)))) 3 _ rfl
  have s4_ : w11.cell? ⟨w.heap.size, 0, none⟩ = some (.slice A0 l0.length c0) := HD.cell (List.mem_cons_of_mem _ (List.mem_cons_of_mem _ (List.mem_cons_of_mem _ (List.mem_cons_of_mem _ (List.mem_cons_of_mem _ (List.mem_cons_of_mem _ (List.mem_cons_of_mem _ (List.mem_cons_of_mem _ (List.mem_cons_of_mem _ (List.mem_cons_of_mem _ (List.mem_cons_of_mem _ List.mem_cons_self))))))))))) 0 _ rfl
  have s5_ : w11.cell? ⟨w.heap.size, 1, none⟩ = some (.slice A1 l1.length c1) := HD.cell (List.mem_cons_of_mem _ (List.mem_cons_of_mem _ (List.mem_cons_of_mem _ (List.mem_cons_of_mem _ (List.mem_cons_of_mem _ (List.mem_cons_of_mem _ (List.mem_cons_of_mem _ (List.mem_cons_of_mem _ (List.mem_cons_of_mem _ (List.mem_cons_of_mem _ (List.mem_cons_of_mem _ List.mem_cons_self))))))))))) 1 _ rfl
  have s6_ : w11.cell? ⟨w.heap.size, 2, none⟩ = some (.bool x2) := HD.cell (List.mem_cons_of_mem _ (List.mem_cons_of_mem _ (List.mem_cons_of_mem _ (List.mem_cons_of_mem _ (List.mem_cons_of_mem _ (List.mem_cons_of_mem _ (List.mem_cons_of_mem _ (List.mem_cons_of_mem _ (List.mem_cons_of_mem _ (List.mem_cons_of_mem _ (List.mem_cons_of_mem _ List.mem_cons_self))))))))))) 2 _ rfl
  have s7_ : w11.cell? ⟨w.heap.size, 3, none⟩ = some (.bool x3) := HD.cell (List.mem_cons_of_mem _ (List.mem_cons_of_mem _ (List.mem_cons_of_mem _ (List.mem_cons_of_mem _ (List.mem_cons_of_mem _ (List.mem_cons_of_mem _ (List.mem_cons_of_mem _ (List.mem_cons_of_mem _ (List.mem_cons_of_mem _ (List.mem_cons_of_mem _ (List.mem_cons_of_mem _ List.mem_cons_self))))))))))) 3 _ rfl
  refine hK.out _ _ ⟨s0_, s1_, s2_, s3_, s4_, s5_, s6_, s7_⟩ (fun hHeld => ?_)
  clear hK K
  refine norm_ (a' := ?_) ?_ ?_
  rotate_left
  · show Act.put _ (some 57) _ = _
    simp only [Act.put, List.setIfInBounds_toArray, List.set_cons_zero, List.set_cons_succ, i64_w, i32_w]
    rfl
  refine pure_ (i := 4) (N := some 58) (v := ?_) (a' := ?_) #[true, true, true, true, true] rfl rfl (by kernel_rfl) (fun _ _ _ h => h) (Or.inl ⟨by rfl, ?_⟩) ?_ ?_
  rotate_left
  · intro w'
    go_simp
    with_reducible rfl
  rotate_left
  · simp only [Act.put, List.setIfInBounds_toArray, List.set_cons_zero, List.set_cons_succ, i64_w, i32_w]
    rfl
  refine done_ (by kernel_rfl) ?_
  clear hHeld s0_ s1_ s2_ s3_ s4_ s5_ s6_ s7_
  replace HS := HD
  clear HD
  go_wp2_with fail
  refine (st_toAccessS_ (w0 := w) (by with_reducible exact HS) HR4.out HC4.out HT4.out).mono ?_
  rintro e w12 ⟨Y1_4, y1_4, y1_l4, y1_h4, rfl, HS⟩
  go_wp2_with fail
  refine (st_eqAccessS_ (w0 := w) (by with_reducible exact HS) (List.mem_cons_of_mem _ (List.mem_cons_of_mem _ (List.mem_cons_of_mem _ (List.mem_cons_of_mem _ List.mem_cons_self)))) List.mem_cons_self EP1.out).mono ?_
  rintro e w13 ⟨rfl, HS⟩
  have q0 : w13.cell? ⟨w6.heap.size, 0, none⟩ = some (.slice X0 r0.length x0) := HS.cell (List.mem_cons_of_mem _ (List.mem_cons_of_mem _ (List.mem_cons_of_mem _ (List.mem_cons_of_mem _ (List.mem_cons_of_mem _ List.mem_cons_self))))) 0 _ rfl
  have q1 : w13.cell? ⟨w6.heap.size, 1, none⟩ = some (.slice X1 r1.length x1) := HS.cell (List.mem_cons_of_mem _ (List.mem_cons_of_mem _ (List.mem_cons_of_mem _ (List.mem_cons_of_mem _ (List.mem_cons_of_mem _ List.mem_cons_self))))) 1 _ rfl
  have q2 : w13.cell? ⟨w6.heap.size, 2, none⟩ = some (.bool x2) := HS.cell (List.mem_cons_of_mem _ (List.mem_cons_of_mem _ (List.mem_cons_of_mem _ (List.mem_cons_of_mem _ (List.mem_cons_of_mem _ List.mem_cons_self))))) 2 _ rfl
  have q3 : w13.cell? ⟨w6.heap.size, 3, none⟩ = some (.bool x3) := HS.cell (List.mem_cons_of_mem _ (List.mem_cons_of_mem _ (List.mem_cons_of_mem _ (List.mem_cons_of_mem _ (List.mem_cons_of_mem _ List.mem_cons_self))))) 3 _ rfl
  go_wp2_with fail
  clear q0 q1 q2 q3
  refine (st_markCache (w0 := w) (by with_reducible exact HS) (.there (.there (.there (.there (.there (.there (.there .here))))))) XP0.out XJ0.out XI0.out XB0.out XV0.out XE0.out (.there (.there (.there (.there (.there (.there .here)))))) XE1.out).mono ?_
  rintro e w14 ⟨rfl, HS⟩
  go_wp2_with fail
  refine (st_markAccessS_ (w0 := w) (by with_reducible exact HS) (.there (.there (.there (.there .here)))) XE4.out).mono ?_
  rintro e w15 ⟨rfl, HS⟩
  go_wp2_with fail
  refine (st_eqInt64S_ (w0 := w) (by with_reducible exact HS) (List.mem_cons_of_mem _ (List.mem_cons_of_mem _ (List.mem_cons_of_mem _ List.mem_cons_self))) (List.mem_cons_of_mem _ (List.mem_cons_of_mem _ (List.mem_cons_of_mem _ (List.mem_cons_of_mem _ (List.mem_cons_of_mem _ (List.mem_cons_of_mem _ (List.mem_cons_of_mem _ (List.mem_cons_of_mem _ List.mem_cons_self)))))))) EG0.out).mono ?_
  rintro e w16 ⟨rfl, HS⟩
  go_wp2_with fail
  refine (st_markInt64S_ (w0 := w) (by with_reducible exact HS) (.there (.there (.there .here))) MG0.out).mono ?_
  rintro e w17 ⟨rfl, HS⟩
  go_wp2_with fail
  refine (st_heldInt64S_ (w0 := w) (by with_reducible exact HS) (List.mem_cons_of_mem _ (List.mem_cons_of_mem _ (List.mem_cons_of_mem _ List.mem_cons_self))) HG0.out).mono ?_
  rintro e w18 ⟨rfl, HS⟩
  have q0 : w18.cell? ⟨w.heap.size, 0, none⟩ = some (.slice A0 l0.length c0) := HS.cell (List.mem_cons_of_mem _ (List.mem_cons_of_mem _ (List.mem_cons_of_mem _ (List.mem_cons_of_mem _ (List.mem_cons_of_mem _ (List.mem_cons_of_mem _ (List.mem_cons_of_mem _ (List.mem_cons_of_mem _ (List.mem_cons_of_mem _ (List.mem_cons_of_mem _ (List.mem_cons_of_mem _ (List.mem_cons_of_mem _ List.mem_cons_self)))))))))))) 0 _ rfl
  have q1 : w18.cell? ⟨w.heap.size, 1, none⟩ = some (.slice A1 l1.length c1) := HS.cell (List.mem_cons_of_mem _ (List.mem_cons_of_mem _ (List.mem_cons_of_mem _ (List.mem_cons_of_mem _ (List.mem_cons_of_mem _ (List.mem_cons_of_mem _ (List.mem_cons_of_mem _ (List.mem_cons_of_mem _ (List.mem_cons_of_mem _ (List.mem_cons_of_mem _ (List.mem_cons_of_mem _ (List.mem_cons_of_mem _ List.mem_cons_self)))))))))))) 1 _ rfl
  have q2 : w18.cell? ⟨w.heap.size, 2, none⟩ = some (.bool x2) := HS.cell (List.mem_cons_of_mem _ (List.mem_cons_of_mem _ (List.mem_cons_of_mem _ (List.mem_cons_of_mem _ (List.mem_cons_of_mem _ (List.mem_cons_of_mem _ (List.mem_cons_of_mem _ (List.mem_cons_of_mem _ (List.mem_cons_of_mem _ (List.mem_cons_of_mem _ (List.mem_cons_of_mem _ (List.mem_cons_of_mem _ List.mem_cons_self)))))))))))) 2 _ rfl
  have q3 : w18.cell? ⟨w.heap.size, 3, none⟩ = some (.bool x3) := HS.cell (List.mem_cons_of_mem _ (List.mem_cons_of_mem _ (List.mem_cons_of_mem _ (List.mem_cons_of_mem _ (List.mem_cons_of_mem _ (List.mem_cons_of_mem _ (List.mem_cons_of_mem _ (List.mem_cons_of_mem _ (List.mem_cons_of_mem _ (List.mem_cons_of_mem _ (List.mem_cons_of_mem _ (List.mem_cons_of_mem _ List.mem_cons_self)))))))))))) 3 _ rfl
  go_wp2_with fail
  clear q0 q1 q2 q3
  refine (st_toCache (w0 := w) (by with_reducible exact HS) HR0.out HC0.out HR1.out HC1.out HT0.out HT1.out).mono ?_
  rintro e w19 ⟨Z0, z0, Z1, z1, rfl, zl0, zh0, zl1, zh1, HS⟩
  go_wp2_with fail
  refine (st_toAccessS_ (w0 := w) (by with_reducible exact HS) HR4.out HC4.out HT4.out).mono ?_
  rintro e w20 ⟨Z4, z4, zl4, zh4, rfl, HS⟩
  go_wp2_with fail
  refine (st_implX (w0 := w) (by with_reducible exact HS) (List.mem_cons_of_mem _ (List.mem_cons_of_mem _ List.mem_cons_self)) (List.mem_cons_of_mem _ List.mem_cons_self) List.mem_cons_self IM.out).mono ?_
  rintro e w21 ⟨H0, h0, rfl, hl0, hh0, HS⟩
  go_wp2_with fail
  refine (st_eqInt64S_ (w0 := w) (by with_reducible exact HS) List.mem_cons_self (List.mem_cons_of_mem _ (List.mem_cons_of_mem _ (List.mem_cons_of_mem _ (List.mem_cons_of_mem _ (List.mem_cons_of_mem _ (List.mem_cons_of_mem _ (List.mem_cons_of_mem _ (List.mem_cons_of_mem _ (List.mem_cons_of_mem _ (List.mem_cons_of_mem _ (List.mem_cons_of_mem _ (List.mem_cons_of_mem _ List.mem_cons_self)))))))))))) EG0.out).mono ?_
  rintro e w22 ⟨rfl, HS⟩
  go_wp2_with fail
  refine (st_heldInt64S_ (w0 := w) (by with_reducible exact HS) (List.mem_cons_of_mem _ (List.mem_cons_of_mem _ (List.mem_cons_of_mem _ (List.mem_cons_of_mem _ (List.mem_cons_of_mem _ (List.mem_cons_of_mem _ (List.mem_cons_of_mem _ List.mem_cons_self))))))) HG0.out).mono ?_
  rintro e w23 ⟨rfl, HS⟩
  go_wp2_with fail
  go_ret
  exact ⟨rfl, HS.below⟩
theorem szCache2_ev (h : List (List Int)) (m : List Int) (b1 b2 : Bool) (hl : h.length ≤ 9223372036854775807) (hi : ∀ x ∈ h, x.length ≤ 9223372036854775807) (hm : m.length ≤ 9223372036854775807) :
    ∃ z, Ev (fun k => laws_szCache.f k h m b1 b2 1048576) z ∧ (z < 0 ∨ 0 ≤ z ∧ z ≤ 1048576 ∧ polLen h m ∧ sumLen h ≤ 1048576) := by
  unfold laws_szCache.f
  by_cases hb : (1048576 : Int) < (h.length : Int) + (sumLen h : Int) + m.length
  · refine ⟨-1, Ev.bind (szPolicy_ev h m 1048576 (by omega) (by omega) hl hi hm) ?_, .inl (by omega)⟩
    rw [if_pos hb]
    exact Ev.pos (by omega) (Ev.some rfl)
  · refine ⟨1048576 - ((h.length : Int) + (sumLen h : Int) + m.length), Ev.bind (szPolicy_ev h m 1048576 (by omega) (by omega) hl hi hm) ?_, .inr ⟨by omega, by omega, ⟨by omega, fun x hx => by have := sumLen_mem hx; omega, by omega⟩, by omega⟩⟩
    rw [if_neg hb]
    exact Ev.neg (by omega) (Ev.some rfl)
theorem dirty_small (l0 : List (List Int)) (l1 : List Int) (b1 b2 : Bool) (t : List S58) : (dirtyV l0 l1 b1 b2 t).1.length ≤ 1048576 := by
  unfold dirtyV
  split
  · have := leftC_length (cacheEnd l0 l1 b1 b2 t).ds 16
    show (leftC (cacheEnd l0 l1 b1 b2 t).ds 16).length ≤ 1048576
    omega
  · exact Nat.zero_le _

def laws_FnExactDirtyLines.f (l0_0 : List (List Int)) (l0_1 : List Int) (a0_2 : Bool) (a0_3 : Bool) (l1 : List S60) : Option Bool := some true
theorem laws_FnExactDirtyLines.calls (A0_0 : Option Addr) (c0_0 : Nat) (l0_0 : List (List Int)) (A0_1 : Option Addr) (c0_1 : Nat) (l0_1 : List Int) (a0_2 : Bool) (a0_3 : Bool) (A1 : Option Addr) (c1 : Nat) (l1 : List S60) (r : Bool) (w : World) (hr0_0 : Kd.C (Kd.slice 2 (Kd.int .i64)) w A0_0 l0_0.length l0_0) (hc0_0 : l0_0.length ≤ c0_0) (hr0_1 : Kd.C (Kd.int .i64) w A0_1 l0_1.length l0_1) (hc0_1 : l0_1.length ≤ c0_1) (hr1 : Kd.C k60 w A1 l1.length l1) (hc1 : l1.length ≤ c1) (h : laws_FnExactDirtyLines.f l0_0 l0_1 a0_2 a0_3 l1 = some r) :
    Calls Tryz.prog 5 #[.agg #[.slice A0_0 l0_0.length c0_0, .slice A0_1 l0_1.length c0_1, .bool a0_2, .bool a0_3], .slice A1 l1.length c1] w fun e w' => e = .returned (.bool r) ∧ Below w.heap.size w w' := by
  obtain rfl := Option.some.inj h
  obtain ⟨z, ez, hz⟩ := szCache2_ev l0_0 l0_1 a0_2 a0_3 hr0_0.2.1 (fun y hy => rows_len hr0_0 y hy) hr0_1.2.1
  rcases hz with hz | ⟨hz, hz2, hp, hsum⟩
  · exact big0 A0_0 c0_0 l0_0 A0_1 c0_1 l0_1 a0_2 a0_3 A1 c1 l1 w hr0_0 hc0_0 hr0_1 hc0_1 hr1 hc1 z ez (decide_eq_true hz)
  have hs := szAccessS_f l1 z hz hz2 hr1.2.1
  by_cases hb : z < l1.length
  · rw [if_pos hb] at hs
    exact big1 A0_0 c0_0 l0_0 A0_1 c0_1 l0_1 a0_2 a0_3 A1 c1 l1 w hr0_0 hc0_0 hr0_1 hc0_1 hr1 hc1 z ez (decide_eq_false (by omega)) (-1) hs (by decide)
  rw [if_neg hb] at hs
  have U : l1.length ≤ 1048576 := by omega
  have U2 : (l1.map cvAccess).length ≤ 1048576 := by rw [List.length_map]; exact U
  have t0 := toInt64SS_ev l0_0 hp.1 hp.2.1
  rw [List.map_id] at t0
  have M1 := hp.2.2
  obtain ⟨s4, hs4⟩ := markAccessS_ev (l1.map cvAccess) (1 + (sumLen l0_0 : Int) + (l0_1.length : Int)) U2 (by omega) (by omega)
  have hg : (dirtyV l0_0 l0_1 a0_2 a0_3 (l1.map cvAccess)).1.length ≤ 1048576 := dirty_small l0_0 l0_1 a0_2 a0_3 (l1.map cvAccess)
  have hsp : spec_DirtyLines.f l0_0 l0_1 a0_2 a0_3 (l1.map cvAccess) = some ((dirtyV l0_0 l0_1 a0_2 a0_3 (l1.map cvAccess)).1, (dirtyV l0_0 l0_1 a0_2 a0_3 (l1.map cvAccess)).2) := by unfold spec_DirtyLines.f; rw [if_pos ⟨hp, U2⟩]
  have him : impl_DirtyLines.f l0_0 l0_1 a0_2 a0_3 (l1.map cvAccess) = some ((dirtyV l0_0 l0_1 a0_2 a0_3 (l1.map cvAccess)).1, (dirtyV l0_0 l0_1 a0_2 a0_3 (l1.map cvAccess)).2) := by unfold impl_DirtyLines.f; rw [if_pos ⟨hp, U2⟩]
  exact walk A0_0 c0_0 l0_0 A0_1 c0_1 l0_1 a0_2 a0_3 A1 c1 l1 w hr0_0 hc0_0 hr0_1 hc0_1 hr1 hc1 z ez (decide_eq_false (by omega)) (z - l1.length) hs (decide_eq_false (by omega)) t0 (toInt64S_ev l0_1 M1) (toAccessS_ev l1 U) hsp him (eqInt64S_ev _ hg) (eqCache_ev l0_0 l0_1 a0_2 a0_3 hp) (eqAccessS_ev _ U2)
    hp.1 hp.2.1 (by omega) (by omega) (by omega) rfl (markInt64S_ev l0_1 _ M1 (by omega) (by omega)) hs4 (decide_eq_false (by omega)) (markInt64S_ev _ 1 hg (by omega) (by omega)) (heldInt64S_ev _ 1 hg (by omega) (by omega)) (decide_eq_false (by omega))

/-- THE ONE PURE STATEMENT of laws_FnExactDirtyLines. -/
def laws_FnExactDirtyLines.Pure : Prop := ∀ (l0_0 : List (List Int)) (l0_1 : List Int) (a0_2 : Bool) (a0_3 : Bool) (l1 : List (S60)), (l0_0.length ≤ 9223372036854775807 ∧ ∀ le0_0 ∈ l0_0, (le0_0.length ≤ 9223372036854775807 ∧ ∀ lee0_0 ∈ le0_0, (Lit.int .i64 lee0_0).wf = true)) → (l0_1.length ≤ 9223372036854775807 ∧ ∀ le0_1 ∈ l0_1, (Lit.int .i64 le0_1).wf = true) → (l1.length ≤ 9223372036854775807 ∧ ∀ le1 ∈ l1, True) → laws_FnExactDirtyLines.f l0_0 l0_1 a0_2 a0_3 l1 = some true

end Go.Proofs.YtdkpdpdaggnmhaaGreat.PFnExactDirtyLines
