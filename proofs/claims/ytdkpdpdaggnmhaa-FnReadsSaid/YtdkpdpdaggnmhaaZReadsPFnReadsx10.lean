import Derived.Test.YtdkpdpdaggnmhaaZReadsPFnReadsx0
import Derived.Test.YtdkpdpdaggnmhaaZReadsPFnReadsx4
import Derived.Test.YtdkpdpdaggnmhaaZReadsPFnReadsx5
import Derived.Test.YtdkpdpdaggnmhaaZReadsPFnReadsx6
import Derived.Test.YtdkpdpdaggnmhaaZReadsPFnReadsx7
import Derived.Test.YtdkpdpdaggnmhaaZReadsPFnReadsx8
import Derived.Test.YtdkpdpdaggnmhaaZReadsPFnReadsx9
namespace Go.Proofs.Ytdkpdpdaggnmhaa.PFnReads
open Go.RowKit Go.Proofs.YtdkpdpdaggnmhaaW.PrintWords Go.Proofs.YtdkpdpdaggnmhaaW.PrintLast Go.Proofs.YtdkpdpdaggnmhaaW.PrintMore
attribute [local go_sem] max2_int min2_int max_two min_two max_three min_three max_four min_four   -- for this text's walks alone
set_option linter.unusedVariables false
set_option linter.unusedSimpArgs false
theorem last_getD (l : List Int) : rd l ((l.length : Int) - 1) = l.getD (l.length - 1) 0 := by
  unfold rd
  congr 1
  omega
theorem xInIdx_ev (l : List Int) (x : Int) (h : l.length ≤ 1048576) : Ev (fun k => slices_Index_int64_int64.f k l x) (xIdx (fun y => decide (y = x)) l 0) := by
  unfold slices_Index_int64_int64.f
  have key : ∀ d i, l.length - i = d → i ≤ l.length → Ev (fun k => slices_Index_int64_int64.l0 k l x (l.length : Int) (i : Int)) (xIdx (fun y => decide (y = x)) (l.drop i) (i : Int)) := by
    intro d
    induction d with
    | zero =>
      intro i hd hi
      refine Ev.succ ?_
      simp only [slices_Index_int64_int64.l0]
      exact Ev.neg (by omega) (Ev.some (by rw [List.drop_eq_nil_of_le (by omega)]; rfl))
    | succ d ih =>
      intro i hd hi
      refine Ev.succ ?_
      simp only [slices_Index_int64_int64.l0]
      rw [wrap_succ (show i < l.length by omega) (by omega), drop_cons l i 0 (by omega)]
      refine Ev.pos (by omega) (Ev.pos (by omega) (Ev.pos (by omega) ?_))
      have er : rd l (i : Int) = l.getD i 0 := rfl
      rw [er]
      unfold xIdx
      by_cases hx : l.getD i 0 = x
      · rw [if_pos (by simpa using hx)]; exact Ev.pos hx.symm (Ev.some rfl)
      · rw [if_neg (by simpa using hx)]; exact Ev.neg (fun e => hx e.symm) (ih (i + 1) (by omega) (by omega))
  have := key l.length 0 (by omega) (by omega)
  simpa using this
/-- The address that a step drops, -1 if none. -/
def goneV (c : List Int) (a : Int) : Int := if 0 ≤ ageOf c a then -1 else c.getD (c.length - 1) 0
theorem permuted_ev (l o : List Int) (hl : o.length ≤ 1048576) (ho : ∀ j ∈ o, 0 ≤ j ∧ j < (l.length : Int)) : Ev (fun k => impl_permuted.f k l o) (o.map fun j => rd l j) := by
  unfold impl_permuted.f
  refine Ev.upto (F := fun k s i => impl_permuted.l0 k l s o (o.length : Int) i) (n := o.length) (r := o.map fun j => rd l j) (fun i s => s = (o.take i).map fun j => rd l j) ?_ ?_ 0 (Nat.zero_le _) _ (by simp)
  · intro i s hi hs ih
    have hsl : s.length ≤ 1048576 := by rw [hs, List.length_map, List.length_take]; omega
    have hrd : rd o (i : Int) = o.getD i 0 := rfl
    have hj := ho _ (getD_mem o i 0 hi)
    refine Ev.succ ?_
    simp only [impl_permuted.l0]
    rw [hrd, wrap_succ hi (by omega)]
    refine Ev.pos (by omega) (Ev.pos (by omega) (Ev.pos (by omega) (Ev.pos hj.1 (Ev.pos hj.2 (Ev.pos (by omega) (ih _ ?_))))))
    rw [take_succ o i 0 hi, List.map_append, hs]
    rfl
  · intro s hs
    refine Ev.succ ?_
    simp only [impl_permuted.l0]
    exact Ev.neg (by omega) (Ev.some (by rw [hs, List.take_length]))
theorem implStepG_ev {h : List (List Int)} {m : List Int} (hv : validB h m = true) (c : List Int) (hc : c.length = m.length) (a : Int) : Ev (fun k => impl_Policy_step.f k h m c a) ((stepV h m c a).1, goneV c a, (stepV h m c a).2) := by
  obtain ⟨h1, h2, h3, h4, h5⟩ := valid_facts hv
  obtain ⟨o1, o2, o3⟩ := (orderB_iff _ _).1 (ord_order hv c hc a)
  have hage := age_lt c a
  unfold impl_Policy_step.f
  have hix : Ev (fun k => slices_Index_int64_int64.f k c a) (ageOf c a) := xInIdx_ev c a (by omega)
  by_cases hp : 0 ≤ ageOf c a
  · have eg : goneV c a = -1 := by unfold goneV; rw [if_pos hp]
    rw [eg]
    refine Ev.bind hix (Ev.pos hp (Ev.pos hp (Ev.pos (by omega) ?_)))
    have e2 : stepOld c a = c := by unfold stepOld; rw [if_pos hp]
    first
      | rw [← show stepOrd h m c a = rd_L1 h (ageOf c a) from by unfold stepOrd; rw [if_pos hp]; rfl]
      | rw [← show stepOrd h m c a = rd_L2 h (ageOf c a) from by unfold stepOrd; rw [if_pos hp]; rfl]
    refine Ev.bind (permuted_ev c _ (by omega) (fun j hj => by have := o2 j hj; omega)) (Ev.some ?_)
    unfold stepV
    rw [e2, decide_eq_true hp]
  · have eg : goneV c a = rd c ((c.length : Int) - 1) := by unfold goneV; rw [if_neg hp]; exact (last_getD c).symm
    rw [eg]
    refine Ev.bind hix (Ev.neg hp (Ev.bindc (show slices_Clone_int64_int64.f c = some c by unfold slices_Clone_int64_int64.f; rw [if_pos (by omega)]) ?_))
    rw [wrap_id (by omega) (by omega)]
    refine Ev.pos (by omega) (Ev.pos (by omega) ?_)
    have e1 : stepOrd h m c a = m := by unfold stepOrd; rw [if_neg hp]
    have e2 : stepOld c a = c.set ((c.length : Int) - 1).toNat a := by
      unfold stepOld; rw [if_neg hp]
      congr 1; omega
    rw [← e2]
    refine Ev.bind (permuted_ev _ m (by omega) (fun j hj => by rw [stepOld_length]; rw [e1] at o2; have := o2 j hj; omega)) (Ev.some ?_)
    unfold stepV
    rw [e1, decide_eq_false hp]
theorem perm_of_nodup : ∀ {l1 l2 : List Int}, l1.Nodup → (∀ x ∈ l1, x ∈ l2) → l2.length ≤ l1.length → l1.Perm l2
  | [], l2, _, _, h => by
    have : l2 = [] := List.eq_nil_of_length_eq_zero (by simpa using h)
    rw [this]
  | x :: r, l2, hn, hs, h => by
    have hx := hs x List.mem_cons_self
    obtain ⟨hxr, hr⟩ := List.nodup_cons.1 hn
    have hp := List.perm_cons_erase hx
    refine List.Perm.trans (List.Perm.cons x (perm_of_nodup hr (fun y hy => ?_) ?_)) hp.symm
    · exact (List.mem_erase_of_ne (fun e => hxr (by rw [← e]; exact hy))).2 (hs y (List.mem_cons_of_mem _ hy))
    · rw [List.length_erase_of_mem hx]
      simp only [List.length_cons] at h
      omega
/-- All positions, in some order: what stands there is what the list holds. -/
theorem map_rd_perm {l o : List Int} (ho : orderB o (l.length : Int) = true) : (o.map fun j => rd l j).Perm l := by
  obtain ⟨h1, h2, h3⟩ := (orderB_iff _ _).1 ho
  have hp : o.Perm ((List.range l.length).map (fun n : Nat => (n : Int))) := by
    refine perm_of_nodup h3 (fun x hx => ?_) (by simp; omega)
    have := h2 x hx
    exact List.mem_map.2 ⟨x.toNat, List.mem_range.2 (by omega), by omega⟩
  refine (hp.map _).trans (List.Perm.of_eq ?_)
  rw [List.map_map]
  apply List.ext_getElem
  · simp
  · intro i h4 h5
    simp only [List.getElem_map, List.getElem_range, Function.comp_apply]
    show l.getD ((i : Int)).toNat 0 = _
    rw [Int.toNat_natCast, getD_lt l i 0 h5]
theorem step_perm {hit : List (List Int)} {miss c : List Int} (hv : validB hit miss = true) (hc : c.length = miss.length) (x : Int) : (stepV hit miss c x).1.Perm (stepOld c x) := by
  have := ord_order hv c hc x
  have e : ((stepOld c x).length : Int) = (c.length : Int) := by rw [stepOld_length]
  rw [← e] at this
  exact map_rd_perm this
theorem ageOf_mem (c : List Int) (x : Int) : 0 ≤ ageOf c x ↔ x ∈ c := by
  have h := xIdx_nonneg (fun y => decide (y = x)) c 0 (Int.le_refl _)
  have h2 : 0 ≤ ageOf c x ↔ decide (xIdx (fun y => decide (y = x)) c 0 ≥ 0) = true := by
    rw [decide_eq_true_eq]
    exact Iff.rfl
  rw [h2, h, List.any_eq_true]
  constructor
  · rintro ⟨y, hy, e⟩
    rw [← of_decide_eq_true e]; exact hy
  · intro hx
    exact ⟨x, hx, by simp⟩
/-- Contents of n ways: no line stands there twice. -/
def Once (c : List Int) : Prop := (c.filter fun y => decide (0 ≤ y)).Nodup
theorem once_perm {c c' : List Int} (h : c.Perm c') : Once c ↔ Once c' := (h.filter _).nodup_iff
theorem step_hit {hit : List (List Int)} {miss c : List Int} (hv : validB hit miss = true) (hc : c.length = miss.length) {x : Int} (hx : x ∈ c) : (stepV hit miss c x).1.Perm c := by
  have h := step_perm hv hc x
  rwa [show stepOld c x = c by unfold stepOld; rw [if_pos ((ageOf_mem c x).2 hx)]] at h
theorem step_miss {hit : List (List Int)} {miss c : List Int} (hv : validB hit miss = true) (hc : c.length = miss.length) {x : Int} (hx : x ∉ c) :
    ∃ r, c.Perm (c.getD (c.length - 1) 0 :: r) ∧ (stepV hit miss c x).1.Perm (x :: r) := by
  have h := step_perm hv hc x
  have h1 := (valid_facts hv).1
  have hne : c ≠ [] := fun e => by rw [e] at hc; simp at hc; omega
  have ec : c = c.dropLast ++ [c.getLast hne] := (List.dropLast_concat_getLast hne).symm
  refine ⟨c.dropLast, ?_, h.trans ?_⟩
  · have : c.getD (c.length - 1) 0 = c.getLast hne := by
      rw [getD_lt _ _ _ (by omega), List.getLast_eq_getElem]
    rw [this]
    exact (List.Perm.of_eq ec).trans (List.perm_append_comm)
  · have e : stepOld c x = c.dropLast ++ [x] := by
      unfold stepOld
      rw [if_neg (fun k => hx ((ageOf_mem c x).1 k))]
      have h2 : c.set (c.length - 1) x = (c.dropLast ++ [c.getLast hne]).set (c.length - 1) x := congrArg (fun l => List.set l (c.length - 1) x) ec
      rw [h2, List.set_append_right _ _ (by simp)]
      simp
    rw [e]
    exact List.perm_append_comm
theorem step_perm_mem {c' r : List Int} {x y : Int} (h : c'.Perm (x :: r)) : y ∈ c' ↔ y = x ∨ y ∈ r := by rw [h.mem_iff, List.mem_cons]
theorem once_cons {x : Int} {r : List Int} : Once (x :: r) ↔ (0 ≤ x → x ∉ r) ∧ Once r := by
  unfold Once
  by_cases h : 0 ≤ x
  · rw [List.filter_cons_of_pos (by simpa using h), List.nodup_cons]
    simp [h]
  · rw [List.filter_cons_of_neg (by simpa using h)]
    simp [h]
/-- What is true of a run besides: no line is cached twice, and a dirty line is cached. -/
structure CacheV.Fine (s : CacheV) : Prop where
  once : Once s.cont
  held : ∀ l : Nat, s.ds.getD l false = true → (l : Int) ∈ s.cont
theorem start_fine (n : Nat) : (startC n).Fine := by
  refine ⟨?_, fun l hl => ?_⟩
  · show Once (List.replicate n (-1))
    unfold Once
    rw [List.filter_eq_nil_iff.2 (fun x hx => by rw [List.eq_of_mem_replicate hx]; simp)]
    exact List.nodup_nil
  · have hl' : (List.replicate 16 false).getD l false = true := hl
    rw [List.getD_eq_getElem?_getD, List.getElem?_replicate] at hl'
    split at hl' <;> simp at hl'
theorem set_true {ds : List Bool} {a l : Nat} (h : (ds.set a true).getD l false = true) : l = a ∨ ds.getD l false = true := by
  rw [List.getD_eq_getElem?_getD, List.getElem?_set] at h
  split at h
  · rename_i e; exact .inl e.symm
  · exact .inr (by rw [List.getD_eq_getElem?_getD]; exact h)
theorem set_false {ds : List Bool} {a l : Nat} : (ds.set a false).getD l false = true ↔ ds.getD l false = true ∧ l ≠ a := by
  rw [List.getD_eq_getElem?_getD, List.getElem?_set, List.getD_eq_getElem?_getD]
  split
  · rename_i e
    subst e
    split <;> simp
  · rename_i e
    simp [Ne.symm e]
theorem out_ds (ws cs : List Int) (ds : List Bool) (gone : Int) (l : Nat) : (outV ws cs ds gone).2.2.getD l false = true ↔ ds.getD l false = true ∧ (l : Int) ≠ gone := by
  unfold outV
  split
  · rename_i h
    exact ⟨fun h1 => ⟨h1, by omega⟩, fun h1 => h1.1⟩
  · rename_i h
    split
    · rename_i h2
      show (ds.set gone.toNat false).getD l false = true ↔ _
      rw [set_false]
      exact ⟨fun h1 => ⟨h1.1, by omega⟩, fun h1 => ⟨h1.1, by omega⟩⟩
    · rename_i h2
      refine ⟨fun h1 => ⟨h1, fun e => h2 ?_⟩, fun h1 => h1.1⟩
      have : gone.toNat = l := by omega
      rw [this]; exact h1
theorem any_mem (c : List Int) (x : Int) : (c.any fun y => decide (y = x)) = true ↔ x ∈ c := by
  rw [List.any_eq_true]
  constructor
  · rintro ⟨y, hy, e⟩
    rw [← of_decide_eq_true e]; exact hy
  · intro h
    exact ⟨x, h, by simp⟩
section
variable {hit : List (List Int)} {miss : List Int} (hv : validB hit miss = true)
include hv
theorem fill_fine {s : CacheV} (hc : s.cont.length = miss.length) (h : s.Fine) {n : Nat} (hx : (n : Int) ∉ s.cont) : (fillC hit miss n s).Fine ∧ (n : Int) ∈ (fillC hit miss n s).cont ∧
    ∀ y : Int, 0 ≤ y → (y ∈ (fillC hit miss n s).cont ↔ y = n ∨ y ∈ s.cont ∧ y ≠ s.cont.getD (s.cont.length - 1) 0) := by
  obtain ⟨r, h1, h2⟩ := step_miss hv hc hx
  have ho := (once_perm h1).1 h.once
  rw [once_cons] at ho
  have hmem : ∀ y : Int, 0 ≤ y → (y ∈ (stepV hit miss s.cont n).1 ↔ y = n ∨ y ∈ s.cont ∧ y ≠ s.cont.getD (s.cont.length - 1) 0) := by
    intro y hy
    rw [step_perm_mem h2, step_perm_mem h1]
    constructor
    · rintro (e | e)
      · exact .inl e
      · exact .inr ⟨.inr e, fun e2 => ho.1 (by rw [← e2]; exact hy) (by rw [← e2]; exact e)⟩
    · rintro (e | ⟨e | e, e2⟩)
      · exact .inl e
      · exact absurd e e2
      · exact .inr e
  refine ⟨⟨?_, fun l hl => ?_⟩, ?_, hmem⟩
  · refine (once_perm h2).2 (once_cons.2 ⟨fun _ hm => hx ((step_perm_mem h1).2 (.inr hm)), ho.2⟩)
  · have := (out_ds s.ws s.cs s.ds _ l).1 hl
    exact (hmem l (by omega)).2 (.inr ⟨h.held l this.1, this.2⟩)
  · exact (hmem n (by omega)).2 (.inl rfl)
theorem enter_fine {s : CacheV} (hc : s.cont.length = miss.length) (h : s.Fine) (n : Nat) : (enterC hit miss n s).Fine ∧ (n : Int) ∈ (enterC hit miss n s).cont := by
  unfold enterC
  split
  · rename_i hh
    have hp := step_hit hv hc ((any_mem s.cont n).1 hh)
    exact ⟨⟨(once_perm hp).2 h.once, fun l hl => hp.mem_iff.2 (h.held l hl)⟩, hp.mem_iff.2 ((any_mem s.cont n).1 hh)⟩
  · rename_i hh
    have := fill_fine hv (s := { s with m := s.m + 1 }) hc ⟨h.once, h.held⟩ (n := n) (fun e => hh ((any_mem s.cont n).2 e))
    exact ⟨this.1, this.2.1⟩
theorem access_fine {s : CacheV} (hc : s.cont.length = miss.length) (h : s.Fine) (back alloc : Bool) (k : Nat) (kind : Int) (a : Nat) : (accessC hit miss back alloc k kind a s).Fine := by
  obtain ⟨h1, h2⟩ := enter_fine hv hc h (a / 4)
  unfold accessC
  split
  · exact ⟨h.once, h.held⟩
  · split
    · unfold writeC
      split
      · refine ⟨h1.once, fun l hl => ?_⟩
        rcases set_true hl with e | e
        · rw [e]; exact h2
        · exact h1.held l e
      · exact ⟨h1.once, h1.held⟩
    · exact ⟨h1.once, h1.held⟩
end
theorem lit_wf {z : Int} (h : -1048576 ≤ z ∧ z ≤ 1048576) : (Lit.int .i64 z).wf = true := by
  simp only [Lit.wf, Bool.and_eq_true, decide_eq_true_eq]
  exact ⟨by show (-9223372036854775808 : Int) ≤ z; omega, by show z ≤ (9223372036854775807 : Int); omega⟩
/-- copy of four words into a row, at a place. -/
theorem copy4 {w0 W : World} {L : List (Thing × Nat × Nat)} {bm cm lm hm bl cl ll hl b : Nat} {ws : List Int} {x0 x1 x2 x3 : Int} (h : Hold w0 W L) (hm1 : (flat (Kd.int .i64) 2 (.slice (some ⟨bm, 0, none⟩) 64 cm) ws, lm, hm) ∈ L) (hm2 : (flat (Kd.int .i64) 2 (.slice (some ⟨bl, 0, none⟩) 4 cl) [x0, x1, x2, x3], ll, hl) ∈ L) (hb : b + 4 ≤ 64) (ty : TypeId) (dc : Nat) :
    (Builtin.copy_ #[25, 25] ty #[.slice (some ⟨bm, b, none⟩) (64 - b) dc, .slice (some ⟨bl, 0, none⟩) 4 cl]).run Try.prog W = .ok (goInt 4) (W.setCells bm b [.int .i64 x0, .int .i64 x1, .int .i64 x2, .int .i64 x3]) := by
  have hlen : ws.length = 64 := (h.reads' hm1).1.symm
  refine run_copy_cells W _ _ ty 2 bm b (64 - b) dc ⟨bl, 0, none⟩ 4 cl [.int .i64 x0, .int .i64 x1, .int .i64 x2, .int .i64 x3] Try.underlying25 (by kernel_rfl) ?_ ?_ ?_ ?_ ?_
  · show 4 = Nat.min 4 (64 - b)
    simp only [Nat.min_def]
    split <;> omega
  · intro j v hj
    have hj4 : j < 4 := (List.getElem?_eq_some_iff.1 hj).1
    have := (h.cellI hm2 (j : Int) (Int.natCast_nonneg j) (by exact Int.ofNat_lt.2 hj4)).1
    rw [Int.toNat_natCast] at this
    rw [add_plain, this]
    match j, hj4, hj with
    | 0, _, hj => exact hj
    | 1, _, hj => exact hj
    | 2, _, hj => exact hj
    | 3, _, hj => exact hj
  · intro j hj
    have hj4 : j < 4 := hj
    have := (h.cellI hm1 ((b + j : Nat) : Int) (Int.natCast_nonneg _) (by rw [hlen]; omega)).1
    rw [Int.toNat_natCast] at this
    rw [this]; rfl
  · intro j hj
    have hj4 : j < 4 := hj
    have := (h.cellI hm1 ((b + j : Nat) : Int) (Int.natCast_nonneg _) (by rw [hlen]; omega)).2
    rwa [Int.toNat_natCast] at this
  · intro v hv
    simp only [List.mem_cons, List.not_mem_nil, or_false] at hv
    rcases hv with rfl | rfl | rfl | rfl <;> rfl
def put4 (ws : List Int) (b : Nat) (x0 x1 x2 x3 : Int) : List Int := (((ws.set (b + 0) x0).set (b + 1) x1).set (b + 2) x2).set (b + 3) x3
theorem hold_put4 {w0 W : World} {x : Thing × Nat × Nat} {R : List (Thing × Nat × Nat)} {bm cm lm hm b : Nat} {ws : List Int} {x0 x1 x2 x3 : Int} (h : Hold w0 W (x :: (flat (Kd.int .i64) 2 (.slice (some ⟨bm, 0, none⟩) 64 cm) ws, lm, hm) :: R)) :
    Hold w0 (W.setCells bm b [.int .i64 x0, .int .i64 x1, .int .i64 x2, .int .i64 x3]) (x :: (flat (Kd.int .i64) 2 (.slice (some ⟨bm, 0, none⟩) 64 cm) (put4 ws b x0 x1 x2 x3), lm, hm) :: R) := by
  have h0 := h.setI ((b + 0 : Nat) : Int) x0 (.there .here)
  rw [Int.toNat_natCast] at h0
  have h1 := h0.setI ((b + 1 : Nat) : Int) x1 (.there .here)
  rw [Int.toNat_natCast] at h1
  have h2 := h1.setI ((b + 2 : Nat) : Int) x2 (.there .here)
  rw [Int.toNat_natCast] at h2
  have h3 := h2.setI ((b + 3 : Nat) : Int) x3 (.there .here)
  rw [Int.toNat_natCast] at h3
  exact h3
theorem put_w {n cm : Nat} {ws : List Int} {m : Nat} (h : n < 16) (hc : ws.length ≤ cm) (hl : ws.length = 64) : wrap64 ((n : Int) * 4) = (n : Int) * 4 ∧ (0 : Int) ≤ (n : Int) * 4 ∧ (n : Int) * 4 ≤ 64 ∧ ((n : Int) * 4).toNat = n * 4 ∧ ¬ cm = n * 4 ∧ (Lit.int .i64 (n : Int)).wf = true :=
  ⟨wrap_id (by omega) (by omega), by omega, by omega, by omega, by omega, lit_wf (by omega)⟩
set_option maxHeartbeats 4000000 in
set_option maxRecDepth 100000 in
theorem put_calls {w0 w : World} {R : List (Thing × Nat × Nat)} {g bm cm lm hm p p' mn bl cl ll hl n : Nat} {v0 v1 v2 v3 v5 v6 v8 v9 v10 v11 v12 v13 : Value} {ws : List Int} {x0 x1 x2 x3 : Int} {M : Int → Option Value} (hn : n < 16) (hM : M (n : Int) = some (.slice (some ⟨bl, 0, none⟩) 4 cl)) (h : Hold w0 w ((boxT #[v0, v1, v2, v3, .slice (some ⟨bm, 0, none⟩) 64 cm, v5, v6, .map (some p), v8, v9, v10, v11, v12, v13] 64, g, g + 1) :: (flat (Kd.int .i64) 2 (.slice (some ⟨bm, 0, none⟩) 64 cm) ws, lm, hm) :: (mapT Try.prog 2 M mn, p, p') :: (flat (Kd.int .i64) 2 (.slice (some ⟨bl, 0, none⟩) 4 cl) ([x0, x1, x2, x3]), ll, hl) :: R)) :
    Calls Try.prog 47 #[.pointer (some ⟨g, 0, none⟩), .int .i64 n] w fun e w' => e = .returned (.tuple #[]) ∧ Hold w0 w' ((boxT #[v0, v1, v2, v3, .slice (some ⟨bm, 0, none⟩) 64 cm, v5, v6, .map (some p), v8, v9, v10, v11, v12, v13] 64, g, g + 1) :: (flat (Kd.int .i64) 2 (.slice (some ⟨bm, 0, none⟩) 64 cm) (put4 ws (n * 4) x0 x1 x2 x3), lm, hm) :: (mapT Try.prog 2 M mn, p, p') :: (flat (Kd.int .i64) 2 (.slice (some ⟨bl, 0, none⟩) 4 cl) ([x0, x1, x2, x3]), ll, hl) :: R) := by
  have HS := h
  clear h
  have HN := Aside0.mk hn
  have HML := Aside0.mk hM
  clear hn hM
  obtain ⟨w1, w2, w3, w4, w5, w6⟩ := put_w (m := 0) HN.out (HS.reads' (List.mem_cons_of_mem _ List.mem_cons_self)).2.1 (HS.reads' (List.mem_cons_of_mem _ List.mem_cons_self)).1.symm
  go_enter Try.func47, Try.ntmps47
  have HD := Hold.drew HS
  refine start_ (n := 14) (S := fun w' => w'.cell? ⟨g, 4, none⟩ = some (.slice (some ⟨bm, 0, none⟩) 64 cm) ∧ w'.cell? ⟨g, 7, none⟩ = some (.map (some p)) ∧ (Instr.lookup 61 (.map (some p)) (.int .i64 (n : Int)) false).run Try.prog w' = .ok (.slice (some ⟨bl, 0, none⟩) 4 cl) w') (ds := []) #[false, false, false, false, false, false, false, false, false, false, false, false, false, false] (by kernel_rfl) rfl rfl ⟨(HD.cell List.mem_cons_self 4 _ rfl), (HD.cell List.mem_cons_self 7 _ rfl), (by have := HD.mlook (t := 61) (e := 25) (z := .slice none 0 0) (k := (n : Int)) (List.mem_cons_of_mem _ (List.mem_cons_of_mem _ List.mem_cons_self)) Try.underlying2 Try.underlying61 (fun _ => rfl) (lit_wf (by have := HN.out; omega)); rwa [HML.out] at this)⟩ (fun hHeld => ?_)
  generalize w.drew = wd at HD hHeld ⊢
  refine pure_ (i := 0) (N := some 4) (v := ?_) (a' := ?_) #[true, false, false, false, false, false, false, false, false, false, false, false, false, false] rfl rfl (by kernel_rfl) (fun _ _ _ h => h) (Or.inl ⟨by rfl, ?_⟩) ?_ ?_
  rotate_left
  · intro w'
    go_simp
    with_reducible rfl
  rotate_left
  · simp only [Act.put, List.setIfInBounds_toArray, List.set_cons_zero, List.set_cons_succ, i64_w, i32_w]
    rfl
  refine pure_ (i := 1) (N := some 5) (v := ?_) (a' := ?_) #[true, true, false, false, false, false, false, false, false, false, false, false, false, false] rfl rfl (by kernel_rfl) (fun _ _ _ h => h) (Or.inl ⟨by rfl, ?_⟩) ?_ ?_
  rotate_left
  · intro w'
    go_simp
    with_reducible rfl
  rotate_left
  · simp only [Act.put, List.setIfInBounds_toArray, List.set_cons_zero, List.set_cons_succ, i64_w, i32_w]
    rfl
  refine pure_ (i := 2) (N := some 6) (v := ?_) (a' := ?_) #[true, true, true, false, false, false, false, false, false, false, false, false, false, false] rfl rfl (by kernel_rfl) (fun _ _ _ h => h) (Or.inl ⟨by rfl, ?_⟩) ?_ ?_
  rotate_left
  · intro w'
    go_simp
    with_reducible rfl
  rotate_left
  · simp only [Act.put, List.setIfInBounds_toArray, List.set_cons_zero, List.set_cons_succ, i64_w, i32_w]
    rfl
  refine pure_ (i := 4) (N := some 8) (v := ?_) (a' := ?_) #[true, true, true, false, true, false, false, false, false, false, false, false, false, false] rfl rfl (by kernel_rfl) (fun _ _ _ h => h) (Or.inl ⟨by rfl, ?_⟩) ?_ ?_
  rotate_left
  · intro w'
    go_simp
    with_reducible rfl
  rotate_left
  · simp only [Act.put, List.setIfInBounds_toArray, List.set_cons_zero, List.set_cons_succ, i64_w, i32_w]
    rfl
  refine pure_ (i := 5) (N := some 9) (v := ?_) (a' := ?_) #[true, true, true, false, true, true, false, false, false, false, false, false, false, false] rfl rfl (by kernel_rfl) (fun _ _ _ h => h) (Or.inl ⟨by rfl, ?_⟩) ?_ ?_
  rotate_left
  · intro w'
    go_simp
    with_reducible rfl
  rotate_left
  · simp only [Act.put, List.setIfInBounds_toArray, List.set_cons_zero, List.set_cons_succ, i64_w, i32_w]
    rfl
  refine pure_ (i := 7) (N := some 11) (v := ?_) (a' := ?_) #[true, true, true, false, true, true, false, true, false, false, false, false, false, false] rfl rfl (by kernel_rfl) (fun _ _ _ h => h) (Or.inl ⟨by rfl, ?_⟩) ?_ ?_
  rotate_left
  · intro w'
    go_simp
    with_reducible rfl
  rotate_left
  · simp only [Act.put, List.setIfInBounds_toArray, List.set_cons_zero, List.set_cons_succ, i64_w, i32_w]
    rfl
  refine pure_ (i := 8) (N := some 12) (v := ?_) (a' := ?_) #[true, true, true, false, true, true, false, true, true, false, false, false, false, false] rfl rfl (by kernel_rfl) (fun _ _ _ h => h) (Or.inl ⟨by rfl, ?_⟩) ?_ ?_
  rotate_left
  · intro w'
    go_simp
    with_reducible rfl
  rotate_left
  · simp only [Act.put, List.setIfInBounds_toArray, List.set_cons_zero, List.set_cons_succ, i64_w, i32_w]
    rfl
  refine pure_ (i := 9) (N := some 13) (v := ?_) (a' := ?_) #[true, true, true, false, true, true, false, true, true, true, false, false, false, false] rfl rfl (by kernel_rfl) (fun _ _ _ h => h) (Or.inl ⟨by rfl, ?_⟩) ?_ ?_
  rotate_left
  · intro w'
    go_simp
    with_reducible rfl
  rotate_left
  · simp only [Act.put, List.setIfInBounds_toArray, List.set_cons_zero, List.set_cons_succ, i64_w, i32_w]
    rfl
  refine pure_ (i := 11) (N := some 15) (v := ?_) (a' := ?_) #[true, true, true, false, true, true, false, true, true, true, false, true, false, false] rfl rfl (by kernel_rfl) (fun _ _ _ h => h) (Or.inl ⟨by rfl, ?_⟩) ?_ ?_
  rotate_left
  · intro w'
    go_simp
    with_reducible rfl
  rotate_left
  · simp only [Act.put, List.setIfInBounds_toArray, List.set_cons_zero, List.set_cons_succ, i64_w, i32_w]
    rfl
  refine take_ (i := 3) (N := some 7) (v := ?_) (a' := ?_) #[true, true, true, true, true, true, false, true, true, true, false, true, false, false] rfl rfl (by kernel_rfl) (fun _ _ _ h => h) (Or.inl ⟨by rfl, ?_⟩) hHeld ?_ ?_
  rotate_left
  · rintro w' ⟨s0, s1, s2⟩
    go_simp
    with_reducible rfl
  rotate_left
  · simp only [Act.put, List.setIfInBounds_toArray, List.set_cons_zero, List.set_cons_succ, i64_w, i32_w]
    rfl
  refine pure_ (i := 6) (N := some 10) (v := ?_) (a' := ?_) #[true, true, true, true, true, true, true, true, true, true, false, true, false, false] rfl rfl (by kernel_rfl) (fun _ _ _ h => h) (Or.inl ⟨by rfl, ?_⟩) ?_ ?_
  rotate_left
  · intro w'
    go_simp
    with_reducible rfl
  rotate_left
  · simp only [Act.put, List.setIfInBounds_toArray, List.set_cons_zero, List.set_cons_succ, i64_w, i32_w]
    rfl
  refine take_ (i := 10) (N := some 14) (v := ?_) (a' := ?_) #[true, true, true, true, true, true, true, true, true, true, true, true, false, false] rfl rfl (by kernel_rfl) (fun _ _ _ h => h) (Or.inl ⟨by rfl, ?_⟩) hHeld ?_ ?_
  rotate_left
  · rintro w' ⟨s0, s1, s2⟩
    go_simp
    with_reducible rfl
  rotate_left
  · simp only [Act.put, List.setIfInBounds_toArray, List.set_cons_zero, List.set_cons_succ, i64_w, i32_w]
    rfl
  refine take_ (i := 12) (N := some 16) (v := ?_) (a' := ?_) #[true, true, true, true, true, true, true, true, true, true, true, true, true, false] rfl rfl (by kernel_rfl) (fun _ _ _ h => h) (Or.inl ⟨by rfl, ?_⟩) hHeld ?_ ?_
  rotate_left
  · rintro w' ⟨s0, s1, s2⟩
    go_simp
    with_reducible rfl
  rotate_left
  · simp only [Act.put, List.setIfInBounds_toArray, List.set_cons_zero, List.set_cons_succ, i64_w, i32_w]
    rfl
  refine one_ (i := 13) (N := some 17) #[true, true, true, true, true, true, true, true, true, true, true, true, true, true] rfl rfl (by kernel_rfl) (by decide) (fun K hK => ?_)
  refine value_ (w1 := wd.setCells bm (n * 4) [.int .i64 x0, .int .i64 x1, .int .i64 x2, .int .i64 x3]) (v := goInt 4) (by rfl) rfl ?_ ?_
  · have hcp := copy4 (b := n * 4) HD (List.mem_cons_of_mem _ List.mem_cons_self) (List.mem_cons_of_mem _ (List.mem_cons_of_mem _ (List.mem_cons_of_mem _ List.mem_cons_self))) (by have := HN.out; omega) 3 (cm - n * 4)
    go_simp
  replace HD := hold_put4 (b := n * 4) (x0 := x0) (x1 := x1) (x2 := x2) (x3 := x3) HD
  have s0_ : (wd.setCells bm (n * 4) [.int .i64 x0, .int .i64 x1, .int .i64 x2, .int .i64 x3]).cell? ⟨g, 4, none⟩ = some (.slice (some ⟨bm, 0, none⟩) 64 cm) := HD.cell List.mem_cons_self 4 _ rfl
  have s1_ : (wd.setCells bm (n * 4) [.int .i64 x0, .int .i64 x1, .int .i64 x2, .int .i64 x3]).cell? ⟨g, 7, none⟩ = some (.map (some p)) := HD.cell List.mem_cons_self 7 _ rfl
  have s2_ : (Instr.lookup 61 (.map (some p)) (.int .i64 (n : Int)) false).run Try.prog (wd.setCells bm (n * 4) [.int .i64 x0, .int .i64 x1, .int .i64 x2, .int .i64 x3]) = .ok (.slice (some ⟨bl, 0, none⟩) 4 cl) (wd.setCells bm (n * 4) [.int .i64 x0, .int .i64 x1, .int .i64 x2, .int .i64 x3]) := (by have := HD.mlook (t := 61) (e := 25) (z := .slice none 0 0) (k := (n : Int)) (List.mem_cons_of_mem _ (List.mem_cons_of_mem _ List.mem_cons_self)) Try.underlying2 Try.underlying61 (fun _ => rfl) (lit_wf (by have := HN.out; omega)); rwa [HML.out] at this)
  refine hK.out _ _ ⟨s0_, s1_, s2_⟩ (fun hHeld => ?_)
  clear hK K
  refine norm_ (a' := ?_) ?_ ?_
  rotate_left
  · show Act.put _ (some 17) _ = _
    simp only [Act.put, List.setIfInBounds_toArray, List.set_cons_zero, List.set_cons_succ, i64_w, i32_w]
    rfl
  refine done_ (by kernel_rfl) ?_
  clear hHeld s0_ s1_ s2_
  replace HS := HD
  clear HD
  go_wp2_with fail
  (try simp only [Exit.inBlock, Exit.then]); first | refine bodyPost_ret (results_none rfl _ _ _) rfl ?_ | refine bodyPost_end (results_none rfl _ _ _) rfl ?_
  exact ⟨rfl, HS⟩
/-- The words of a line. -/
def segC (cs : List Int) (k : Int) : List Int := [cs.getD (k.toNat * 4 + 0) 0, cs.getD (k.toNat * 4 + 1) 0, cs.getD (k.toNat * 4 + 2) 0, cs.getD (k.toNat * 4 + 3) 0]
/-- The row of a cached line. -/
def lineI (cs : List Int) (b c lo hi : Int → Nat) (k : Int) : Thing × Nat × Nat := (flat (Kd.int .i64) 2 (.slice (some ⟨b k, 0, none⟩) 4 (c k)) (segC cs k), lo k, hi k)
/-- The lines that are cached. -/
structure Keys (K cont : List Int) : Prop where
  nodup : K.Nodup
  mem : ∀ y, y ∈ K ↔ 0 ≤ y ∧ y ∈ cont
def copiesM (K : List Int) (b c : Int → Nat) (k : Int) : Option Value := if k ∈ K then some (.slice (some ⟨b k, 0, none⟩) 4 (c k)) else none
def dirtyM (ds : List Bool) (k : Int) : Option Value := if 0 ≤ k ∧ ds.getD k.toNat false = true then some (.bool true) else none
theorem hold_take {w0 W : World} {L R : List (Thing × Nat × Nat)} {f : Int → Thing × Nat × Nat} {K : List Int} {x : Int} (h : Hold w0 W (L ++ (K.map f ++ R))) (hx : x ∈ K) : Hold w0 W (f x :: (L ++ ((K.erase x).map f ++ R))) := by
  refine h.perm ?_
  have h1 := ((List.perm_cons_erase hx).map f).append_right R
  exact ((h1.append_left L).trans List.perm_middle)
theorem hold_give {w0 W : World} {L R : List (Thing × Nat × Nat)} {f : Int → Thing × Nat × Nat} {K : List Int} {x : Int} (h : Hold w0 W (f x :: (L ++ ((K.erase x).map f ++ R)))) (hx : x ∈ K) : Hold w0 W (L ++ (K.map f ++ R)) := by
  refine h.perm ?_
  have h1 := ((List.perm_cons_erase hx).map f).append_right R
  exact ((h1.append_left L).trans List.perm_middle).symm
theorem hold_drop {w0 W : World} {L R : List (Thing × Nat × Nat)} {f : Int → Thing × Nat × Nat} {K : List Int} {x : Int} (h : Hold w0 W (L ++ (K.map f ++ R))) : Hold w0 W (L ++ ((K.erase x).map f ++ R)) :=
  h.sub (((List.erase_sublist.map f).append_right R).append_left L)
theorem keys_fill {K cont cont' : List Int} {n old : Int} (h : Keys K cont) (hn : 0 ≤ n) (hnc : n ∉ cont) (hm : ∀ y : Int, 0 ≤ y → (y ∈ cont' ↔ y = n ∨ y ∈ cont ∧ y ≠ old)) : Keys (n :: K.erase old) cont' := by
  have h1 : ∀ y, y ∈ K.erase old ↔ y ∈ K ∧ y ≠ old := fun y => by rw [h.nodup.mem_erase_iff]; exact And.comm
  refine ⟨List.nodup_cons.2 ⟨fun hk => hnc ((h.mem n).1 ((h1 n).1 hk).1).2, h.nodup.erase old⟩, fun y => ?_⟩
  rw [List.mem_cons, h1, h.mem]
  constructor
  · rintro (e | ⟨⟨e1, e2⟩, e3⟩)
    · subst e
      exact ⟨hn, (hm y hn).2 (.inl rfl)⟩
    · exact ⟨e1, (hm y e1).2 (.inr ⟨e2, e3⟩)⟩
  · rintro ⟨e1, e2⟩
    rcases (hm y e1).1 e2 with e | ⟨e, e3⟩
    · exact .inl e
    · exact .inr ⟨⟨e1, e⟩, e3⟩
theorem keys_perm {K cont cont' : List Int} (h : Keys K cont) (hp : cont'.Perm cont) : Keys K cont' := ⟨h.nodup, fun y => by rw [h.mem, hp.mem_iff]⟩
theorem segC_copy_other (cs ws : List Int) {n : Nat} {k : Int} (hk : 0 ≤ k) (hne : k ≠ n) : segC (copyN cs ws (n * 4) 4) k = segC cs k := by
  have e : ∀ j, j < 4 → (copyN cs ws (n * 4) 4).getD (k.toNat * 4 + j) 0 = cs.getD (k.toNat * 4 + j) 0 := by
    intro j hj
    have hd : k.toNat ≠ n := by omega
    simp only [copyN, List.getD_eq_getElem?_getD]
    rw [List.getElem?_set_ne (by omega), List.getElem?_set_ne (by omega), List.getElem?_set_ne (by omega), List.getElem?_set_ne (by omega)]
  unfold segC
  rw [e 0 (by omega), e 1 (by omega), e 2 (by omega), e 3 (by omega)]
theorem segC_copy_same (cs ws : List Int) {n : Nat} (hn : n < 16) (hc : cs.length = 64) : segC (copyN cs ws (n * 4) 4) (n : Int) = segC ws (n : Int) := by
  have e : ∀ j, j < 4 → (copyN cs ws (n * 4) 4).getD (n * 4 + j) 0 = ws.getD (n * 4 + j) 0 := by
    intro j hj
    simp only [copyN, List.getD_eq_getElem?_getD]
    match j, hj with
    | 0, _ => rw [List.getElem?_set_ne (by omega), List.getElem?_set_ne (by omega), List.getElem?_set_ne (by omega), List.getElem?_set_self (by omega)]; rfl
    | 1, _ => rw [List.getElem?_set_ne (by omega), List.getElem?_set_ne (by omega), List.getElem?_set_self (by simp; omega)]; rfl
    | 2, _ => rw [List.getElem?_set_ne (by omega), List.getElem?_set_self (by simp; omega)]; rfl
    | 3, _ => rw [List.getElem?_set_self (by simp; omega)]; rfl
  unfold segC
  rw [Int.toNat_natCast, e 0 (by omega), e 1 (by omega), e 2 (by omega), e 3 (by omega)]
theorem segC_set_other (cs : List Int) {a : Nat} {k x : Int} (hk : 0 ≤ k) (hne : k ≠ ((a / 4 : Nat) : Int)) : segC (cs.set a x) k = segC cs k := by
  have e : ∀ j, j < 4 → (cs.set a x).getD (k.toNat * 4 + j) 0 = cs.getD (k.toNat * 4 + j) 0 := by
    intro j hj
    simp only [List.getD_eq_getElem?_getD]
    rw [List.getElem?_set_ne (by omega)]
  unfold segC
  rw [e 0 (by omega), e 1 (by omega), e 2 (by omega), e 3 (by omega)]
theorem segC_set_same (cs : List Int) {a : Nat} {x : Int} (ha : a < cs.length) : segC (cs.set a x) ((a / 4 : Nat) : Int) = (segC cs ((a / 4 : Nat) : Int)).set (a % 4) x := by
  unfold segC
  rw [Int.toNat_natCast]
  have e : ∀ j, j < 4 → (cs.set a x).getD (a / 4 * 4 + j) 0 = if j = a % 4 then x else cs.getD (a / 4 * 4 + j) 0 := by
    intro j hj
    simp only [List.getD_eq_getElem?_getD]
    split
    · rw [show a / 4 * 4 + j = a by omega, List.getElem?_set_self ha]; rfl
    · rw [List.getElem?_set_ne (by omega)]
  rw [e 0 (by omega), e 1 (by omega), e 2 (by omega), e 3 (by omega)]
  have h4 : a % 4 < 4 := Nat.mod_lt _ (by omega)
  generalize a % 4 = r at *
  match r, h4 with
  | 0, _ => rfl
  | 1, _ => rfl
  | 2, _ => rfl
  | 3, _ => rfl
theorem segC_get (cs : List Int) (a : Nat) : (segC cs ((a / 4 : Nat) : Int)).getD (a % 4) 0 = cs.getD a 0 := by
  unfold segC
  rw [Int.toNat_natCast]
  have h4 : a % 4 < 4 := Nat.mod_lt _ (by omega)
  have e : a = a / 4 * 4 + a % 4 := by omega
  conv => rhs; rw [e]
  generalize a % 4 = r at *
  match r, h4 with
  | 0, _ => rfl
  | 1, _ => rfl
  | 2, _ => rfl
  | 3, _ => rfl
set_option maxRecDepth 100000 in
theorem look_dirty {w0 W : World} {L : List (Thing × Nat × Nat)} {D : Int → Option Value} {nd q q' : Nat} {ds : List Bool} (h : Hold w0 W L) (hm : (mapT Try.prog 2 D nd, q, q') ∈ L) (hD : ∀ k, D k = dirtyM ds k) {o : Int} (ho : -1048576 ≤ o ∧ o ≤ 1048576) {dv : Bool} (hdv : decide (0 ≤ o ∧ ds.getD o.toNat false = true) = dv) :
    (Instr.lookup 62 (.map (some q)) (.int .i64 o) false).run Try.prog W = .ok (.bool dv) W := by
  have h1 := h.mlook (t := 62) (e := 4) (z := .bool false) (k := o) hm Try.underlying2 Try.underlying62 (fun _ => rfl) (lit_wf ho)
  rw [h1, hD o, dirtyM]
  cases dv with
  | true => rw [if_pos (of_decide_eq_true hdv)]; rfl
  | false => rw [if_neg (of_decide_eq_false hdv)]; rfl
theorem wpList_del_eq {P : Program} {w : World} {ops : Array Oper} {rest : List Oper} {o : Oper} {a : Act} {Q : Exit → Act → World → Prop} (hgd : o.guard = none) (d s : Operand) (t t' : TypeId)
    (ho : o.op = .call { callee := .builtin .delete, args := #[d, s], argTypes := #[t, t'] }) (v u : Value) (hd : a.eval d = v) (hs : a.eval s = u) {v' : Value} {w' : World}
    (hr : ∀ ty, (Builtin.delete_ #[t, t'] ty #[v, u]).run P w = .ok v' w') (h : wpList P ops Q rest (a.put o.dst v') w') : wpList P ops Q (o :: rest) a w := by
  refine wpList_plain hgd fun K hK => ?_
  unfold Oper.wp execOp
  simp only [ho, resolve, invoke, builtin, Sem.run_bind, Sem.run_pure, Result.andThen_ok, List.map_toArray, List.map_cons, List.map_nil, hd, hs, hr]
  exact hK _ _ h
theorem dirty_del (ws cs : List Int) (ds : List Bool) (old j : Int) : (if j = old then none else dirtyM ds j) = dirtyM (outV ws cs ds old).2.2 j := by
  unfold dirtyM
  by_cases hj : 0 ≤ j
  · have h1 := out_ds ws cs ds old j.toNat
    rw [Int.toNat_of_nonneg hj] at h1
    by_cases e : j = old
    · rw [if_pos e, if_neg (fun h2 => (h1.1 h2.2).2 e)]
    · rw [if_neg e]
      by_cases hd : ds.getD j.toNat false = true
      · rw [if_pos ⟨hj, hd⟩, if_pos ⟨hj, h1.2 ⟨hd, e⟩⟩]
      · rw [if_neg (fun h2 => hd h2.2), if_neg (fun h2 => hd (h1.1 h2.2).1)]
  · have h3 : ∀ x : List Bool, ¬ (0 ≤ j ∧ x.getD j.toNat false = true) := fun x h2 => hj h2.1
    rw [if_neg (h3 _), if_neg (h3 _)]
    split <;> rfl
theorem copies_fill {K : List Int} (hK : K.Nodup) (b c : Int → Nat) (bl cl : Nat) (old n j : Int) : (if j = n then some (Value.slice (some ⟨bl, 0, none⟩) 4 cl) else if j = old then none else copiesM K b c j) = copiesM (n :: K.erase old) (fun k => if k = n then bl else b k) (fun k => if k = n then cl else c k) j := by
  show _ = if j ∈ n :: K.erase old then some (Value.slice (some ⟨if j = n then bl else b j, 0, none⟩) 4 (if j = n then cl else c j)) else none
  unfold copiesM
  have h1 : j ∈ K.erase old ↔ j ∈ K ∧ j ≠ old := by rw [hK.mem_erase_iff]; exact And.comm
  by_cases e : j = n
  · rw [if_pos e, if_pos (by rw [e]; exact List.mem_cons_self), if_pos e, if_pos e]
  · rw [if_neg e, if_neg e, if_neg e]
    by_cases e2 : j = old
    · rw [if_pos e2, if_neg]
      intro h2
      rcases List.mem_cons.1 h2 with h3 | h3
      · exact e h3
      · exact (h1.1 h3).2 e2
    · rw [if_neg e2]
      by_cases h2 : j ∈ K
      · rw [if_pos h2, if_pos (List.mem_cons_of_mem _ (h1.2 ⟨h2, e2⟩))]
      · rw [if_neg h2, if_neg]
        intro h3
        rcases List.mem_cons.1 h3 with h4 | h4
        · exact e h4
        · exact h2 (h1.1 h4).1
theorem C_seg {W : World} {bm n : Nat} {ws : List Int} (h : Kd.C (Kd.int .i64) W (some ⟨bm, 0, none⟩) ws.length ws) (hl : ws.length = 64) (hn : n < 16) : Kd.C (Kd.int .i64) W (some ⟨bm, n * 4, none⟩) (segC ws (n : Int)).length (segC ws (n : Int)) := by
  have h1 := Kd.C_drop (m := n * 4) (c := 64) h (by omega) (by omega)
  rw [if_neg (by omega)] at h1
  have h2 := Kd.C_take (m := 4) h1 (by rw [List.length_drop]; omega)
  have e : (ws.drop (n * 4)).take 4 = segC ws (n : Int) := by
    apply List.ext_getElem
    · rw [List.length_take, List.length_drop]
      show min 4 (ws.length - n * 4) = 4
      omega
    · intro i h3 h4
      rw [List.getElem_take, List.getElem_drop]
      have hi : i < 4 := h4
      unfold segC
      simp only [Int.toNat_natCast]
      match i, hi with
      | 0, _ => exact (getD_lt ws _ 0 (by omega)).symm
      | 1, _ => exact (getD_lt ws _ 0 (by omega)).symm
      | 2, _ => exact (getD_lt ws _ 0 (by omega)).symm
      | 3, _ => exact (getD_lt ws _ 0 (by omega)).symm
  rw [e] at h2
  have e3 : (Option.map (fun x : Addr => x.add (n * 4 * (Kd.int .i64).sz)) (some ⟨bm, 0, none⟩)) = some ⟨bm, n * 4, none⟩ := by
    show some ((⟨bm, 0, none⟩ : Addr).add (n * 4 * 1)) = _
    rw [add_plain]
    first | rfl | (congr 2; omega)
  rw [e3] at h2
  exact h2
/-- The run's object: its block, and all that it leads to. At most j lines are in a map. -/
def ImplAt (w0 w : World) (R : List (Thing × Nat × Nat)) (g bm cm lm hm p q m : Nat) (A0 : Option Addr) (c0 n0 : Nat) (A1 : Option Addr) (c1 n1 : Nat) (back al : Bool) (fl : Int) (j : Nat) (s : CacheV) : Prop :=
  ∃ (bk kc lk hk : Nat) (V : Option Addr) (vc lv hv : Nat) (K : List Int) (b c lo hi : Int → Nat) (M D : Int → Option Value) (mn dn : Nat), (Keys K s.cont ∧ (∀ k, M k = copiesM K b c k) ∧ (∀ k, D k = dirtyM s.ds k) ∧ mn ≤ j ∧ dn ≤ j) ∧
    Hold w0 w ((boxT #[.slice A0 n0 c0, .slice A1 n1 c1, .bool back, .bool al, .slice (some ⟨bm, 0, none⟩) 64 cm, .slice V s.rd.length vc, .slice (some ⟨bk, 0, none⟩) m kc, .map (some p), .map (some q), .int .i64 s.h, .int .i64 s.m, .int .i64 s.i, .int .i64 s.o, .int .i64 fl] 64, g, g + 1) :: (flat (Kd.int .i64) 2 (.slice (some ⟨bm, 0, none⟩) 64 cm) s.ws, lm, hm) :: (flat (Kd.int .i64) 2 (.slice (some ⟨bk, 0, none⟩) m kc) s.cont, lk, hk) :: (flat (Kd.int .i64) 2 (.slice V s.rd.length vc) s.rd, lv, hv) :: (mapT Try.prog 2 M mn, p, p + 1) :: (mapT Try.prog 2 D dn, q, q + 1) :: (K.map (lineI s.cs b c lo hi) ++ R))
theorem segC_small (cs : List Int) (k : Int) : (segC cs k).length ≤ 1048576 := by
  rw [show (segC cs k).length = 4 from rfl]
  decide
theorem lines_fill {K : List Int} {n : Nat} (hK : ∀ k ∈ K, 0 ≤ k ∧ k ≠ (n : Int)) (cs ws : List Int) (b c lo hi : Int → Nat) (bl cl ll hl : Nat) (hn : n < 16) (hcs : cs.length = 64) :
    ((flat (Kd.int .i64) 2 (.slice (some ⟨bl, 0, none⟩) 4 cl) (segC ws (n : Int)), ll, hl) :: K.map (lineI cs b c lo hi)) = ((n : Int) :: K).map (lineI (copyN cs ws (n * 4) 4) (fun k => if k = (n : Int) then bl else b k) (fun k => if k = (n : Int) then cl else c k) (fun k => if k = (n : Int) then ll else lo k) (fun k => if k = (n : Int) then hl else hi k)) := by
  rw [List.map_cons]
  congr 1
  · unfold lineI
    simp only [if_true, segC_copy_same cs ws hn hcs]
  · refine List.map_congr_left (fun k hk => ?_)
    obtain ⟨h0, h1⟩ := hK k hk
    unfold lineI
    simp only [if_neg h1, segC_copy_other cs ws h0 h1]
theorem getD_memI (l : List Int) (i : Nat) (z : Int) (h : i < l.length) : l.getD i z ∈ l := by rw [getD_lt l i z h]; exact List.getElem_mem h
theorem out_not {ws cs : List Int} {ds : List Bool} {old o1 : Int} {ws1 : List Int} {ds1 : List Bool} (h : outV ws cs ds old = (o1, ws1, ds1)) (hd : ¬ (0 ≤ old ∧ ds.getD old.toNat false = true)) : o1 = 0 ∧ ws1 = ws ∧ ds1 = ds := by
  unfold outV at h
  by_cases h0 : old < 0
  · rw [if_pos h0] at h
    cases h
    exact ⟨rfl, rfl, rfl⟩
  · rw [if_neg h0, if_neg (fun k => hd ⟨by omega, k⟩)] at h
    cases h
    exact ⟨rfl, rfl, rfl⟩
theorem out_yes {ws cs : List Int} {ds : List Bool} {ol : Nat} {o1 : Int} {ws1 : List Int} {ds1 : List Bool} (h : outV ws cs ds (ol : Int) = (o1, ws1, ds1)) (hd : ds.getD ol false = true) : o1 = 4 ∧ ws1 = put4 ws (ol * 4) (cs.getD (ol * 4 + 0) 0) (cs.getD (ol * 4 + 1) 0) (cs.getD (ol * 4 + 2) 0) (cs.getD (ol * 4 + 3) 0) := by
  unfold outV at h
  rw [if_neg (by omega), Int.toNat_natCast, if_pos hd] at h
  cases h
  exact ⟨rfl, rfl⟩
theorem cut_w {n cm : Nat} {ws : List Int} (h : n < 16) (hc : ws.length ≤ cm) (hl : ws.length = 64) : wrap64 ((n : Int) * 4) = (n : Int) * 4 ∧ wrap64 ((n : Int) + 1) = (n : Int) + 1 ∧ wrap64 (((n : Int) + 1) * 4) = ((n : Int) + 1) * 4 ∧ (0 : Int) ≤ (n : Int) * 4 ∧ (n : Int) * 4 ≤ ((n : Int) + 1) * 4 ∧ ((n : Int) + 1) * 4 ≤ (cm : Int) ∧ ((n : Int) * 4).toNat = n * 4 ∧ (((n : Int) + 1) * 4).toNat = n * 4 + 4 ∧ ¬ cm = n * 4 ∧ (0 : Int) ≤ ((n : Int) + 1) * 4 ∧ (n : Int) * 4 ≤ (n : Int) * 4 + 4 :=
  ⟨wrap_id (by omega) (by omega), wrap_id (by omega) (by omega), wrap_id (by omega) (by omega), by omega, by omega, by omega, by omega, by omega, by omega, by omega, by omega⟩
set_option maxRecDepth 100000 in
theorem del_at {w0 W : World} {L : List (Thing × Nat × Nat)} {D : Int → Option Value} {nd q q' TT e : Nat} {old : Int} (h : Hold w0 W L) (hm : (mapT Try.prog 2 D nd, q, q') ∈ L) (hK : Try.prog.underlying 2 = some (.int .i64)) (ht : Try.prog.underlying TT = some (.map 2 e)) (hw : (Lit.int .i64 old).wf = true) :
    ∃ W', (∀ ty, (Builtin.delete_ #[TT, 2] ty #[.map (some q), .int .i64 old]).run Try.prog W = .ok (.tuple #[]) W') ∧ ∀ L', Sw (mapT Try.prog 2 D nd, q, q') (mapT Try.prog 2 (fun j => if j = old then none else D j) (if (D old).isSome then nd - 1 else nd), q, q') L L' → Hold w0 W' L' := by
  obtain ⟨W', h1, h2⟩ := h.mdel (t := TT) (e := e) hm hK ht hw 0
  exact ⟨W', fun ty => h1, h2⟩
set_option maxHeartbeats 4000000 in
set_option maxRecDepth 100000 in
theorem ifill_calls {w0 w : World} {R : List (Thing × Nat × Nat)} {g bm cm lm hm p q m : Nat} {A0 : Option Addr} {c0 : Nat} {l0 : List (List Int)} {A1 : Option Addr} {c1 : Nat} {l1 : List Int} {back al : Bool} {fl : Int} {j : Nat} {s : CacheV} {n : Nat} (h : ImplAt w0 w R g bm cm lm hm p q m A0 c0 l0.length A1 c1 l1.length back al fl j s) (hr0 : Kd.C (Kd.slice 2 (Kd.int .i64)) w0 A0 l0.length l0) (hc0 : l0.length ≤ c0) (hr1 : Kd.C (Kd.int .i64) w0 A1 l1.length l1) (hc1 : l1.length ≤ c1) (hval : validB l0 l1 = true) (hlm : l1.length = m) (hok : s.Ok m) (hfin : s.Fine) (hbnd : (0 ≤ s.h ∧ s.h ≤ 1000) ∧ (0 ≤ s.m ∧ s.m ≤ 1000) ∧ (0 ≤ s.i ∧ s.i ≤ 1000) ∧ (0 ≤ s.o ∧ s.o ≤ 1000) ∧ s.rd.length ≤ 1000 ∧ j ≤ 1000) (hn : n < 16) (hnc : (n : Int) ∉ s.cont) :
    Calls Try.prog 72 #[.pointer (some ⟨g, 0, none⟩), .int .i64 n] w fun e w' => e = .returned (.tuple #[]) ∧ ImplAt w0 w' R g bm cm lm hm p q m A0 c0 l0.length A1 c1 l1.length back al fl (j + 1) (fillC l0 l1 n s) := by
  obtain ⟨bk, kc, lk, hk, V, vc, lv, hv, K, b, c, lo, hi, M, D, mn, dn, ⟨hK, hM, hD, hmn, hdn⟩, HS⟩ := h
  have HR0 := Aside0.mk hr0
  have HC0 := Aside0.mk hc0
  have HR1 := Aside0.mk hr1
  have HC1 := Aside0.mk hc1
  have HVL := Aside0.mk hval
  have HLM := Aside0.mk hlm
  have HOK := Aside0.mk hok
  have HFN := Aside0.mk hfin
  have HBD := Aside0.mk hbnd
  have HK := Aside0.mk hK
  have HM := Aside0.mk hM
  have HD_ := Aside0.mk hD
  have HMN := Aside0.mk hmn
  have HDN := Aside0.mk hdn
  have HN := Aside0.mk hn
  have HNC := Aside0.mk hnc
  clear hr0 hc0 hr1 hc1 hval hlm hok hfin hbnd hK hM hD hmn hdn hn hnc
  have hn0 : (0 : Int) ≤ n := Int.natCast_nonneg n
  obtain ⟨old, hold⟩ : ∃ old, s.cont.getD (s.cont.length - 1) 0 = old := ⟨_, rfl⟩
  have HOLD := Aside0.mk hold
  have HCM := Aside0.mk (HS.reads' (List.mem_cons_of_mem _ (List.mem_cons_of_mem _ List.mem_cons_self))).1
  have HM1 : Aside0 (1 ≤ m ∧ m ≤ 6) := ⟨by have h1 := valid_facts HVL.out; have h2 := HLM.out; omega⟩
  have HO16 : Aside0 (-1 ≤ old ∧ old < 16) := ⟨by rw [← hold]; exact HOK.out.lines _ (getD_memI s.cont _ 0 (by have := HOK.out.cont; have := HM1.out; omega))⟩
  have HG : Aside0 (goneV s.cont (n : Int) = old) := ⟨by unfold goneV; rw [if_neg (fun k => HNC.out ((ageOf_mem _ _).1 k)), hold]⟩
  clear hold
  have EV := Aside0.mk (implStepG_ev HVL.out s.cont (HOK.out.cont.trans HLM.out.symm) (n : Int))
  rw [HG.out] at EV
  have HSL := Aside0.mk ((stepV_length HVL.out s.cont (HOK.out.cont.trans HLM.out.symm) (n : Int)).trans HLM.out)
  go_enter Try.func72, Try.ntmps72
  go_upto_region 0 with fail
  have HD := Hold.drew HS
  refine start_ (n := 18) (S := fun w' => w'.cell? ⟨g, 0, none⟩ = some (.slice A0 l0.length c0) ∧ w'.cell? ⟨g, 1, none⟩ = some (.slice A1 l1.length c1) ∧ w'.cell? ⟨g, 6, none⟩ = some (.slice (some ⟨bk, 0, none⟩) m kc)) (ds := []) #[false, false, false, false, false, false, false, false, false, false, false, false, false, false, false, false, false, false] (by kernel_rfl) rfl rfl ⟨(HD.cell List.mem_cons_self 0 _ rfl), (HD.cell List.mem_cons_self 1 _ rfl), (HD.cell List.mem_cons_self 6 _ rfl)⟩ (fun hHeld => ?_)
  generalize w.drew = wd at HD hHeld ⊢
  refine pure_ (i := 0) (N := some 8) (v := ?_) (a' := ?_) #[true, false, false, false, false, false, false, false, false, false, false, false, false, false, false, false, false, false] rfl rfl (by kernel_rfl) (fun _ _ _ h => h) (Or.inl ⟨by rfl, ?_⟩) ?_ ?_
  rotate_left
  · intro w'
    go_simp
    with_reducible rfl
  rotate_left
  · simp only [Act.put, List.setIfInBounds_toArray, List.set_cons_zero, List.set_cons_succ, i64_w, i32_w]
    rfl
  refine pure_ (i := 1) (N := some 9) (v := ?_) (a' := ?_) #[true, true, false, false, false, false, false, false, false, false, false, false, false, false, false, false, false, false] rfl rfl (by kernel_rfl) (fun _ _ _ h => h) (Or.inl ⟨by rfl, ?_⟩) ?_ ?_
  rotate_left
  · intro w'
    go_simp
    with_reducible rfl
  rotate_left
  · simp only [Act.put, List.setIfInBounds_toArray, List.set_cons_zero, List.set_cons_succ, i64_w, i32_w]
    rfl
  refine pure_ (i := 2) (N := some 10) (v := ?_) (a' := ?_) #[true, true, true, false, false, false, false, false, false, false, false, false, false, false, false, false, false, false] rfl rfl (by kernel_rfl) (fun _ _ _ h => h) (Or.inl ⟨by rfl, ?_⟩) ?_ ?_
  rotate_left
  · intro w'
    go_simp
    with_reducible rfl
  rotate_left
  · simp only [Act.put, List.setIfInBounds_toArray, List.set_cons_zero, List.set_cons_succ, i64_w, i32_w]
    rfl
  refine pure_ (i := 3) (N := some 11) (v := ?_) (a' := ?_) #[true, true, true, true, false, false, false, false, false, false, false, false, false, false, false, false, false, false] rfl rfl (by kernel_rfl) (fun _ _ _ h => h) (Or.inl ⟨by rfl, ?_⟩) ?_ ?_
  rotate_left
  · intro w'
    go_simp
    with_reducible rfl
  rotate_left
  · simp only [Act.put, List.setIfInBounds_toArray, List.set_cons_zero, List.set_cons_succ, i64_w, i32_w]
    rfl
  refine pure_ (i := 5) (N := some 13) (v := ?_) (a' := ?_) #[true, true, true, true, false, true, false, false, false, false, false, false, false, false, false, false, false, false] rfl rfl (by kernel_rfl) (fun _ _ _ h => h) (Or.inl ⟨by rfl, ?_⟩) ?_ ?_
  rotate_left
  · intro w'
    go_simp
    with_reducible rfl
  rotate_left
  · simp only [Act.put, List.setIfInBounds_toArray, List.set_cons_zero, List.set_cons_succ, i64_w, i32_w]
    rfl
  refine pure_ (i := 6) (N := some 14) (v := ?_) (a' := ?_) #[true, true, true, true, false, true, true, false, false, false, false, false, false, false, false, false, false, false] rfl rfl (by kernel_rfl) (fun _ _ _ h => h) (Or.inl ⟨by rfl, ?_⟩) ?_ ?_
  rotate_left
  · intro w'
    go_simp
    with_reducible rfl
  rotate_left
  · simp only [Act.put, List.setIfInBounds_toArray, List.set_cons_zero, List.set_cons_succ, i64_w, i32_w]
    rfl
  refine pure_ (i := 7) (N := some 15) (v := ?_) (a' := ?_) #[true, true, true, true, false, true, true, true, false, false, false, false, false, false, false, false, false, false] rfl rfl (by kernel_rfl) (fun _ _ _ h => h) (Or.inl ⟨by rfl, ?_⟩) ?_ ?_
  rotate_left
  · intro w'
    go_simp
    with_reducible rfl
  rotate_left
  · simp only [Act.put, List.setIfInBounds_toArray, List.set_cons_zero, List.set_cons_succ, i64_w, i32_w]
    rfl
  refine pure_ (i := 9) (N := some 17) (v := ?_) (a' := ?_) #[true, true, true, true, false, true, true, true, false, true, false, false, false, false, false, false, false, false] rfl rfl (by kernel_rfl) (fun _ _ _ h => h) (Or.inl ⟨by rfl, ?_⟩) ?_ ?_
  rotate_left
  · intro w'
    go_simp
    with_reducible rfl
  rotate_left
  · simp only [Act.put, List.setIfInBounds_toArray, List.set_cons_zero, List.set_cons_succ, i64_w, i32_w]
    rfl
  refine take_ (i := 4) (N := some 12) (v := ?_) (a' := ?_) #[true, true, true, true, true, true, true, true, false, true, false, false, false, false, false, false, false, false] rfl rfl (by kernel_rfl) (fun _ _ _ h => h) (Or.inl ⟨by rfl, ?_⟩) hHeld ?_ ?_
  rotate_left
  · rintro w' ⟨s0, s1, s2⟩
    go_simp
    with_reducible rfl
  rotate_left
  · simp only [Act.put, List.setIfInBounds_toArray, List.set_cons_zero, List.set_cons_succ, i64_w, i32_w]
    rfl
  refine take_ (i := 8) (N := some 16) (v := ?_) (a' := ?_) #[true, true, true, true, true, true, true, true, true, true, false, false, false, false, false, false, false, false] rfl rfl (by kernel_rfl) (fun _ _ _ h => h) (Or.inl ⟨by rfl, ?_⟩) hHeld ?_ ?_
  rotate_left
  · rintro w' ⟨s0, s1, s2⟩
    go_simp
    with_reducible rfl
  rotate_left
  · simp only [Act.put, List.setIfInBounds_toArray, List.set_cons_zero, List.set_cons_succ, i64_w, i32_w]
    rfl
  refine one_ (i := 10) (N := some 18) #[true, true, true, true, true, true, true, true, true, true, true, false, false, false, false, false, false, false] rfl rfl (by kernel_rfl) (by decide) (fun K hK => ?_)
  refine goes_ Try.func71 (by kernel_rfl) rfl #[.agg #[.slice A0 l0.length c0, .slice A1 l1.length c1], .slice (some ⟨bk, 0, none⟩) m kc, .int .i64 n] (by rfl) rfl rfl (by simp only [List.map_toArray, List.map_cons, List.map_nil]; rfl) ?_
  with_reducible refine (show Calls _ _ #[.agg #[.slice A0 l0.length c0, .slice A1 l1.length c1], .slice (some ⟨bk, 0, none⟩) m kc, .int .i64 n] _ _ from HCM.out ▸ impl_Policy_step.calls (Ev.num EV.out) A0 c0 l0 A1 c1 l1 (some ⟨bk, 0, none⟩) kc s.cont (n : Int) (stepV l0 l1 s.cont n).1 old (stepV l0 l1 s.cont n).2 _ (Kd.C_below HR0.out HD.below) HC0.out (Kd.C_below HR1.out HD.below) HC1.out (HD.reads' (List.mem_cons_of_mem _ (List.mem_cons_of_mem _ List.mem_cons_self))).2.2 (HD.reads' (List.mem_cons_of_mem _ (List.mem_cons_of_mem _ List.mem_cons_self))).2.1 (Ev.is EV.out)).mono ?_
  rintro e w1 ⟨v_, rfl, hr, hb⟩
  refine ⟨_, rfl, ?_⟩
  replace HD := HD.made hb hr
  clear hb hr
  obtain ⟨bk2, kc2, rfl, _, _⟩ := HD.row_form List.mem_cons_self (by rw [HSL.out]; have := HM1.out; omega)
  rw [HSL.out] at HD ⊢
  have s0_ : w1.cell? ⟨g, 0, none⟩ = some (.slice A0 l0.length c0) := HD.cell (List.mem_cons_of_mem _ List.mem_cons_self) 0 _ rfl
  have s1_ : w1.cell? ⟨g, 1, none⟩ = some (.slice A1 l1.length c1) := HD.cell (List.mem_cons_of_mem _ List.mem_cons_self) 1 _ rfl
  have s2_ : w1.cell? ⟨g, 6, none⟩ = some (.slice (some ⟨bk, 0, none⟩) m kc) := HD.cell (List.mem_cons_of_mem _ List.mem_cons_self) 6 _ rfl
  refine hK.out _ _ ⟨s0_, s1_, s2_⟩ (fun hHeld => ?_)
  clear hK K
  refine norm_ (a' := ?_) ?_ ?_
  rotate_left
  · show Act.put _ (some 18) _ = _
    simp only [Act.put, List.setIfInBounds_toArray, List.set_cons_zero, List.set_cons_succ, i64_w, i32_w]
    rfl
  refine pure_ (i := 11) (N := some 7) (v := ?_) (a' := ?_) #[true, true, true, true, true, true, true, true, true, true, true, true, false, false, false, false, false, false] rfl rfl (by kernel_rfl) (fun _ _ _ h => h) (Or.inl ⟨by rfl, ?_⟩) ?_ ?_
  rotate_left
  · intro w'
    go_simp
    with_reducible rfl
  rotate_left
  · simp only [Act.put, List.setIfInBounds_toArray, List.set_cons_zero, List.set_cons_succ, i64_w, i32_w]
    rfl
  refine pure_ (i := 12) (N := some 19) (v := ?_) (a' := ?_) #[true, true, true, true, true, true, true, true, true, true, true, true, true, false, false, false, false, false] rfl rfl (by kernel_rfl) (fun _ _ _ h => h) (Or.inl ⟨by rfl, ?_⟩) ?_ ?_
  rotate_left
  · intro w'
    go_simp
    with_reducible rfl
  rotate_left
  · simp only [Act.put, List.setIfInBounds_toArray, List.set_cons_zero, List.set_cons_succ, i64_w, i32_w]
    rfl
  refine pure_ (i := 13) (N := some 20) (v := ?_) (a' := ?_) #[true, true, true, true, true, true, true, true, true, true, true, true, true, true, false, false, false, false] rfl rfl (by kernel_rfl) (fun _ _ _ h => h) (Or.inl ⟨by rfl, ?_⟩) ?_ ?_
  rotate_left
  · intro w'
    go_simp
    with_reducible rfl
  rotate_left
  · simp only [Act.put, List.setIfInBounds_toArray, List.set_cons_zero, List.set_cons_succ, i64_w, i32_w]
    rfl
  refine pure_ (i := 14) (N := some 21) (v := ?_) (a' := ?_) #[true, true, true, true, true, true, true, true, true, true, true, true, true, true, true, false, false, false] rfl rfl (by kernel_rfl) (fun _ _ _ h => h) (Or.inl ⟨by rfl, ?_⟩) ?_ ?_
  rotate_left
  · intro w'
    go_simp
    with_reducible rfl
  rotate_left
  · simp only [Act.put, List.setIfInBounds_toArray, List.set_cons_zero, List.set_cons_succ, i64_w, i32_w]
    rfl
  refine pure_ (i := 15) (N := some 4) (v := ?_) (a' := ?_) #[true, true, true, true, true, true, true, true, true, true, true, true, true, true, true, true, false, false] rfl rfl (by kernel_rfl) (fun _ _ _ h => h) (Or.inl ⟨by rfl, ?_⟩) ?_ ?_
  rotate_left
  · intro w'
    go_simp
    with_reducible rfl
  rotate_left
  · simp only [Act.put, List.setIfInBounds_toArray, List.set_cons_zero, List.set_cons_succ, i64_w, i32_w]
    rfl
  refine pure_ (i := 16) (N := some 5) (v := ?_) (a' := ?_) #[true, true, true, true, true, true, true, true, true, true, true, true, true, true, true, true, true, false] rfl rfl (by kernel_rfl) (fun _ _ _ h => h) (Or.inl ⟨by rfl, ?_⟩) ?_ ?_
  rotate_left
  · intro w'
    go_simp
    with_reducible rfl
  rotate_left
  · simp only [Act.put, List.setIfInBounds_toArray, List.set_cons_zero, List.set_cons_succ, i64_w, i32_w]
    rfl
  refine pure_ (i := 17) (N := some 6) (v := ?_) (a' := ?_) #[true, true, true, true, true, true, true, true, true, true, true, true, true, true, true, true, true, true] rfl rfl (by kernel_rfl) (fun _ _ _ h => h) (Or.inl ⟨by rfl, ?_⟩) ?_ ?_
  rotate_left
  · intro w'
    go_simp
    with_reducible rfl
  rotate_left
  · simp only [Act.put, List.setIfInBounds_toArray, List.set_cons_zero, List.set_cons_succ, i64_w, i32_w]
    rfl
  refine done_ (by kernel_rfl) ?_
  clear hHeld s0_ s1_ s2_
  replace HS := HD
  clear HD
  have q6 : w1.cell? ⟨g, 6, none⟩ = some (.slice (some ⟨bk, 0, none⟩) m kc) := HS.cell (List.mem_cons_of_mem _ List.mem_cons_self) 6 _ rfl
  have fzq : ∀ j, w1.frozen? ⟨g, j, none⟩ = false := HS.thaw (List.mem_cons_of_mem _ List.mem_cons_self)
  go_upto_region 2 with fail
  clear q6 fzq
  replace HS := HS.setBox 6 (.slice (some ⟨bk2, 0, none⟩) m kc2) (.there .here)
  simp only [List.setIfInBounds_toArray, List.set_cons_zero, List.set_cons_succ] at HS
  generalize w1.setCell ⟨g, 6, none⟩ (.slice (some ⟨bk2, 0, none⟩) m kc2) = w2 at HS ⊢
  replace HS := HS.pick (.there (.there (.there .here)))
  replace HS := HS.tail
  replace HS := HS.pick (.there (.there (.there (.there (.there .here)))))
  replace HS := HS.pick (.there (.there (.there (.there (.there .here)))))
  replace HS := HS.pick (.there (.there (.there (.there (.there .here)))))
  replace HS := HS.pick (.there (.there (.there .here)))
  replace HS := HS.pick (.there (.there (.there (.there (.there .here)))))
  replace HS := HS.pick (.there (.there (.there (.there (.there .here)))))
  generalize wd.heap.size = lk2 at HS
  generalize w1.heap.size = hk2 at HS
  obtain ⟨dv, hdv⟩ : ∃ dv, decide (0 ≤ old ∧ s.ds.getD old.toNat false = true) = dv := ⟨_, rfl⟩
  have HDV := Aside0.mk hdv
  clear hdv
  obtain ⟨o1, ws1, ds1, hov⟩ : ∃ o1 ws1 ds1, outV s.ws s.cs s.ds old = (o1, ws1, ds1) := ⟨_, _, _, rfl⟩
  have HOV := Aside0.mk hov
  clear hov
  have lk1 := look_dirty HS (List.mem_cons_of_mem _ (List.mem_cons_of_mem _ (List.mem_cons_of_mem _ (List.mem_cons_of_mem _ (List.mem_cons_of_mem _ List.mem_cons_self))))) HD_.out (o := old) (by have := HO16.out; omega) HDV.out
  have q8 : w2.cell? ⟨g, 8, none⟩ = some (.map (some q)) := HS.cell List.mem_cons_self 8 _ rfl
  go_upto_if 31 with fail
  clear q8 lk1
  go_cut [] (fun wc => Aside0 (Hold w0 wc ((boxT #[.slice A0 l0.length c0, .slice A1 l1.length c1, .bool back, .bool al, .slice (some ⟨bm, 0, none⟩) 64 cm, .slice V s.rd.length vc, .slice (some ⟨bk2, 0, none⟩) m kc2, .map (some p), .map (some q), .int .i64 s.h, .int .i64 s.m, .int .i64 s.i, .int .i64 (s.o + o1), .int .i64 fl] 64, g, g + 1) :: (flat (Kd.int .i64) 2 (.slice (some ⟨bm, 0, none⟩) 64 cm) ws1, lm, hm) :: (flat (Kd.int .i64) 2 (.slice (some ⟨bk2, 0, none⟩) m kc2) ((stepV l0 l1 s.cont n).1), lk2, hk2) :: (flat (Kd.int .i64) 2 (.slice V s.rd.length vc) s.rd, lv, hv) :: (mapT Try.prog 2 M mn, p, p + 1) :: (mapT Try.prog 2 D dn, q, q + 1) :: ((K.erase old).map (lineI s.cs b c lo hi) ++ R))))
  case first =>
    cases dv
    · have HQ := hold_drop (x := old) (L := [(boxT #[.slice A0 l0.length c0, .slice A1 l1.length c1, .bool back, .bool al, .slice (some ⟨bm, 0, none⟩) 64 cm, .slice V s.rd.length vc, .slice (some ⟨bk2, 0, none⟩) m kc2, .map (some p), .map (some q), .int .i64 s.h, .int .i64 s.m, .int .i64 s.i, .int .i64 s.o, .int .i64 fl] 64, g, g + 1), (flat (Kd.int .i64) 2 (.slice (some ⟨bm, 0, none⟩) 64 cm) s.ws, lm, hm), (flat (Kd.int .i64) 2 (.slice (some ⟨bk2, 0, none⟩) m kc2) ((stepV l0 l1 s.cont n).1), lk2, hk2), (flat (Kd.int .i64) 2 (.slice V s.rd.length vc) s.rd, lv, hv), (mapT Try.prog 2 M mn, p, p + 1), (mapT Try.prog 2 D dn, q, q + 1)]) HS
      go_wp2_with fail
      go_meet
      obtain ⟨rfl, rfl, rfl⟩ : o1 = 0 ∧ ws1 = s.ws ∧ ds1 = s.ds := out_not HOV.out (of_decide_eq_false HDV.out)
      exact ⟨by rw [Int.add_zero]; exact HQ⟩
    · obtain ⟨ho0, hod⟩ := of_decide_eq_true HDV.out
      obtain ⟨ol, rfl⟩ : ∃ ol : Nat, old = (ol : Int) := ⟨old.toNat, by omega⟩
      rw [Int.toNat_natCast] at hod
      have HOD := Aside0.mk hod
      have HKO : Aside0 ((ol : Int) ∈ K) := ⟨(HK.out.mem _).2 ⟨ho0, HFN.out.held ol hod⟩⟩
      clear ho0 hod
      replace HS := hold_take (L := [(boxT #[.slice A0 l0.length c0, .slice A1 l1.length c1, .bool back, .bool al, .slice (some ⟨bm, 0, none⟩) 64 cm, .slice V s.rd.length vc, .slice (some ⟨bk2, 0, none⟩) m kc2, .map (some p), .map (some q), .int .i64 s.h, .int .i64 s.m, .int .i64 s.i, .int .i64 s.o, .int .i64 fl] 64, g, g + 1), (flat (Kd.int .i64) 2 (.slice (some ⟨bm, 0, none⟩) 64 cm) s.ws, lm, hm), (flat (Kd.int .i64) 2 (.slice (some ⟨bk2, 0, none⟩) m kc2) ((stepV l0 l1 s.cont n).1), lk2, hk2), (flat (Kd.int .i64) 2 (.slice V s.rd.length vc) s.rd, lv, hv), (mapT Try.prog 2 M mn, p, p + 1), (mapT Try.prog 2 D dn, q, q + 1)]) HS HKO.out
      change Hold w0 w2 ((flat (Kd.int .i64) 2 (.slice (some ⟨(b ol), 0, none⟩) 4 (c ol)) ([s.cs.getD (ol * 4 + 0) 0, s.cs.getD (ol * 4 + 1) 0, s.cs.getD (ol * 4 + 2) 0, s.cs.getD (ol * 4 + 3) 0]), (lo ol), (hi ol)) :: (boxT #[.slice A0 l0.length c0, .slice A1 l1.length c1, .bool back, .bool al, .slice (some ⟨bm, 0, none⟩) 64 cm, .slice V s.rd.length vc, .slice (some ⟨bk2, 0, none⟩) m kc2, .map (some p), .map (some q), .int .i64 s.h, .int .i64 s.m, .int .i64 s.i, .int .i64 s.o, .int .i64 fl] 64, g, g + 1) :: (flat (Kd.int .i64) 2 (.slice (some ⟨bm, 0, none⟩) 64 cm) s.ws, lm, hm) :: (flat (Kd.int .i64) 2 (.slice (some ⟨bk2, 0, none⟩) m kc2) ((stepV l0 l1 s.cont n).1), lk2, hk2) :: (flat (Kd.int .i64) 2 (.slice V s.rd.length vc) s.rd, lv, hv) :: (mapT Try.prog 2 M mn, p, p + 1) :: (mapT Try.prog 2 D dn, q, q + 1) :: ((K.erase (ol : Int)).map (lineI s.cs b c lo hi) ++ R)) at HS
      replace HS := HS.pick (.there (.there (.there (.there (.there .here)))))
      replace HS := HS.pick (.there (.there (.there .here)))
      replace HS := HS.pick (.there (.there (.there .here)))
      go_wp2_with fail
      refine (put_calls (n := ol) (by have := HO16.out; omega) (by rw [HM.out]; exact if_pos HKO.out) HS).mono ?_
      clear HS
      rintro e w3 ⟨rfl, HS⟩
      replace HS := HS.pick (.there (.there (.there .here)))
      replace HS := HS.tail
      replace HS := HS.pick (.there (.there (.there (.there (.there .here)))))
      replace HS := HS.pick (.there (.there (.there .here)))
      replace HS := HS.pick (.there (.there (.there (.there (.there .here)))))
      replace HS := HS.pick (.there (.there (.there (.there (.there .here)))))
      replace HS := HS.pick (.there (.there (.there (.there (.there .here)))))
      replace HS := HS.pick (.there (.there (.there (.there (.there .here)))))
      obtain ⟨rfl, rfl⟩ : o1 = 4 ∧ ws1 = put4 s.ws (ol * 4) (s.cs.getD (ol * 4 + 0) 0) (s.cs.getD (ol * 4 + 1) 0) (s.cs.getD (ol * 4 + 2) 0) (s.cs.getD (ol * 4 + 3) 0) := out_yes HOV.out HOD.out
      have q12 : w3.cell? ⟨g, 12, none⟩ = some (.int .i64 s.o) := HS.cell List.mem_cons_self 12 _ rfl
      have fzq : ∀ j, w3.frozen? ⟨g, j, none⟩ = false := HS.thaw List.mem_cons_self
      have y1 := HBD.out.2.2.2.1.1
      have y2 := HBD.out.2.2.2.1.2
      go_wp2_with fail
      clear y1 y2 q12 fzq
      replace HS := HS.setBox 12 (.int .i64 (s.o + 4)) .here
      simp only [List.setIfInBounds_toArray, List.set_cons_zero, List.set_cons_succ] at HS
      generalize w3.setCell ⟨g, 12, none⟩ (.int .i64 (s.o + 4)) = w4 at HS ⊢
      go_wp2_with fail
      go_meet
      exact ⟨HS⟩
  case rest =>
  clear HS
  have HS := hcut.out
  obtain ⟨wa, rfl⟩ : ∃ x, x = wc := ⟨_, rfl⟩
  clear hcut
  have q8 : wa.cell? ⟨g, 8, none⟩ = some (.map (some q)) := HS.cell List.mem_cons_self 8 _ rfl
  obtain ⟨wb, hdel, HQ⟩ := (show ∃ W', (∀ ty, (Builtin.delete_ #[62, 2] ty #[.map (some q), .int .i64 old]).run Try.prog wa = .ok (.tuple #[]) W') ∧ _ from del_at HS (List.mem_cons_of_mem _ (List.mem_cons_of_mem _ (List.mem_cons_of_mem _ (List.mem_cons_of_mem _ (List.mem_cons_of_mem _ List.mem_cons_self))))) Try.underlying2 Try.underlying62 (lit_wf (by have := HO16.out; omega)))
  go_upto_region 6 with ((at_builtin; refine wpList_del_eq rfl (.tmp 47) (.tmp 48) 62 2 rfl _ _ rfl rfl hdel ?_))
  replace HS := HQ _ (.there (.there (.there (.there (.there .here)))))
  clear HQ hdel q8
  have q7 : wb.cell? ⟨g, 7, none⟩ = some (.map (some p)) := HS.cell List.mem_cons_self 7 _ rfl
  obtain ⟨wd_, hdel, HQ⟩ := (show ∃ W', (∀ ty, (Builtin.delete_ #[61, 2] ty #[.map (some p), .int .i64 old]).run Try.prog wb = .ok (.tuple #[]) W') ∧ _ from del_at HS (List.mem_cons_of_mem _ (List.mem_cons_of_mem _ (List.mem_cons_of_mem _ (List.mem_cons_of_mem _ List.mem_cons_self)))) Try.underlying2 Try.underlying61 (lit_wf (by have := HO16.out; omega)))
  go_upto_region 7 with ((at_builtin; refine wpList_del_eq rfl (.tmp 52) (.tmp 53) 61 2 rfl _ _ rfl rfl hdel ?_))
  replace HS := HQ _ (.there (.there (.there (.there .here))))
  clear HQ hdel q7
  obtain ⟨t1, t2, t3, t4, t5, t6, t7, t8, t9, t10, t11⟩ := cut_w HN.out (HS.reads' (List.mem_cons_of_mem _ List.mem_cons_self)).2.1 (HS.reads' (List.mem_cons_of_mem _ List.mem_cons_self)).1.symm
  have HW64 := Aside0.mk (HS.reads' (List.mem_cons_of_mem _ List.mem_cons_self)).1.symm
  have HWC := Aside0.mk (HS.reads' (List.mem_cons_of_mem _ List.mem_cons_self)).2.1
  have HD := Hold.drew HS
  refine start_ (n := 17) (S := fun w' => w'.cell? ⟨g, 7, none⟩ = some (.map (some p)) ∧ w'.cell? ⟨g, 4, none⟩ = some (.slice (some ⟨bm, 0, none⟩) 64 cm)) (ds := []) #[false, false, false, false, false, false, false, false, false, false, false, false, false, false, false, false, false] (by kernel_rfl) rfl rfl ⟨(HD.cell List.mem_cons_self 7 _ rfl), (HD.cell List.mem_cons_self 4 _ rfl)⟩ (fun hHeld => ?_)
  generalize wd_.drew = wd at HD hHeld ⊢
  refine pure_ (i := 0) (N := some 54) (v := ?_) (a' := ?_) #[true, false, false, false, false, false, false, false, false, false, false, false, false, false, false, false, false] rfl rfl (by kernel_rfl) (fun _ _ _ h => h) (Or.inl ⟨by rfl, ?_⟩) ?_ ?_
  rotate_left
  · intro w'
    go_simp
    with_reducible rfl
  rotate_left
  · simp only [Act.put, List.setIfInBounds_toArray, List.set_cons_zero, List.set_cons_succ, i64_w, i32_w]
    rfl
  refine pure_ (i := 1) (N := some 55) (v := ?_) (a' := ?_) #[true, true, false, false, false, false, false, false, false, false, false, false, false, false, false, false, false] rfl rfl (by kernel_rfl) (fun _ _ _ h => h) (Or.inl ⟨by rfl, ?_⟩) ?_ ?_
  rotate_left
  · intro w'
    go_simp
    with_reducible rfl
  rotate_left
  · simp only [Act.put, List.setIfInBounds_toArray, List.set_cons_zero, List.set_cons_succ, i64_w, i32_w]
    rfl
  refine pure_ (i := 2) (N := some 56) (v := ?_) (a' := ?_) #[true, true, true, false, false, false, false, false, false, false, false, false, false, false, false, false, false] rfl rfl (by kernel_rfl) (fun _ _ _ h => h) (Or.inl ⟨by rfl, ?_⟩) ?_ ?_
  rotate_left
  · intro w'
    go_simp
    with_reducible rfl
  rotate_left
  · simp only [Act.put, List.setIfInBounds_toArray, List.set_cons_zero, List.set_cons_succ, i64_w, i32_w]
    rfl
  refine pure_ (i := 4) (N := some 58) (v := ?_) (a' := ?_) #[true, true, true, false, true, false, false, false, false, false, false, false, false, false, false, false, false] rfl rfl (by kernel_rfl) (fun _ _ _ h => h) (Or.inl ⟨by rfl, ?_⟩) ?_ ?_
  rotate_left
  · intro w'
    go_simp
    with_reducible rfl
  rotate_left
  · simp only [Act.put, List.setIfInBounds_toArray, List.set_cons_zero, List.set_cons_succ, i64_w, i32_w]
    rfl
  refine pure_ (i := 5) (N := some 59) (v := ?_) (a' := ?_) #[true, true, true, false, true, true, false, false, false, false, false, false, false, false, false, false, false] rfl rfl (by kernel_rfl) (fun _ _ _ h => h) (Or.inl ⟨by rfl, ?_⟩) ?_ ?_
  rotate_left
  · intro w'
    go_simp
    with_reducible rfl
  rotate_left
  · simp only [Act.put, List.setIfInBounds_toArray, List.set_cons_zero, List.set_cons_succ, i64_w, i32_w]
    rfl
  refine pure_ (i := 6) (N := some 60) (v := ?_) (a' := ?_) #[true, true, true, false, true, true, true, false, false, false, false, false, false, false, false, false, false] rfl rfl (by kernel_rfl) (fun _ _ _ h => h) (Or.inl ⟨by rfl, ?_⟩) ?_ ?_
  rotate_left
  · intro w'
    go_simp
    with_reducible rfl
  rotate_left
  · simp only [Act.put, List.setIfInBounds_toArray, List.set_cons_zero, List.set_cons_succ, i64_w, i32_w]
    rfl
  refine pure_ (i := 7) (N := some 61) (v := ?_) (a' := ?_) #[true, true, true, false, true, true, true, true, false, false, false, false, false, false, false, false, false] rfl rfl (by kernel_rfl) (fun _ _ _ h => h) (Or.inl ⟨by rfl, ?_⟩) ?_ ?_
  rotate_left
  · intro w'
    go_simp
    with_reducible rfl
  rotate_left
  · simp only [Act.put, List.setIfInBounds_toArray, List.set_cons_zero, List.set_cons_succ, i64_w, i32_w]
    rfl
  refine pure_ (i := 9) (N := some 63) (v := ?_) (a' := ?_) #[true, true, true, false, true, true, true, true, false, true, false, false, false, false, false, false, false] rfl rfl (by kernel_rfl) (fun _ _ _ h => h) (Or.inl ⟨by rfl, ?_⟩) ?_ ?_
  rotate_left
  · intro w'
    go_simp
    with_reducible rfl
  rotate_left
  · simp only [Act.put, List.setIfInBounds_toArray, List.set_cons_zero, List.set_cons_succ, i64_w, i32_w]
    rfl
  refine pure_ (i := 10) (N := some 64) (v := ?_) (a' := ?_) #[true, true, true, false, true, true, true, true, false, true, true, false, false, false, false, false, false] rfl rfl (by kernel_rfl) (fun _ _ _ h => h) (Or.inl ⟨by rfl, ?_⟩) ?_ ?_
  rotate_left
  · intro w'
    go_simp
    with_reducible rfl
  rotate_left
  · simp only [Act.put, List.setIfInBounds_toArray, List.set_cons_zero, List.set_cons_succ, i64_w, i32_w]
    rfl
  refine pure_ (i := 11) (N := some 65) (v := ?_) (a' := ?_) #[true, true, true, false, true, true, true, true, false, true, true, true, false, false, false, false, false] rfl rfl (by kernel_rfl) (fun _ _ _ h => h) (Or.inl ⟨by rfl, ?_⟩) ?_ ?_
  rotate_left
  · intro w'
    go_simp
    with_reducible rfl
  rotate_left
  · simp only [Act.put, List.setIfInBounds_toArray, List.set_cons_zero, List.set_cons_succ, i64_w, i32_w]
    rfl
  refine pure_ (i := 12) (N := some 66) (v := ?_) (a' := ?_) #[true, true, true, false, true, true, true, true, false, true, true, true, true, false, false, false, false] rfl rfl (by kernel_rfl) (fun _ _ _ h => h) (Or.inl ⟨by rfl, ?_⟩) ?_ ?_
  rotate_left
  · intro w'
    go_simp
    with_reducible rfl
  rotate_left
  · simp only [Act.put, List.setIfInBounds_toArray, List.set_cons_zero, List.set_cons_succ, i64_w, i32_w]
    rfl
  refine pure_ (i := 13) (N := some 67) (v := ?_) (a' := ?_) #[true, true, true, false, true, true, true, true, false, true, true, true, true, true, false, false, false] rfl rfl (by kernel_rfl) (fun _ _ _ h => h) (Or.inl ⟨by rfl, ?_⟩) ?_ ?_
  rotate_left
  · intro w'
    go_simp
    with_reducible rfl
  rotate_left
  · simp only [Act.put, List.setIfInBounds_toArray, List.set_cons_zero, List.set_cons_succ, i64_w, i32_w]
    rfl
  refine take_ (i := 3) (N := some 57) (v := ?_) (a' := ?_) #[true, true, true, true, true, true, true, true, false, true, true, true, true, true, false, false, false] rfl rfl (by kernel_rfl) (fun _ _ _ h => h) (Or.inl ⟨by rfl, ?_⟩) hHeld ?_ ?_
  rotate_left
  · rintro w' ⟨s0, s1⟩
    go_simp
    with_reducible rfl
  rotate_left
  · simp only [Act.put, List.setIfInBounds_toArray, List.set_cons_zero, List.set_cons_succ, i64_w, i32_w]
    rfl
  refine take_ (i := 8) (N := some 62) (v := ?_) (a' := ?_) #[true, true, true, true, true, true, true, true, true, true, true, true, true, true, false, false, false] rfl rfl (by kernel_rfl) (fun _ _ _ h => h) (Or.inl ⟨by rfl, ?_⟩) hHeld ?_ ?_
  rotate_left
  · rintro w' ⟨s0, s1⟩
    go_simp
    with_reducible rfl
  rotate_left
  · simp only [Act.put, List.setIfInBounds_toArray, List.set_cons_zero, List.set_cons_succ, i64_w, i32_w]
    rfl
  refine pure_ (i := 14) (N := some 68) (v := ?_) (a' := ?_) #[true, true, true, true, true, true, true, true, true, true, true, true, true, true, true, false, false] rfl rfl (by kernel_rfl) (fun _ _ _ h => h) (Or.inl ⟨by rfl, ?_⟩) ?_ ?_
  rotate_left
  · intro w'
    go_simp
    with_reducible rfl
  rotate_left
  · simp only [Act.put, List.setIfInBounds_toArray, List.set_cons_zero, List.set_cons_succ, i64_w, i32_w]
    rfl
  refine one_ (i := 15) (N := some 69) #[true, true, true, true, true, true, true, true, true, true, true, true, true, true, true, true, false] rfl rfl (by kernel_rfl) (by decide) (fun K hK => ?_)
  refine goes_ Try.func92 (by kernel_rfl) rfl #[.slice (some ⟨bm, n * 4, none⟩) 4 (cm - n * 4)] (by rfl) rfl rfl (by simp only [List.map_toArray, List.map_cons, List.map_nil]; rfl) ?_
  with_reducible refine (show Calls _ _ #[.slice (some ⟨bm, n * 4, none⟩) 4 (cm - n * 4)] _ _ from slices_Clone_int64_int64.calls (some ⟨bm, n * 4, none⟩) (cm - n * 4) (segC ws1 (n : Int)) (segC ws1 (n : Int)) _ (C_seg (HD.reads' (List.mem_cons_of_mem _ List.mem_cons_self)).2.2 HW64.out HN.out) (show 4 ≤ _ by have := HWC.out; have := HW64.out; have := HN.out; omega) (by unfold slices_Clone_int64_int64.f; exact if_pos (segC_small ws1 _))).mono ?_
  rintro e we ⟨v_, rfl, hr, hb⟩
  refine ⟨_, rfl, ?_⟩
  replace HD := HD.made hb hr
  clear hb hr
  obtain ⟨bl, cl, rfl, _, _⟩ := HD.row_form List.mem_cons_self (show 0 < 4 by decide)
  rw [show (segC ws1 (n : Int)).length = 4 from rfl] at HD ⊢
  have s0_ : we.cell? ⟨g, 7, none⟩ = some (.map (some p)) := HD.cell (List.mem_cons_of_mem _ List.mem_cons_self) 7 _ rfl
  have s1_ : we.cell? ⟨g, 4, none⟩ = some (.slice (some ⟨bm, 0, none⟩) 64 cm) := HD.cell (List.mem_cons_of_mem _ List.mem_cons_self) 4 _ rfl
  refine hK.out _ _ ⟨s0_, s1_⟩ (fun hHeld => ?_)
  clear hK K
  refine norm_ (a' := ?_) ?_ ?_
  rotate_left
  · show Act.put _ (some 69) _ = _
    simp only [Act.put, List.setIfInBounds_toArray, List.set_cons_zero, List.set_cons_succ, i64_w, i32_w]
    rfl
  refine one_ (i := 16) (N := none) #[true, true, true, true, true, true, true, true, true, true, true, true, true, true, true, true, true] rfl rfl (by kernel_rfl) (by decide) (fun K hK => ?_)
  clear s0_ s1_
  obtain ⟨wf, hput, HQ⟩ := HD.mput (t := 61) (e := 25) (List.mem_cons_of_mem _ (List.mem_cons_of_mem _ (List.mem_cons_of_mem _ (List.mem_cons_of_mem _ (List.mem_cons_of_mem _ List.mem_cons_self))))) Try.underlying2 Try.underlying61 (by have := HMN.out; have := HBD.out; split <;> omega) (k := (n : Int)) (lit_wf (by have := HN.out; omega)) (.slice (some ⟨bl, 0, none⟩) 4 cl)
  refine skip_ (w1 := wf) (by rfl) rfl ?_ ?_
  · go_simp
  replace HD := HQ _ (.there (.there (.there (.there (.there .here)))))
  clear HQ hput
  have s0_ : wf.cell? ⟨g, 7, none⟩ = some (.map (some p)) := HD.cell (List.mem_cons_of_mem _ List.mem_cons_self) 7 _ rfl
  have s1_ : wf.cell? ⟨g, 4, none⟩ = some (.slice (some ⟨bm, 0, none⟩) 64 cm) := HD.cell (List.mem_cons_of_mem _ List.mem_cons_self) 4 _ rfl
  refine hK.out _ _ ⟨s0_, s1_⟩ (fun hHeld => ?_)
  clear hK K
  refine done_ (by kernel_rfl) ?_
  clear hHeld s0_ s1_
  replace HS := HD
  clear HD
  clear t1 t2 t3 t4 t5 t6 t7 t8 t9 t10 t11
  have y1 := HBD.out.2.2.1.1
  have y2 := HBD.out.2.2.1.2
  have q11 : wf.cell? ⟨g, 11, none⟩ = some (.int .i64 s.i) := HS.cell (List.mem_cons_of_mem _ List.mem_cons_self) 11 _ rfl
  have fzq : ∀ j, wf.frozen? ⟨g, j, none⟩ = false := HS.thaw (List.mem_cons_of_mem _ List.mem_cons_self)
  go_wp2_with fail
  clear y1 y2 q11 fzq
  replace HS := HS.setBox 11 (.int .i64 (s.i + 4)) (.there .here)
  simp only [List.setIfInBounds_toArray, List.set_cons_zero, List.set_cons_succ] at HS
  generalize wf.setCell ⟨g, 11, none⟩ (.int .i64 (s.i + 4)) = wg at HS ⊢
  replace HS := HS.pick (.there (.there (.there (.there (.there (.there .here))))))
  replace HS := HS.pick (.there (.there (.there (.there (.there (.there .here))))))
  replace HS := HS.pick (.there (.there (.there (.there (.there (.there .here))))))
  replace HS := HS.pick (.there (.there (.there (.there (.there (.there .here))))))
  replace HS := HS.pick (.there (.there (.there (.there (.there (.there .here))))))
  replace HS := HS.pick (.there (.there (.there (.there (.there (.there .here))))))
  (try simp only [Exit.inBlock, Exit.then]); first | refine bodyPost_ret (results_none rfl _ _ _) rfl ?_ | refine bodyPost_end (results_none rfl _ _ _) rfl ?_
  refine ⟨rfl, ?_⟩
  have HF : fillC l0 l1 n s = { s with ws := ws1, ds := ds1, cs := copyN s.cs ws1 (n * 4) 4, o := s.o + o1, i := s.i + 4, cont := (stepV l0 l1 s.cont n).1 } := by unfold fillC; rw [HOLD.out, HOV.out]
  have HX := (fill_fine HVL.out (HOK.out.cont.trans HLM.out.symm) HFN.out HNC.out).2.2
  rw [HOLD.out, HF] at HX
  rw [HF]
  have HMEM : ∀ k ∈ K.erase old, 0 ≤ k ∧ k ≠ (n : Int) := fun k hk => by
    have h1 := (HK.out.mem k).1 (List.mem_of_mem_erase hk)
    exact ⟨h1.1, fun e => HNC.out (e ▸ h1.2)⟩
  rw [← List.cons_append, lines_fill HMEM s.cs ws1 b c lo hi bl cl _ _ HN.out HOK.out.cs] at HS
  refine ⟨bk2, kc2, lk2, hk2, V, vc, lv, hv, (n : Int) :: K.erase old, (fun k => if k = (n : Int) then bl else b k), (fun k => if k = (n : Int) then cl else c k), (fun k => if k = (n : Int) then _ else lo k), (fun k => if k = (n : Int) then _ else hi k), _, _, _, _, ⟨keys_fill HK.out hn0 HNC.out HX, fun k => ?_, fun k => ?_, ?_, ?_⟩, HS⟩
  · have h := copies_fill HK.out.nodup b c bl cl old (n : Int) k
    rw [← HM.out k] at h
    exact h
  · have h := dirty_del s.ws s.cs s.ds old k
    rw [← HD_.out k, HOV.out] at h
    exact h
  · have := HMN.out
    repeat' split
    all_goals omega
  · have := HDN.out
    split
    all_goals omega
theorem contains_evC (l : List Int) (x : Int) (h : l.length ≤ 1048576) : Ev (fun k => slices_Contains_int64_int64.f k l x) (l.any fun y => decide (y = x)) := by
  unfold slices_Contains_int64_int64.f
  refine Ev.bind (xInIdx_ev l x h) (Ev.some ?_)
  rw [← xIdx_nonneg (fun y => decide (y = x)) l 0 (Int.le_refl _)]
theorem hold_back {w0 W : World} {L A R : List (Thing × Nat × Nat)} {x : Thing × Nat × Nat} (h : Hold w0 W (x :: (L ++ (A ++ R)))) : Hold w0 W (L ++ (A ++ x :: R)) := by
  refine h.perm ?_
  rw [← List.append_assoc, ← List.append_assoc]
  exact List.perm_middle.symm
theorem ImplAt.less {w0 w : World} {x : Thing × Nat × Nat} {R : List (Thing × Nat × Nat)} {g bm cm lm hm p q m : Nat} {A0 : Option Addr} {c0 n0 : Nat} {A1 : Option Addr} {c1 n1 : Nat} {back al : Bool} {fl : Int} {j : Nat} {s : CacheV} (h : ImplAt w0 w (x :: R) g bm cm lm hm p q m A0 c0 n0 A1 c1 n1 back al fl j s) : ImplAt w0 w R g bm cm lm hm p q m A0 c0 n0 A1 c1 n1 back al fl j s := by
  obtain ⟨bk, kc, lk, hk, V, vc, lv, hv, K, b, c, lo, hi, M, D, mn, dn, hh, HS⟩ := h
  refine ⟨bk, kc, lk, hk, V, vc, lv, hv, K, b, c, lo, hi, M, D, mn, dn, hh, HS.sub ?_⟩
  repeat' apply List.Sublist.cons_cons
  exact (List.sublist_cons_self x R).append_left _
theorem bnd_m {s : CacheV} {j : Nat} (h : (0 ≤ s.h ∧ s.h ≤ 1000) ∧ (0 ≤ s.m ∧ s.m ≤ 900) ∧ (0 ≤ s.i ∧ s.i ≤ 1000) ∧ (0 ≤ s.o ∧ s.o ≤ 1000) ∧ s.rd.length ≤ 1000 ∧ j ≤ 1000) : (0 ≤ s.h ∧ s.h ≤ 1000) ∧ (0 ≤ s.m + 1 ∧ s.m + 1 ≤ 1000) ∧ (0 ≤ s.i ∧ s.i ≤ 1000) ∧ (0 ≤ s.o ∧ s.o ≤ 1000) ∧ s.rd.length ≤ 1000 ∧ j ≤ 1000 := ⟨h.1, ⟨by omega, by omega⟩, h.2.2⟩
theorem lines_set {K : List Int} {n a pl : Nat} (hK : ∀ k ∈ K, 0 ≤ k ∧ k ≠ (n : Int)) (cs : List Int) (b c lo hi : Int → Nat) (hn : n = a / 4) (hp : pl = a % 4) (ha : a < cs.length) (v : Int) :
    K.map (lineI cs b c lo hi) = K.map (lineI (cs.set a v) b c lo hi) ∧ ((flat (Kd.int .i64) 2 (.slice (some ⟨b n, 0, none⟩) 4 (c n)) ((segC cs (n : Int)).set pl v), lo n, hi n) : Thing × Nat × Nat) = lineI (cs.set a v) b c lo hi (n : Int) := by
  subst hn hp
  refine ⟨List.map_congr_left (fun k hk => ?_), ?_⟩
  · obtain ⟨h0, h1⟩ := hK k hk
    unfold lineI
    rw [segC_set_other cs h0 h1]
  · unfold lineI
    rw [segC_set_same cs ha]
theorem dirty_put {ds : List Bool} {n : Nat} (hd : ds.length = 16) (hn : n < 16) (j : Int) : (if j = (n : Int) then some (Value.bool true) else dirtyM ds j) = dirtyM (ds.set n true) j := by
  unfold dirtyM
  by_cases e : j = (n : Int)
  · subst e
    rw [if_pos rfl, if_pos]
    exact ⟨Int.natCast_nonneg n, by rw [Int.toNat_natCast, List.getD_eq_getElem?_getD, List.getElem?_set_self (by omega)]; rfl⟩
  · rw [if_neg e]
    by_cases hj : 0 ≤ j
    · have : (ds.set n true).getD j.toNat false = ds.getD j.toNat false := by rw [List.getD_eq_getElem?_getD, List.getElem?_set_ne (by omega), List.getD_eq_getElem?_getD]
      rw [this]
    · have h3 : ∀ x : List Bool, ¬ (0 ≤ j ∧ x.getD j.toNat false = true) := fun x h2 => hj h2.1
      rw [if_neg (h3 _), if_neg (h3 _)]
theorem writeC_thru {k a : Nat} {s : CacheV} : writeC false k a s = { s with cs := s.cs.set a ((k : Int) + 1), ws := s.ws.set a ((k : Int) + 1), o := s.o + 1 } := rfl
theorem writeC_back {n k a : Nat} {s : CacheV} (hn : n = a / 4) : writeC true k a s = { s with cs := s.cs.set a ((k : Int) + 1), ds := s.ds.set n true } := by
  subst hn
  rfl
set_option maxHeartbeats 4000000 in
set_option maxRecDepth 100000 in
theorem access_calls {w0 w : World} {R : List (Thing × Nat × Nat)} {g bm cm lm hm p q_ m : Nat} {A0 : Option Addr} {c0 : Nat} {l0 : List (List Int)} {A1 : Option Addr} {c1 : Nat} {l1 : List Int} {back al : Bool} {fl : Int} {j : Nat} {s : CacheV} {a k : Nat} {q v : Int} (h : ImplAt w0 w R g bm cm lm hm p q_ m A0 c0 l0.length A1 c1 l1.length back al fl j s) (hr0 : Kd.C (Kd.slice 2 (Kd.int .i64)) w0 A0 l0.length l0) (hc0 : l0.length ≤ c0) (hr1 : Kd.C (Kd.int .i64) w0 A1 l1.length l1) (hc1 : l1.length ≤ c1) (hval : validB l0 l1 = true) (hlm : l1.length = m) (hok : s.Ok m) (hfin : s.Fine) (hbnd : (0 ≤ s.h ∧ s.h ≤ 1000) ∧ (0 ≤ s.m ∧ s.m ≤ 900) ∧ (0 ≤ s.i ∧ s.i ≤ 1000) ∧ (0 ≤ s.o ∧ s.o ≤ 1000) ∧ s.rd.length ≤ 1000 ∧ j ≤ 1000) (ha : a < 64) (hq : q = 0 ∨ q = 1) (hval2 : v = (k : Int) + 1) :
    Calls Try.prog 42 #[.pointer (some ⟨g, 0, none⟩), .agg #[.int .i64 q, .int .i64 (a : Int)], .int .i64 v] w fun e w' => e = .returned (.tuple #[]) ∧ ImplAt w0 w' R g bm cm lm hm p q_ m A0 c0 l0.length A1 c1 l1.length back al fl (j + 2) (accessC l0 l1 back al k q a s) := by
  obtain ⟨bk, kc, lk, hk, V, vc, lv, hv, K, b, c, lo, hi, M, D, mn, dn, ⟨hK, hM, hD, hmn, hdn⟩, HS⟩ := h
  have HR0 := Aside0.mk hr0
  have HC0 := Aside0.mk hc0
  have HR1 := Aside0.mk hr1
  have HC1 := Aside0.mk hc1
  have HVL := Aside0.mk hval
  have HLM := Aside0.mk hlm
  have HOK := Aside0.mk hok
  have HFN := Aside0.mk hfin
  have HBD := Aside0.mk hbnd
  have HK := Aside0.mk hK
  have HM := Aside0.mk hM
  have HD_ := Aside0.mk hD
  have HMN := Aside0.mk hmn
  have HDN := Aside0.mk hdn
  have HAL := Aside0.mk ha
  have HQ01 := Aside0.mk hq
  have HVAL := Aside0.mk hval2
  clear hr0 hc0 hr1 hc1 hval hlm hok hfin hbnd hK hM hD hmn hdn ha hq hval2
  have HSB := HS.box #[.int .i64 q, .int .i64 (a : Int)] 37
  replace HS := hold_back (L := [(boxT #[.slice A0 l0.length c0, .slice A1 l1.length c1, .bool back, .bool al, .slice (some ⟨bm, 0, none⟩) 64 cm, .slice V s.rd.length vc, .slice (some ⟨bk, 0, none⟩) m kc, .map (some p), .map (some q_), .int .i64 s.h, .int .i64 s.m, .int .i64 s.i, .int .i64 s.o, .int .i64 fl] 64, g, g + 1), (flat (Kd.int .i64) 2 (.slice (some ⟨bm, 0, none⟩) 64 cm) s.ws, lm, hm), (flat (Kd.int .i64) 2 (.slice (some ⟨bk, 0, none⟩) m kc) s.cont, lk, hk), (flat (Kd.int .i64) 2 (.slice V s.rd.length vc) s.rd, lv, hv), (mapT Try.prog 2 M mn, p, p + 1), (mapT Try.prog 2 D dn, q_, q_ + 1)]) HSB
  clear HSB
  obtain ⟨n, hn⟩ : ∃ n, n = a / 4 := ⟨_, rfl⟩
  obtain ⟨pl, hp⟩ : ∃ pl, pl = a % 4 := ⟨_, rfl⟩
  have HN := Aside0.mk hn
  have HP := Aside0.mk hp
  have hn0 : (0 : Int) ≤ n := Int.natCast_nonneg n
  have hn1 : (n : Int) < 16 := by have := HAL.out; omega
  have hp0 : (0 : Int) ≤ pl := Int.natCast_nonneg pl
  have hp1 : (pl : Int) < 4 := by omega
  have ha0 : (0 : Int) ≤ a := Int.natCast_nonneg a
  have ha1 : (a : Int) < 64 := Int.ofNat_lt.2 HAL.out
  have hdv : (a : Int) / 4 = (n : Int) := by omega
  have hmd : (a : Int).tmod 4 = (pl : Int) := by rw [Int.tmod_eq_emod_of_nonneg ha0]; omega
  have hwn : wrap64 (n : Int) = (n : Int) := wrap_id (by omega) (by omega)
  clear hn hp
  obtain ⟨e1, he1⟩ : ∃ e1, (q == 1) = e1 := ⟨_, rfl⟩
  have HE1 := Aside0.mk he1
  obtain ⟨bb, hbb⟩ : ∃ bb, (s.cont.any fun y => decide (y = (n : Int))) = bb := ⟨_, rfl⟩
  have HBB := Aside0.mk hbb
  clear hbb
  have HCM := Aside0.mk (HS.reads' (List.mem_cons_of_mem _ (List.mem_cons_of_mem _ List.mem_cons_self))).1
  have HM1 : Aside0 (1 ≤ m ∧ m ≤ 6) := ⟨by have h1 := valid_facts HVL.out; have h2 := HLM.out; omega⟩
  have HCT : Aside0 (s.cont.length = l1.length) := ⟨HOK.out.cont.trans HLM.out.symm⟩
  have EV := Aside0.mk (contains_evC s.cont (n : Int) (by have := HCM.out; have := HM1.out; omega))
  rw [HBB.out] at EV
  go_enter Try.func42, Try.ntmps42
  go_upto_region 1 with fail
  generalize w.alloc (.cells #[.int .i64 q, .int .i64 (a : Int)] 37) = wA at HS ⊢
  generalize w.heap.size = xb at HS ⊢
  change Hold w0 wA ((boxT #[.slice A0 l0.length c0, .slice A1 l1.length c1, .bool back, .bool al, .slice (some ⟨bm, 0, none⟩) 64 cm, .slice V s.rd.length vc, .slice (some ⟨bk, 0, none⟩) m kc, .map (some p), .map (some q_), .int .i64 s.h, .int .i64 s.m, .int .i64 s.i, .int .i64 s.o, .int .i64 fl] 64, g, g + 1) :: (flat (Kd.int .i64) 2 (.slice (some ⟨bm, 0, none⟩) 64 cm) s.ws, lm, hm) :: (flat (Kd.int .i64) 2 (.slice (some ⟨bk, 0, none⟩) m kc) s.cont, lk, hk) :: (flat (Kd.int .i64) 2 (.slice V s.rd.length vc) s.rd, lv, hv) :: (mapT Try.prog 2 M mn, p, p + 1) :: (mapT Try.prog 2 D dn, q_, q_ + 1) :: (K.map (lineI s.cs b c lo hi) ++ (boxT #[.int .i64 q, .int .i64 a] 37, xb, xb + 1) :: R)) at HS
  have HD := Hold.drew HS
  refine start_ (n := 8) (S := fun w' => w'.cell? ⟨xb, 1, none⟩ = some (.int .i64 (a : Int))) (ds := []) #[false, false, false, false, false, false, false, false] (by kernel_rfl) rfl rfl ((HD.cell (List.mem_cons_of_mem _ (List.mem_cons_of_mem _ (List.mem_cons_of_mem _ (List.mem_cons_of_mem _ (List.mem_cons_of_mem _ (List.mem_cons_of_mem _ (List.mem_append_right _ List.mem_cons_self))))))) 1 _ rfl)) (fun hHeld => ?_)
  generalize wA.drew = wd at HD hHeld ⊢
  refine pure_ (i := 0) (N := some 8) (v := ?_) (a' := ?_) #[true, false, false, false, false, false, false, false] rfl rfl (by kernel_rfl) (fun _ _ _ h => h) (Or.inl ⟨by rfl, ?_⟩) ?_ ?_
  rotate_left
  · intro w'
    go_simp
    with_reducible rfl
  rotate_left
  · simp only [Act.put, List.setIfInBounds_toArray, List.set_cons_zero, List.set_cons_succ, i64_w, i32_w]
    rfl
  refine pure_ (i := 3) (N := some 11) (v := ?_) (a' := ?_) #[true, false, false, true, false, false, false, false] rfl rfl (by kernel_rfl) (fun _ _ _ h => h) (Or.inl ⟨by rfl, ?_⟩) ?_ ?_
  rotate_left
  · intro w'
    go_simp
    with_reducible rfl
  rotate_left
  · simp only [Act.put, List.setIfInBounds_toArray, List.set_cons_zero, List.set_cons_succ, i64_w, i32_w]
    rfl
  refine take_ (i := 1) (N := some 9) (v := ?_) (a' := ?_) #[true, true, false, true, false, false, false, false] rfl rfl (by kernel_rfl) (fun _ _ _ h => h) (Or.inl ⟨by rfl, ?_⟩) hHeld ?_ ?_
  rotate_left
  · intro w' s0
    go_simp
    with_reducible rfl
  rotate_left
  · simp only [Act.put, List.setIfInBounds_toArray, List.set_cons_zero, List.set_cons_succ, i64_w, i32_w]
    rfl
  refine pure_ (i := 2) (N := some 10) (v := ?_) (a' := ?_) #[true, true, true, true, false, false, false, false] rfl rfl (by kernel_rfl) (fun _ _ _ h => h) (Or.inl ⟨by rfl, ?_⟩) ?_ ?_
  rotate_left
  · intro w'
    go_simp
    with_reducible rfl
  rotate_left
  · simp only [Act.put, List.setIfInBounds_toArray, List.set_cons_zero, List.set_cons_succ, i64_w, i32_w]
    rfl
  refine pure_ (i := 6) (N := some 6) (v := ?_) (a' := ?_) #[true, true, true, true, false, false, true, false] rfl rfl (by kernel_rfl) (fun _ _ _ h => h) (Or.inl ⟨by rfl, ?_⟩) ?_ ?_
  rotate_left
  · intro w'
    go_simp
    with_reducible rfl
  rotate_left
  · simp only [Act.put, List.setIfInBounds_toArray, List.set_cons_zero, List.set_cons_succ, i64_w, i32_w]
    rfl
  refine take_ (i := 4) (N := some 12) (v := ?_) (a' := ?_) #[true, true, true, true, true, false, true, false] rfl rfl (by kernel_rfl) (fun _ _ _ h => h) (Or.inl ⟨by rfl, ?_⟩) hHeld ?_ ?_
  rotate_left
  · intro w' s0
    go_simp
    with_reducible rfl
  rotate_left
  · simp only [Act.put, List.setIfInBounds_toArray, List.set_cons_zero, List.set_cons_succ, i64_w, i32_w]
    rfl
  refine pure_ (i := 5) (N := some 13) (v := ?_) (a' := ?_) #[true, true, true, true, true, true, true, false] rfl rfl (by kernel_rfl) (fun _ _ _ h => h) (Or.inl ⟨by rfl, ?_⟩) ?_ ?_
  rotate_left
  · intro w'
    go_simp
    with_reducible rfl
  rotate_left
  · simp only [Act.put, List.setIfInBounds_toArray, List.set_cons_zero, List.set_cons_succ, i64_w, i32_w]
    rfl
  refine pure_ (i := 7) (N := some 7) (v := ?_) (a' := ?_) #[true, true, true, true, true, true, true, true] rfl rfl (by kernel_rfl) (fun _ _ _ h => h) (Or.inl ⟨by rfl, ?_⟩) ?_ ?_
  rotate_left
  · intro w'
    go_simp
    with_reducible rfl
  rotate_left
  · simp only [Act.put, List.setIfInBounds_toArray, List.set_cons_zero, List.set_cons_succ, i64_w, i32_w]
    rfl
  refine done_ (by kernel_rfl) ?_
  clear hHeld
  replace HS := HD
  clear HD
  clear hdv hmd hwn
  have q6 : wd.cell? ⟨g, 6, none⟩ = some (.slice (some ⟨bk, 0, none⟩) m kc) := HS.cell List.mem_cons_self 6 _ rfl
  go_wp2_with fail
  clear q6
  refine (show Calls _ _ #[.slice (some ⟨bk, 0, none⟩) m kc, .int .i64 n] _ _ from HCM.out ▸ slices_Contains_int64_int64.calls (Ev.num EV.out) _ kc s.cont n bb _ (HS.reads' (List.mem_cons_of_mem _ (List.mem_cons_of_mem _ List.mem_cons_self))).2.2 (HS.reads' (List.mem_cons_of_mem _ (List.mem_cons_of_mem _ List.mem_cons_self))).2.1 (Ev.is EV.out)).mono ?_
  rintro e w1 ⟨rfl, hb⟩
  clear EV
  replace HS := HS.step (by first | exact hb | exact hb.below)
  clear hb
  go_upto_if 19 with fail
  go_cut [] (fun wc => Aside0 (ImplAt w0 wc ((boxT #[.int .i64 q, .int .i64 a] 37, xb, xb + 1) :: R) g bm cm lm hm p q_ m A0 c0 l0.length A1 c1 l1.length back al fl (j + 1) (enterC l0 l1 n s)) ∧ Aside0 (bb = true ∨ e1 = false ∨ al = true))
  case first =>
    cases bb
    · cases e1
      · have y1 := HBD.out.2.1.1
        have y2 := HBD.out.2.1.2
        have q10 : w1.cell? ⟨g, 10, none⟩ = some (.int .i64 s.m) := HS.cell List.mem_cons_self 10 _ rfl
        have fzq : ∀ j, w1.frozen? ⟨g, j, none⟩ = false := HS.thaw List.mem_cons_self
        go_upto_region 6 with fail
        clear y1 y2 q10 fzq
        replace HS := HS.setBox 10 (.int .i64 (s.m + 1)) .here
        simp only [List.setIfInBounds_toArray, List.set_cons_zero, List.set_cons_succ] at HS
        generalize w1.setCell ⟨g, 10, none⟩ (.int .i64 (s.m + 1)) = w2 at HS ⊢
        have x0 : w2.cell? ⟨xb, 0, none⟩ = some (.int .i64 q) := HS.cell (List.mem_cons_of_mem _ (List.mem_cons_of_mem _ (List.mem_cons_of_mem _ (List.mem_cons_of_mem _ (List.mem_cons_of_mem _ (List.mem_cons_of_mem _ (List.mem_append_right _ List.mem_cons_self))))))) 0 _ rfl
        have q3 : w2.cell? ⟨g, 3, none⟩ = some (.bool al) := HS.cell List.mem_cons_self 3 _ rfl
        go_wp2_with fail
        clear x0 q3
        have HNM : Aside0 ((n : Int) ∉ s.cont) := ⟨fun k => by have h1 := (any_mem s.cont n).2 k; rw [HBB.out] at h1; cases h1⟩
        refine (ifill_calls (s := { s with m := s.m + 1 }) (n := n) ⟨bk, kc, lk, hk, V, vc, lv, hv, K, b, c, lo, hi, M, D, mn, dn, ⟨HK.out, HM.out, HD_.out, HMN.out, HDN.out⟩, HS⟩ HR0.out HC0.out HR1.out HC1.out HVL.out HLM.out ⟨HOK.out.ws, HOK.out.cs, HOK.out.ds, HOK.out.cont, HOK.out.lines⟩ ⟨HFN.out.once, HFN.out.held⟩ (bnd_m HBD.out) (Int.ofNat_lt.1 hn1) HNM.out).mono ?_
        clear HS
        rintro e w3 ⟨rfl, HS⟩
        go_wp2_with fail
        go_meet
        exact ⟨⟨by rw [enter_miss HBB.out]; exact HS⟩, ⟨by simp⟩⟩
      · cases al
        · have y1 := HBD.out.2.1.1
          have y2 := HBD.out.2.1.2
          have q10 : w1.cell? ⟨g, 10, none⟩ = some (.int .i64 s.m) := HS.cell List.mem_cons_self 10 _ rfl
          have fzq : ∀ j, w1.frozen? ⟨g, j, none⟩ = false := HS.thaw List.mem_cons_self
          go_upto_region 6 with fail
          clear y1 y2 q10 fzq
          replace HS := HS.setBox 10 (.int .i64 (s.m + 1)) .here
          simp only [List.setIfInBounds_toArray, List.set_cons_zero, List.set_cons_succ] at HS
          generalize w1.setCell ⟨g, 10, none⟩ (.int .i64 (s.m + 1)) = w2 at HS ⊢
          have x0 : w2.cell? ⟨xb, 0, none⟩ = some (.int .i64 q) := HS.cell (List.mem_cons_of_mem _ (List.mem_cons_of_mem _ (List.mem_cons_of_mem _ (List.mem_cons_of_mem _ (List.mem_cons_of_mem _ (List.mem_cons_of_mem _ (List.mem_append_right _ List.mem_cons_self))))))) 0 _ rfl
          have q3 : w2.cell? ⟨g, 3, none⟩ = some (.bool false) := HS.cell List.mem_cons_self 3 _ rfl
          go_upto_region 7 with fail
          clear x0 q3
          have HD := Hold.drew HS
          refine start_ (n := 9) (S := fun w' => w'.cell? ⟨g, 4, none⟩ = some (.slice (some ⟨bm, 0, none⟩) 64 cm) ∧ w'.cell? ⟨xb, 1, none⟩ = some (.int .i64 (a : Int))) (ds := [8]) #[false, false, false, false, false, false, false, false, false] (by kernel_rfl) rfl rfl ⟨(HD.cell List.mem_cons_self 4 _ rfl), (HD.cell (List.mem_cons_of_mem _ (List.mem_cons_of_mem _ (List.mem_cons_of_mem _ (List.mem_cons_of_mem _ (List.mem_cons_of_mem _ (List.mem_cons_of_mem _ (List.mem_append_right _ List.mem_cons_self))))))) 1 _ rfl)⟩ (fun hHeld => ?_)
          generalize w2.drew = wz at HD hHeld ⊢
          have st_ := HD.cellI (List.mem_cons_of_mem _ List.mem_cons_self) (a : Int) ha0 (by rw [HOK.out.ws]; exact ha1)
          rw [Int.toNat_natCast] at st_
          have st1 := st_.1
          have st2 := st_.2
          clear st_
          refine pure_ (i := 0) (N := some 67) (v := ?_) (a' := ?_) #[true, false, false, false, false, false, false, false, false] rfl rfl (by kernel_rfl) (fun _ _ _ h => h) (Or.inl ⟨by rfl, ?_⟩) ?_ ?_
          rotate_left
          · intro w'
            go_simp
            with_reducible rfl
          rotate_left
          · simp only [Act.put, List.setIfInBounds_toArray, List.set_cons_zero, List.set_cons_succ, i64_w, i32_w]
            rfl
          refine pure_ (i := 1) (N := some 68) (v := ?_) (a' := ?_) #[true, true, false, false, false, false, false, false, false] rfl rfl (by kernel_rfl) (fun _ _ _ h => h) (Or.inl ⟨by rfl, ?_⟩) ?_ ?_
          rotate_left
          · intro w'
            go_simp
            with_reducible rfl
          rotate_left
          · simp only [Act.put, List.setIfInBounds_toArray, List.set_cons_zero, List.set_cons_succ, i64_w, i32_w]
            rfl
          refine pure_ (i := 2) (N := some 69) (v := ?_) (a' := ?_) #[true, true, true, false, false, false, false, false, false] rfl rfl (by kernel_rfl) (fun _ _ _ h => h) (Or.inl ⟨by rfl, ?_⟩) ?_ ?_
          rotate_left
          · intro w'
            go_simp
            with_reducible rfl
          rotate_left
          · simp only [Act.put, List.setIfInBounds_toArray, List.set_cons_zero, List.set_cons_succ, i64_w, i32_w]
            rfl
          refine pure_ (i := 4) (N := some 71) (v := ?_) (a' := ?_) #[true, true, true, false, true, false, false, false, false] rfl rfl (by kernel_rfl) (fun _ _ _ h => h) (Or.inl ⟨by rfl, ?_⟩) ?_ ?_
          rotate_left
          · intro w'
            go_simp
            with_reducible rfl
          rotate_left
          · simp only [Act.put, List.setIfInBounds_toArray, List.set_cons_zero, List.set_cons_succ, i64_w, i32_w]
            rfl
          refine pure_ (i := 6) (N := some 73) (v := ?_) (a' := ?_) #[true, true, true, false, true, false, true, false, false] rfl rfl (by kernel_rfl) (fun _ _ _ h => h) (Or.inl ⟨by rfl, ?_⟩) ?_ ?_
          rotate_left
          · intro w'
            go_simp
            with_reducible rfl
          rotate_left
          · simp only [Act.put, List.setIfInBounds_toArray, List.set_cons_zero, List.set_cons_succ, i64_w, i32_w]
            rfl
          refine take_ (i := 3) (N := some 70) (v := ?_) (a' := ?_) #[true, true, true, true, true, false, true, false, false] rfl rfl (by kernel_rfl) (fun _ _ _ h => h) (Or.inl ⟨by rfl, ?_⟩) hHeld ?_ ?_
          rotate_left
          · rintro w' ⟨s0, s1⟩
            go_simp
            with_reducible rfl
          rotate_left
          · simp only [Act.put, List.setIfInBounds_toArray, List.set_cons_zero, List.set_cons_succ, i64_w, i32_w]
            rfl
          refine take_ (i := 5) (N := some 72) (v := ?_) (a' := ?_) #[true, true, true, true, true, true, true, false, false] rfl rfl (by kernel_rfl) (fun _ _ _ h => h) (Or.inl ⟨by rfl, ?_⟩) hHeld ?_ ?_
          rotate_left
          · rintro w' ⟨s0, s1⟩
            go_simp
            with_reducible rfl
          rotate_left
          · simp only [Act.put, List.setIfInBounds_toArray, List.set_cons_zero, List.set_cons_succ, i64_w, i32_w]
            rfl
          refine pure_ (i := 7) (N := some 74) (v := ?_) (a' := ?_) #[true, true, true, true, true, true, true, true, false] rfl rfl (by kernel_rfl) (fun _ _ _ h => h) (Or.inl ⟨by rfl, ?_⟩) ?_ ?_
          rotate_left
          · intro w'
            go_simp
            with_reducible rfl
          rotate_left
          · simp only [Act.put, List.setIfInBounds_toArray, List.set_cons_zero, List.set_cons_succ, i64_w, i32_w]
            rfl
          refine last_ (i := 8) (N := none) #[true, true, true, true, true, true, true, true, true] rfl rfl (by kernel_rfl) (by decide) (fun K hK => ?_)
          refine skip_ (w1 := ?_) (by rfl) rfl ?_ ?_
          rotate_left
          · go_simp
            rfl
          refine hK.out _ _ ?_
          clear hK K
          refine done_ (by kernel_rfl) ?_
          clear hHeld st1 st2
          replace HS := HD
          clear HD
          have H5 := HS.setI (a : Int) v (.there .here)
          rw [Int.toNat_natCast] at H5
          generalize wz.setCell ⟨bm, a, none⟩ (.int .i64 v) = w4 at H5 ⊢
          replace HS := H5
          clear H5
          have y1 := HBD.out.2.2.2.1.1
          have y2 := HBD.out.2.2.2.1.2
          have q12 : w4.cell? ⟨g, 12, none⟩ = some (.int .i64 s.o) := HS.cell List.mem_cons_self 12 _ rfl
          have fzq : ∀ j, w4.frozen? ⟨g, j, none⟩ = false := HS.thaw List.mem_cons_self
          go_wp2_with fail
          clear y1 y2 q12 fzq
          replace HS := HS.setBox 12 (.int .i64 (s.o + 1)) .here
          simp only [List.setIfInBounds_toArray, List.set_cons_zero, List.set_cons_succ] at HS
          generalize w4.setCell ⟨g, 12, none⟩ (.int .i64 (s.o + 1)) = w5 at HS ⊢
          (try simp only [Exit.inBlock, Exit.then]); first | refine bodyPost_ret (results_none rfl _ _ _) rfl ?_ | refine bodyPost_end (results_none rfl _ _ _) rfl ?_
          refine ⟨rfl, ImplAt.less (x := (boxT #[.int .i64 q, .int .i64 a] 37, xb, xb + 1)) ?_⟩
          rw [acc_around HN.out HBB.out HE1.out rfl, ← HVAL.out]
          exact ⟨bk, kc, lk, hk, V, vc, lv, hv, K, b, c, lo, hi, M, D, mn, dn, ⟨HK.out, HM.out, HD_.out, by have := HMN.out; omega, by have := HDN.out; omega⟩, HS⟩
        · have y1 := HBD.out.2.1.1
          have y2 := HBD.out.2.1.2
          have q10 : w1.cell? ⟨g, 10, none⟩ = some (.int .i64 s.m) := HS.cell List.mem_cons_self 10 _ rfl
          have fzq : ∀ j, w1.frozen? ⟨g, j, none⟩ = false := HS.thaw List.mem_cons_self
          go_upto_region 6 with fail
          clear y1 y2 q10 fzq
          replace HS := HS.setBox 10 (.int .i64 (s.m + 1)) .here
          simp only [List.setIfInBounds_toArray, List.set_cons_zero, List.set_cons_succ] at HS
          generalize w1.setCell ⟨g, 10, none⟩ (.int .i64 (s.m + 1)) = w2 at HS ⊢
          have x0 : w2.cell? ⟨xb, 0, none⟩ = some (.int .i64 q) := HS.cell (List.mem_cons_of_mem _ (List.mem_cons_of_mem _ (List.mem_cons_of_mem _ (List.mem_cons_of_mem _ (List.mem_cons_of_mem _ (List.mem_cons_of_mem _ (List.mem_append_right _ List.mem_cons_self))))))) 0 _ rfl
          have q3 : w2.cell? ⟨g, 3, none⟩ = some (.bool true) := HS.cell List.mem_cons_self 3 _ rfl
          go_wp2_with fail
          clear x0 q3
          have HNM : Aside0 ((n : Int) ∉ s.cont) := ⟨fun k => by have h1 := (any_mem s.cont n).2 k; rw [HBB.out] at h1; cases h1⟩
          refine (ifill_calls (s := { s with m := s.m + 1 }) (n := n) ⟨bk, kc, lk, hk, V, vc, lv, hv, K, b, c, lo, hi, M, D, mn, dn, ⟨HK.out, HM.out, HD_.out, HMN.out, HDN.out⟩, HS⟩ HR0.out HC0.out HR1.out HC1.out HVL.out HLM.out ⟨HOK.out.ws, HOK.out.cs, HOK.out.ds, HOK.out.cont, HOK.out.lines⟩ ⟨HFN.out.once, HFN.out.held⟩ (bnd_m HBD.out) (Int.ofNat_lt.1 hn1) HNM.out).mono ?_
          clear HS
          rintro e w3 ⟨rfl, HS⟩
          go_wp2_with fail
          go_meet
          exact ⟨⟨by rw [enter_miss HBB.out]; exact HS⟩, ⟨by simp⟩⟩
    · have y1 := HBD.out.1.1
      have y2 := HBD.out.1.2
      have q9 : w1.cell? ⟨g, 9, none⟩ = some (.int .i64 s.h) := HS.cell List.mem_cons_self 9 _ rfl
      have fzq : ∀ j, w1.frozen? ⟨g, j, none⟩ = false := HS.thaw List.mem_cons_self
      go_upto_region 4 with fail
      clear y1 y2 q9 fzq
      replace HS := HS.setBox 9 (.int .i64 (s.h + 1)) .here
      simp only [List.setIfInBounds_toArray, List.set_cons_zero, List.set_cons_succ] at HS
      generalize w1.setCell ⟨g, 9, none⟩ (.int .i64 (s.h + 1)) = w2 at HS ⊢
      have EV := Aside0.mk (implStepG_ev HVL.out s.cont HCT.out (n : Int))
      have HSL := Aside0.mk ((stepV_length HVL.out s.cont HCT.out (n : Int)).trans HLM.out)
      have HD := Hold.drew HS
      refine start_ (n := 19) (S := fun w' => w'.cell? ⟨g, 0, none⟩ = some (.slice A0 l0.length c0) ∧ w'.cell? ⟨g, 1, none⟩ = some (.slice A1 l1.length c1) ∧ w'.cell? ⟨g, 6, none⟩ = some (.slice (some ⟨bk, 0, none⟩) m kc)) (ds := [18]) #[false, false, false, false, false, false, false, false, false, false, false, false, false, false, false, false, false, false, false] (by kernel_rfl) rfl rfl ⟨(HD.cell List.mem_cons_self 0 _ rfl), (HD.cell List.mem_cons_self 1 _ rfl), (HD.cell List.mem_cons_self 6 _ rfl)⟩ (fun hHeld => ?_)
      generalize w2.drew = wd at HD hHeld ⊢
      refine pure_ (i := 0) (N := some 30) (v := ?_) (a' := ?_) #[true, false, false, false, false, false, false, false, false, false, false, false, false, false, false, false, false, false, false] rfl rfl (by kernel_rfl) (fun _ _ _ h => h) (Or.inl ⟨by rfl, ?_⟩) ?_ ?_
      rotate_left
      · intro w'
        go_simp
        with_reducible rfl
      rotate_left
      · simp only [Act.put, List.setIfInBounds_toArray, List.set_cons_zero, List.set_cons_succ, i64_w, i32_w]
        rfl
      refine pure_ (i := 1) (N := some 31) (v := ?_) (a' := ?_) #[true, true, false, false, false, false, false, false, false, false, false, false, false, false, false, false, false, false, false] rfl rfl (by kernel_rfl) (fun _ _ _ h => h) (Or.inl ⟨by rfl, ?_⟩) ?_ ?_
      rotate_left
      · intro w'
        go_simp
        with_reducible rfl
      rotate_left
      · simp only [Act.put, List.setIfInBounds_toArray, List.set_cons_zero, List.set_cons_succ, i64_w, i32_w]
        rfl
      refine pure_ (i := 2) (N := some 32) (v := ?_) (a' := ?_) #[true, true, true, false, false, false, false, false, false, false, false, false, false, false, false, false, false, false, false] rfl rfl (by kernel_rfl) (fun _ _ _ h => h) (Or.inl ⟨by rfl, ?_⟩) ?_ ?_
      rotate_left
      · intro w'
        go_simp
        with_reducible rfl
      rotate_left
      · simp only [Act.put, List.setIfInBounds_toArray, List.set_cons_zero, List.set_cons_succ, i64_w, i32_w]
        rfl
      refine pure_ (i := 3) (N := some 33) (v := ?_) (a' := ?_) #[true, true, true, true, false, false, false, false, false, false, false, false, false, false, false, false, false, false, false] rfl rfl (by kernel_rfl) (fun _ _ _ h => h) (Or.inl ⟨by rfl, ?_⟩) ?_ ?_
      rotate_left
      · intro w'
        go_simp
        with_reducible rfl
      rotate_left
      · simp only [Act.put, List.setIfInBounds_toArray, List.set_cons_zero, List.set_cons_succ, i64_w, i32_w]
        rfl
      refine pure_ (i := 4) (N := some 34) (v := ?_) (a' := ?_) #[true, true, true, true, true, false, false, false, false, false, false, false, false, false, false, false, false, false, false] rfl rfl (by kernel_rfl) (fun _ _ _ h => h) (Or.inl ⟨by rfl, ?_⟩) ?_ ?_
      rotate_left
      · intro w'
        go_simp
        with_reducible rfl
      rotate_left
      · simp only [Act.put, List.setIfInBounds_toArray, List.set_cons_zero, List.set_cons_succ, i64_w, i32_w]
        rfl
      refine pure_ (i := 6) (N := some 36) (v := ?_) (a' := ?_) #[true, true, true, true, true, false, true, false, false, false, false, false, false, false, false, false, false, false, false] rfl rfl (by kernel_rfl) (fun _ _ _ h => h) (Or.inl ⟨by rfl, ?_⟩) ?_ ?_
      rotate_left
      · intro w'
        go_simp
        with_reducible rfl
      rotate_left
      · simp only [Act.put, List.setIfInBounds_toArray, List.set_cons_zero, List.set_cons_succ, i64_w, i32_w]
        rfl
      refine pure_ (i := 7) (N := some 37) (v := ?_) (a' := ?_) #[true, true, true, true, true, false, true, true, false, false, false, false, false, false, false, false, false, false, false] rfl rfl (by kernel_rfl) (fun _ _ _ h => h) (Or.inl ⟨by rfl, ?_⟩) ?_ ?_
      rotate_left
      · intro w'
        go_simp
        with_reducible rfl
      rotate_left
      · simp only [Act.put, List.setIfInBounds_toArray, List.set_cons_zero, List.set_cons_succ, i64_w, i32_w]
        rfl
      refine pure_ (i := 8) (N := some 38) (v := ?_) (a' := ?_) #[true, true, true, true, true, false, true, true, true, false, false, false, false, false, false, false, false, false, false] rfl rfl (by kernel_rfl) (fun _ _ _ h => h) (Or.inl ⟨by rfl, ?_⟩) ?_ ?_
      rotate_left
      · intro w'
        go_simp
        with_reducible rfl
      rotate_left
      · simp only [Act.put, List.setIfInBounds_toArray, List.set_cons_zero, List.set_cons_succ, i64_w, i32_w]
        rfl
      refine pure_ (i := 10) (N := some 40) (v := ?_) (a' := ?_) #[true, true, true, true, true, false, true, true, true, false, true, false, false, false, false, false, false, false, false] rfl rfl (by kernel_rfl) (fun _ _ _ h => h) (Or.inl ⟨by rfl, ?_⟩) ?_ ?_
      rotate_left
      · intro w'
        go_simp
        with_reducible rfl
      rotate_left
      · simp only [Act.put, List.setIfInBounds_toArray, List.set_cons_zero, List.set_cons_succ, i64_w, i32_w]
        rfl
      refine take_ (i := 5) (N := some 35) (v := ?_) (a' := ?_) #[true, true, true, true, true, true, true, true, true, false, true, false, false, false, false, false, false, false, false] rfl rfl (by kernel_rfl) (fun _ _ _ h => h) (Or.inl ⟨by rfl, ?_⟩) hHeld ?_ ?_
      rotate_left
      · rintro w' ⟨s0, s1, s2⟩
        go_simp
        with_reducible rfl
      rotate_left
      · simp only [Act.put, List.setIfInBounds_toArray, List.set_cons_zero, List.set_cons_succ, i64_w, i32_w]
        rfl
      refine take_ (i := 9) (N := some 39) (v := ?_) (a' := ?_) #[true, true, true, true, true, true, true, true, true, true, true, false, false, false, false, false, false, false, false] rfl rfl (by kernel_rfl) (fun _ _ _ h => h) (Or.inl ⟨by rfl, ?_⟩) hHeld ?_ ?_
      rotate_left
      · rintro w' ⟨s0, s1, s2⟩
        go_simp
        with_reducible rfl
      rotate_left
      · simp only [Act.put, List.setIfInBounds_toArray, List.set_cons_zero, List.set_cons_succ, i64_w, i32_w]
        rfl
      refine one_ (i := 11) (N := some 41) #[true, true, true, true, true, true, true, true, true, true, true, true, false, false, false, false, false, false, false] rfl rfl (by kernel_rfl) (by decide) (fun K hK => ?_)
      refine goes_ Try.func71 (by kernel_rfl) rfl #[.agg #[.slice A0 l0.length c0, .slice A1 l1.length c1], .slice (some ⟨bk, 0, none⟩) m kc, .int .i64 n] (by rfl) rfl rfl (by simp only [List.map_toArray, List.map_cons, List.map_nil]; rfl) ?_
      with_reducible refine (show Calls _ _ #[.agg #[.slice A0 l0.length c0, .slice A1 l1.length c1], .slice (some ⟨bk, 0, none⟩) m kc, .int .i64 n] _ _ from HCM.out ▸ impl_Policy_step.calls (Ev.num EV.out) A0 c0 l0 A1 c1 l1 (some ⟨bk, 0, none⟩) kc s.cont (n : Int) (stepV l0 l1 s.cont n).1 (goneV s.cont n) (stepV l0 l1 s.cont n).2 _ (Kd.C_below HR0.out HD.below) HC0.out (Kd.C_below HR1.out HD.below) HC1.out (HD.reads' (List.mem_cons_of_mem _ (List.mem_cons_of_mem _ List.mem_cons_self))).2.2 (HD.reads' (List.mem_cons_of_mem _ (List.mem_cons_of_mem _ List.mem_cons_self))).2.1 (Ev.is EV.out)).mono ?_
      rintro e w3 ⟨v_, rfl, hr, hb⟩
      refine ⟨_, rfl, ?_⟩
      replace HD := HD.made hb hr
      clear hb hr
      obtain ⟨bk2, kc2, rfl, _, _⟩ := HD.row_form List.mem_cons_self (by rw [HSL.out]; have := HM1.out; omega)
      rw [HSL.out] at HD ⊢
      have s0_ : w3.cell? ⟨g, 0, none⟩ = some (.slice A0 l0.length c0) := HD.cell (List.mem_cons_of_mem _ List.mem_cons_self) 0 _ rfl
      have s1_ : w3.cell? ⟨g, 1, none⟩ = some (.slice A1 l1.length c1) := HD.cell (List.mem_cons_of_mem _ List.mem_cons_self) 1 _ rfl
      have s2_ : w3.cell? ⟨g, 6, none⟩ = some (.slice (some ⟨bk, 0, none⟩) m kc) := HD.cell (List.mem_cons_of_mem _ List.mem_cons_self) 6 _ rfl
      have fz_ : ∀ j, w3.frozen? ⟨g, j, none⟩ = false := HD.thaw (List.mem_cons_of_mem _ List.mem_cons_self)
      refine hK.out _ _ ⟨s0_, s1_, s2_⟩ (fun hHeld => ?_)
      clear hK K
      refine norm_ (a' := ?_) ?_ ?_
      rotate_left
      · show Act.put _ (some 41) _ = _
        simp only [Act.put, List.setIfInBounds_toArray, List.set_cons_zero, List.set_cons_succ, i64_w, i32_w]
        rfl
      refine pure_ (i := 12) (N := some 29) (v := ?_) (a' := ?_) #[true, true, true, true, true, true, true, true, true, true, true, true, true, false, false, false, false, false, false] rfl rfl (by kernel_rfl) (fun _ _ _ h => h) (Or.inl ⟨by rfl, ?_⟩) ?_ ?_
      rotate_left
      · intro w'
        go_simp
        with_reducible rfl
      rotate_left
      · simp only [Act.put, List.setIfInBounds_toArray, List.set_cons_zero, List.set_cons_succ, i64_w, i32_w]
        rfl
      refine pure_ (i := 13) (N := some 42) (v := ?_) (a' := ?_) #[true, true, true, true, true, true, true, true, true, true, true, true, true, true, false, false, false, false, false] rfl rfl (by kernel_rfl) (fun _ _ _ h => h) (Or.inl ⟨by rfl, ?_⟩) ?_ ?_
      rotate_left
      · intro w'
        go_simp
        with_reducible rfl
      rotate_left
      · simp only [Act.put, List.setIfInBounds_toArray, List.set_cons_zero, List.set_cons_succ, i64_w, i32_w]
        rfl
      refine pure_ (i := 14) (N := some 43) (v := ?_) (a' := ?_) #[true, true, true, true, true, true, true, true, true, true, true, true, true, true, true, false, false, false, false] rfl rfl (by kernel_rfl) (fun _ _ _ h => h) (Or.inl ⟨by rfl, ?_⟩) ?_ ?_
      rotate_left
      · intro w'
        go_simp
        with_reducible rfl
      rotate_left
      · simp only [Act.put, List.setIfInBounds_toArray, List.set_cons_zero, List.set_cons_succ, i64_w, i32_w]
        rfl
      refine pure_ (i := 15) (N := some 44) (v := ?_) (a' := ?_) #[true, true, true, true, true, true, true, true, true, true, true, true, true, true, true, true, false, false, false] rfl rfl (by kernel_rfl) (fun _ _ _ h => h) (Or.inl ⟨by rfl, ?_⟩) ?_ ?_
      rotate_left
      · intro w'
        go_simp
        with_reducible rfl
      rotate_left
      · simp only [Act.put, List.setIfInBounds_toArray, List.set_cons_zero, List.set_cons_succ, i64_w, i32_w]
        rfl
      refine pure_ (i := 16) (N := some 45) (v := ?_) (a' := ?_) #[true, true, true, true, true, true, true, true, true, true, true, true, true, true, true, true, true, false, false] rfl rfl (by kernel_rfl) (fun _ _ _ h => h) (Or.inl ⟨by rfl, ?_⟩) ?_ ?_
      rotate_left
      · intro w'
        go_simp
        with_reducible rfl
      rotate_left
      · simp only [Act.put, List.setIfInBounds_toArray, List.set_cons_zero, List.set_cons_succ, i64_w, i32_w]
        rfl
      refine pure_ (i := 17) (N := some 46) (v := ?_) (a' := ?_) #[true, true, true, true, true, true, true, true, true, true, true, true, true, true, true, true, true, true, false] rfl rfl (by kernel_rfl) (fun _ _ _ h => h) (Or.inl ⟨by rfl, ?_⟩) ?_ ?_
      rotate_left
      · intro w'
        go_simp
        with_reducible rfl
      rotate_left
      · simp only [Act.put, List.setIfInBounds_toArray, List.set_cons_zero, List.set_cons_succ, i64_w, i32_w]
        rfl
      refine last_ (i := 18) (N := none) #[true, true, true, true, true, true, true, true, true, true, true, true, true, true, true, true, true, true, true] rfl rfl (by kernel_rfl) (by decide) (fun K hK => ?_)
      refine skip_ (w1 := ?_) (by rfl) rfl ?_ ?_
      rotate_left
      · go_simp
        rfl
      refine hK.out _ _ ?_
      clear hK K
      refine done_ (by kernel_rfl) ?_
      clear hHeld s0_ s1_ s2_ fz_
      replace HS := HD
      clear HD
      replace HS := HS.setBox 6 (.slice (some ⟨bk2, 0, none⟩) m kc2) (.there .here)
      simp only [List.setIfInBounds_toArray, List.set_cons_zero, List.set_cons_succ] at HS
      generalize w3.setCell ⟨g, 6, none⟩ (.slice (some ⟨bk2, 0, none⟩) m kc2) = w3b at HS ⊢
      replace HS := HS.pick (.there (.there (.there .here)))
      replace HS := HS.tail
      replace HS := HS.pick (.there (.there (.there (.there (.there .here)))))
      replace HS := HS.pick (.there (.there (.there (.there (.there .here)))))
      replace HS := HS.pick (.there (.there (.there (.there (.there .here)))))
      replace HS := HS.pick (.there (.there (.there .here)))
      replace HS := HS.pick (.there (.there (.there (.there (.there .here)))))
      replace HS := HS.pick (.there (.there (.there (.there (.there .here)))))
      go_wp2_with fail
      go_meet
      have HKP := Aside0.mk (keys_perm HK.out (step_hit HVL.out HCT.out ((any_mem s.cont n).1 HBB.out)))
      refine ⟨⟨?_⟩, ⟨by simp⟩⟩
      rw [enter_hit HBB.out]
      exact ⟨bk2, kc2, _, _, V, vc, lv, hv, K, b, c, lo, hi, M, D, mn, dn, ⟨HKP.out, HM.out, HD_.out, Nat.le_succ_of_le HMN.out, Nat.le_succ_of_le HDN.out⟩, HS⟩
  case rest =>
    clear HS
    obtain ⟨HH, HDJ⟩ := hcut
    obtain ⟨s2, hs2⟩ : ∃ s2, s2 = enterC l0 l1 n s := ⟨_, rfl⟩
    have HS2 := Aside0.mk hs2
    rw [← hs2] at HH
    clear hs2
    have HOK2 : Aside0 (s2.Ok m) := ⟨by rw [HS2.out]; exact enterC_ok (fun c x hc => okStep_valid HVL.out c (hc.trans HLM.out.symm) x) (fun c x hc => (stepV_length HVL.out c (hc.trans HLM.out.symm) x).trans HLM.out) HOK.out (Int.ofNat_lt.1 hn1)⟩
    have HEF := Aside0.mk (enter_fine HVL.out HCT.out HFN.out n)
    rw [← HS2.out] at HEF
    have HOB : Aside0 (0 ≤ s2.o ∧ s2.o ≤ 1004) := ⟨by have := (enterC_few l0 l1 n s).o; rw [← HS2.out] at this; have := HBD.out; omega⟩
    have HRL : Aside0 (s2.rd.length ≤ 1000) := ⟨by rw [HS2.out, enterC_rd]; exact HBD.out.2.2.2.2.1⟩
    clear HK HM HD_ HMN HDN
    obtain ⟨bk, kc, lk, hk, V, vc, lv, hv, K, b, c, lo, hi, M, D, mn, dn, ⟨hK, hM, hD, hmn, hdn⟩, HS⟩ := HH.out
    clear HH
    have HK := Aside0.mk hK
    have HM := Aside0.mk hM
    have HD_ := Aside0.mk hD
    have HMN := Aside0.mk hmn
    have HDN := Aside0.mk hdn
    clear hK hM hD hmn hdn
    obtain ⟨wb, rfl⟩ : ∃ x, x = wc := ⟨_, rfl⟩
    have HKN : Aside0 ((n : Int) ∈ K) := ⟨(HK.out.mem _).2 ⟨hn0, HEF.out.2⟩⟩
    have HSG : Aside0 ((segC s2.cs (n : Int)).getD pl 0 = s2.cs.getD a 0) := ⟨by rw [HN.out, HP.out]; exact segC_get s2.cs a⟩
    obtain ⟨e2, he2⟩ : ∃ e2, (q == 0) = e2 := ⟨_, rfl⟩
    have HE2 : Aside0 (e2 = !e1) := ⟨by rw [← he2, ← HE1.out]; rcases HQ01.out with h | h <;> rw [h] <;> rfl⟩
    have x0 : wb.cell? ⟨xb, 0, none⟩ = some (.int .i64 q) := HS.cell (List.mem_cons_of_mem _ (List.mem_cons_of_mem _ (List.mem_cons_of_mem _ (List.mem_cons_of_mem _ (List.mem_cons_of_mem _ (List.mem_cons_of_mem _ (List.mem_append_right _ List.mem_cons_self))))))) 0 _ rfl
    cases e1
    · obtain rfl : e2 = true := HE2.out
      replace HS := hold_take (L := [(boxT #[.slice A0 l0.length c0, .slice A1 l1.length c1, .bool back, .bool al, .slice (some ⟨bm, 0, none⟩) 64 cm, .slice V s2.rd.length vc, .slice (some ⟨bk, 0, none⟩) m kc, .map (some p), .map (some q_), .int .i64 s2.h, .int .i64 s2.m, .int .i64 s2.i, .int .i64 s2.o, .int .i64 fl] 64, g, g + 1), (flat (Kd.int .i64) 2 (.slice (some ⟨bm, 0, none⟩) 64 cm) s2.ws, lm, hm), (flat (Kd.int .i64) 2 (.slice (some ⟨bk, 0, none⟩) m kc) s2.cont, lk, hk), (flat (Kd.int .i64) 2 (.slice V s2.rd.length vc) s2.rd, lv, hv), (mapT Try.prog 2 M mn, p, p + 1), (mapT Try.prog 2 D dn, q_, q_ + 1)]) HS HKN.out
      change Hold w0 wb ((flat (Kd.int .i64) 2 (.slice (some ⟨(b n), 0, none⟩) 4 (c n)) (segC s2.cs (n : Int)), (lo n), (hi n)) :: (boxT #[.slice A0 l0.length c0, .slice A1 l1.length c1, .bool back, .bool al, .slice (some ⟨bm, 0, none⟩) 64 cm, .slice V s2.rd.length vc, .slice (some ⟨bk, 0, none⟩) m kc, .map (some p), .map (some q_), .int .i64 s2.h, .int .i64 s2.m, .int .i64 s2.i, .int .i64 s2.o, .int .i64 fl] 64, g, g + 1) :: (flat (Kd.int .i64) 2 (.slice (some ⟨bm, 0, none⟩) 64 cm) s2.ws, lm, hm) :: (flat (Kd.int .i64) 2 (.slice (some ⟨bk, 0, none⟩) m kc) s2.cont, lk, hk) :: (flat (Kd.int .i64) 2 (.slice V s2.rd.length vc) s2.rd, lv, hv) :: (mapT Try.prog 2 M mn, p, p + 1) :: (mapT Try.prog 2 D dn, q_, q_ + 1) :: ((K.erase (n : Int)).map (lineI s2.cs b c lo hi) ++ (boxT #[.int .i64 q, .int .i64 a] 37, xb, xb + 1) :: R)) at HS
      go_wp2_with fail
      clear x0
      have HD := Hold.drew HS
      refine start_ (n := 19) (S := fun w' => w'.cell? ⟨g, 5, none⟩ = some (.slice V s2.rd.length vc) ∧ w'.cell? ⟨g, 7, none⟩ = some (.map (some p)) ∧ (Instr.lookup 61 (.map (some p)) (.int .i64 (n : Int)) false).run Try.prog w' = .ok (.slice (some ⟨(b n), 0, none⟩) 4 (c n)) w' ∧ w'.cell? ⟨b n, pl, none⟩ = some (.int .i64 (s2.cs.getD a 0))) (ds := [18]) #[false, false, false, false, false, false, false, false, false, false, false, false, false, false, false, false, false, false, false] (by kernel_rfl) rfl rfl ⟨(HD.cell (List.mem_cons_of_mem _ List.mem_cons_self) 5 _ rfl), (HD.cell (List.mem_cons_of_mem _ List.mem_cons_self) 7 _ rfl), (by have := HD.mlook (t := 61) (e := 25) (z := .slice none 0 0) (k := (n : Int)) (List.mem_cons_of_mem _ (List.mem_cons_of_mem _ (List.mem_cons_of_mem _ (List.mem_cons_of_mem _ (List.mem_cons_of_mem _ List.mem_cons_self))))) Try.underlying2 Try.underlying61 (fun _ => rfl) (lit_wf (by omega)); rwa [HM.out, copiesM, if_pos HKN.out] at this), (by have := (HD.cellI List.mem_cons_self (pl : Int) hp0 (by exact hp1)).1; rwa [Int.toNat_natCast, HSG.out] at this)⟩ (fun hHeld => ?_)
      generalize wb.drew = wd at HD hHeld ⊢
      refine pure_ (i := 0) (N := some 108) (v := ?_) (a' := ?_) #[true, false, false, false, false, false, false, false, false, false, false, false, false, false, false, false, false, false, false] rfl rfl (by kernel_rfl) (fun _ _ _ h => h) (Or.inl ⟨by rfl, ?_⟩) ?_ ?_
      rotate_left
      · intro w'
        go_simp
        with_reducible rfl
      rotate_left
      · simp only [Act.put, List.setIfInBounds_toArray, List.set_cons_zero, List.set_cons_succ, i64_w, i32_w]
        rfl
      refine pure_ (i := 1) (N := some 109) (v := ?_) (a' := ?_) #[true, true, false, false, false, false, false, false, false, false, false, false, false, false, false, false, false, false, false] rfl rfl (by kernel_rfl) (fun _ _ _ h => h) (Or.inl ⟨by rfl, ?_⟩) ?_ ?_
      rotate_left
      · intro w'
        go_simp
        with_reducible rfl
      rotate_left
      · simp only [Act.put, List.setIfInBounds_toArray, List.set_cons_zero, List.set_cons_succ, i64_w, i32_w]
        rfl
      refine pure_ (i := 2) (N := some 110) (v := ?_) (a' := ?_) #[true, true, true, false, false, false, false, false, false, false, false, false, false, false, false, false, false, false, false] rfl rfl (by kernel_rfl) (fun _ _ _ h => h) (Or.inl ⟨by rfl, ?_⟩) ?_ ?_
      rotate_left
      · intro w'
        go_simp
        with_reducible rfl
      rotate_left
      · simp only [Act.put, List.setIfInBounds_toArray, List.set_cons_zero, List.set_cons_succ, i64_w, i32_w]
        rfl
      refine pure_ (i := 3) (N := some 111) (v := ?_) (a' := ?_) #[true, true, true, true, false, false, false, false, false, false, false, false, false, false, false, false, false, false, false] rfl rfl (by kernel_rfl) (fun _ _ _ h => h) (Or.inl ⟨by rfl, ?_⟩) ?_ ?_
      rotate_left
      · intro w'
        go_simp
        with_reducible rfl
      rotate_left
      · simp only [Act.put, List.setIfInBounds_toArray, List.set_cons_zero, List.set_cons_succ, i64_w, i32_w]
        rfl
      refine pure_ (i := 5) (N := some 113) (v := ?_) (a' := ?_) #[true, true, true, true, false, true, false, false, false, false, false, false, false, false, false, false, false, false, false] rfl rfl (by kernel_rfl) (fun _ _ _ h => h) (Or.inl ⟨by rfl, ?_⟩) ?_ ?_
      rotate_left
      · intro w'
        go_simp
        with_reducible rfl
      rotate_left
      · simp only [Act.put, List.setIfInBounds_toArray, List.set_cons_zero, List.set_cons_succ, i64_w, i32_w]
        rfl
      refine pure_ (i := 6) (N := some 114) (v := ?_) (a' := ?_) #[true, true, true, true, false, true, true, false, false, false, false, false, false, false, false, false, false, false, false] rfl rfl (by kernel_rfl) (fun _ _ _ h => h) (Or.inl ⟨by rfl, ?_⟩) ?_ ?_
      rotate_left
      · intro w'
        go_simp
        with_reducible rfl
      rotate_left
      · simp only [Act.put, List.setIfInBounds_toArray, List.set_cons_zero, List.set_cons_succ, i64_w, i32_w]
        rfl
      refine pure_ (i := 7) (N := some 115) (v := ?_) (a' := ?_) #[true, true, true, true, false, true, true, true, false, false, false, false, false, false, false, false, false, false, false] rfl rfl (by kernel_rfl) (fun _ _ _ h => h) (Or.inl ⟨by rfl, ?_⟩) ?_ ?_
      rotate_left
      · intro w'
        go_simp
        with_reducible rfl
      rotate_left
      · simp only [Act.put, List.setIfInBounds_toArray, List.set_cons_zero, List.set_cons_succ, i64_w, i32_w]
        rfl
      refine pure_ (i := 9) (N := some 117) (v := ?_) (a' := ?_) #[true, true, true, true, false, true, true, true, false, true, false, false, false, false, false, false, false, false, false] rfl rfl (by kernel_rfl) (fun _ _ _ h => h) (Or.inl ⟨by rfl, ?_⟩) ?_ ?_
      rotate_left
      · intro w'
        go_simp
        with_reducible rfl
      rotate_left
      · simp only [Act.put, List.setIfInBounds_toArray, List.set_cons_zero, List.set_cons_succ, i64_w, i32_w]
        rfl
      refine pure_ (i := 11) (N := some 119) (v := ?_) (a' := ?_) #[true, true, true, true, false, true, true, true, false, true, false, true, false, false, false, false, false, false, false] rfl rfl (by kernel_rfl) (fun _ _ _ h => h) (Or.inl ⟨by rfl, ?_⟩) ?_ ?_
      rotate_left
      · intro w'
        go_simp
        with_reducible rfl
      rotate_left
      · simp only [Act.put, List.setIfInBounds_toArray, List.set_cons_zero, List.set_cons_succ, i64_w, i32_w]
        rfl
      refine take_ (i := 4) (N := some 112) (v := ?_) (a' := ?_) #[true, true, true, true, true, true, true, true, false, true, false, true, false, false, false, false, false, false, false] rfl rfl (by kernel_rfl) (fun _ _ _ h => h) (Or.inl ⟨by rfl, ?_⟩) hHeld ?_ ?_
      rotate_left
      · rintro w' ⟨s0, s1, s2, s3⟩
        go_simp
        with_reducible rfl
      rotate_left
      · simp only [Act.put, List.setIfInBounds_toArray, List.set_cons_zero, List.set_cons_succ, i64_w, i32_w]
        rfl
      refine take_ (i := 8) (N := some 116) (v := ?_) (a' := ?_) #[true, true, true, true, true, true, true, true, true, true, false, true, false, false, false, false, false, false, false] rfl rfl (by kernel_rfl) (fun _ _ _ h => h) (Or.inl ⟨by rfl, ?_⟩) hHeld ?_ ?_
      rotate_left
      · rintro w' ⟨s0, s1, s2, s3⟩
        go_simp
        with_reducible rfl
      rotate_left
      · simp only [Act.put, List.setIfInBounds_toArray, List.set_cons_zero, List.set_cons_succ, i64_w, i32_w]
        rfl
      refine take_ (i := 10) (N := some 118) (v := ?_) (a' := ?_) #[true, true, true, true, true, true, true, true, true, true, true, true, false, false, false, false, false, false, false] rfl rfl (by kernel_rfl) (fun _ _ _ h => h) (Or.inl ⟨by rfl, ?_⟩) hHeld ?_ ?_
      rotate_left
      · rintro w' ⟨s0, s1, s2, s3⟩
        go_simp
        with_reducible rfl
      rotate_left
      · simp only [Act.put, List.setIfInBounds_toArray, List.set_cons_zero, List.set_cons_succ, i64_w, i32_w]
        rfl
      refine pure_ (i := 12) (N := some 120) (v := ?_) (a' := ?_) #[true, true, true, true, true, true, true, true, true, true, true, true, true, false, false, false, false, false, false] rfl rfl (by kernel_rfl) (fun _ _ _ h => h) (Or.inl ⟨by rfl, ?_⟩) ?_ ?_
      rotate_left
      · intro w'
        go_simp
        with_reducible rfl
      rotate_left
      · simp only [Act.put, List.setIfInBounds_toArray, List.set_cons_zero, List.set_cons_succ, i64_w, i32_w]
        rfl
      refine take_ (i := 13) (N := some 121) (v := ?_) (a' := ?_) #[true, true, true, true, true, true, true, true, true, true, true, true, true, true, false, false, false, false, false] rfl rfl (by kernel_rfl) (fun _ _ _ h => h) (Or.inl ⟨by rfl, ?_⟩) hHeld ?_ ?_
      rotate_left
      · rintro w' ⟨s0, s1, s2, s3⟩
        go_simp
        with_reducible rfl
      rotate_left
      · simp only [Act.put, List.setIfInBounds_toArray, List.set_cons_zero, List.set_cons_succ, i64_w, i32_w]
        rfl
      refine one_ (i := 14) (N := some 122) #[true, true, true, true, true, true, true, true, true, true, true, true, true, true, true, false, false, false, false] rfl rfl (by kernel_rfl) (by decide) (fun K hK => ?_)
      refine value_ (w1 := ?_) (v := ?_) (by rfl) rfl ?_ ?_
      rotate_left 2
      · go_simp
        constructor
        · rfl
        · rfl
      have HE_ := HD
      replace HD := HD.alloc (.cells #[.int .i64 (s2.cs.getD a 0)] 2)
      have s0_ : (wd.alloc (.cells #[.int .i64 (s2.cs.getD a 0)] 2)).cell? ⟨g, 5, none⟩ = some (.slice V s2.rd.length vc) := HD.cell (List.mem_cons_of_mem _ List.mem_cons_self) 5 _ rfl
      have s1_ : (wd.alloc (.cells #[.int .i64 (s2.cs.getD a 0)] 2)).cell? ⟨g, 7, none⟩ = some (.map (some p)) := HD.cell (List.mem_cons_of_mem _ List.mem_cons_self) 7 _ rfl
      have s2_ : (Instr.lookup 61 (.map (some p)) (.int .i64 (n : Int)) false).run Try.prog (wd.alloc (.cells #[.int .i64 (s2.cs.getD a 0)] 2)) = .ok (.slice (some ⟨(b n), 0, none⟩) 4 (c n)) (wd.alloc (.cells #[.int .i64 (s2.cs.getD a 0)] 2)) := (by have := HD.mlook (t := 61) (e := 25) (z := .slice none 0 0) (k := (n : Int)) (List.mem_cons_of_mem _ (List.mem_cons_of_mem _ (List.mem_cons_of_mem _ (List.mem_cons_of_mem _ (List.mem_cons_of_mem _ List.mem_cons_self))))) Try.underlying2 Try.underlying61 (fun _ => rfl) (lit_wf (by omega)); rwa [HM.out, copiesM, if_pos HKN.out] at this)
      have s3_ : (wd.alloc (.cells #[.int .i64 (s2.cs.getD a 0)] 2)).cell? ⟨b n, pl, none⟩ = some (.int .i64 (s2.cs.getD a 0)) := (by have := (HD.cellI List.mem_cons_self (pl : Int) hp0 (by exact hp1)).1; rwa [Int.toNat_natCast, HSG.out] at this)
      refine hK.out _ _ ⟨s0_, s1_, s2_, s3_⟩ (fun hHeld => ?_)
      clear hK K
      refine norm_ (a' := ?_) ?_ ?_
      rotate_left
      · show Act.put _ (some 122) _ = _
        simp only [Act.put, List.setIfInBounds_toArray, List.set_cons_zero, List.set_cons_succ, i64_w, i32_w]
        rfl
      refine one_ (i := 15) (N := some 123) #[true, true, true, true, true, true, true, true, true, true, true, true, true, true, true, true, false, false, false] rfl rfl (by kernel_rfl) (by decide) (fun K hK => ?_)
      clear s0_ s1_ s2_ s3_
      refine Hold.appendI_step HE_ (by rfl) (.tmp 112) (.tmp 122) 25 2 rfl Try.underlying25 svInfo (.slice V s2.rd.length vc) s2.rd (s2.cs.getD a 0) rfl rfl (List.mem_cons_of_mem _ (List.mem_cons_of_mem _ (List.mem_cons_of_mem _ (List.mem_cons_of_mem _ List.mem_cons_self)))) (by have := HRL.out; omega) ?_
      intro V5 vc5 lv5 hv5 w6 HQ
      replace HD := HQ _ (.there (.there (.there (.there .here))))
      clear HQ HE_
      have s0_ : w6.cell? ⟨g, 5, none⟩ = some (.slice V s2.rd.length vc) := HD.cell (List.mem_cons_of_mem _ List.mem_cons_self) 5 _ rfl
      have s1_ : w6.cell? ⟨g, 7, none⟩ = some (.map (some p)) := HD.cell (List.mem_cons_of_mem _ List.mem_cons_self) 7 _ rfl
      have s2_ : (Instr.lookup 61 (.map (some p)) (.int .i64 (n : Int)) false).run Try.prog w6 = .ok (.slice (some ⟨(b n), 0, none⟩) 4 (c n)) w6 := (by have := HD.mlook (t := 61) (e := 25) (z := .slice none 0 0) (k := (n : Int)) (List.mem_cons_of_mem _ (List.mem_cons_of_mem _ (List.mem_cons_of_mem _ (List.mem_cons_of_mem _ (List.mem_cons_of_mem _ List.mem_cons_self))))) Try.underlying2 Try.underlying61 (fun _ => rfl) (lit_wf (by omega)); rwa [HM.out, copiesM, if_pos HKN.out] at this)
      have s3_ : w6.cell? ⟨b n, pl, none⟩ = some (.int .i64 (s2.cs.getD a 0)) := (by have := (HD.cellI List.mem_cons_self (pl : Int) hp0 (by exact hp1)).1; rwa [Int.toNat_natCast, HSG.out] at this)
      have fz_ : ∀ j, w6.frozen? ⟨g, j, none⟩ = false := HD.thaw (List.mem_cons_of_mem _ List.mem_cons_self)
      refine hK.out _ _ ⟨s0_, s1_, s2_, s3_⟩ (fun hHeld => ?_)
      clear hK K
      refine norm_ (a' := ?_) ?_ ?_
      rotate_left
      · show Act.put _ (some 123) _ = _
        simp only [Act.put, List.setIfInBounds_toArray, List.set_cons_zero, List.set_cons_succ, i64_w, i32_w]
        rfl
      refine pure_ (i := 16) (N := some 124) (v := ?_) (a' := ?_) #[true, true, true, true, true, true, true, true, true, true, true, true, true, true, true, true, true, false, false] rfl rfl (by kernel_rfl) (fun _ _ _ h => h) (Or.inl ⟨by rfl, ?_⟩) ?_ ?_
      rotate_left
      · intro w'
        go_simp
        with_reducible rfl
      rotate_left
      · simp only [Act.put, List.setIfInBounds_toArray, List.set_cons_zero, List.set_cons_succ, i64_w, i32_w]
        rfl
      refine pure_ (i := 17) (N := some 125) (v := ?_) (a' := ?_) #[true, true, true, true, true, true, true, true, true, true, true, true, true, true, true, true, true, true, false] rfl rfl (by kernel_rfl) (fun _ _ _ h => h) (Or.inl ⟨by rfl, ?_⟩) ?_ ?_
      rotate_left
      · intro w'
        go_simp
        with_reducible rfl
      rotate_left
      · simp only [Act.put, List.setIfInBounds_toArray, List.set_cons_zero, List.set_cons_succ, i64_w, i32_w]
        rfl
      refine last_ (i := 18) (N := none) #[true, true, true, true, true, true, true, true, true, true, true, true, true, true, true, true, true, true, true] rfl rfl (by kernel_rfl) (by decide) (fun K hK => ?_)
      refine skip_ (w1 := ?_) (by rfl) rfl ?_ ?_
      rotate_left
      · go_simp
        rfl
      refine hK.out _ _ ?_
      clear hK K
      refine done_ (by kernel_rfl) ?_
      clear hHeld s0_ s1_ s2_ s3_ fz_
      replace HS := HD
      clear HD
      replace HS := HS.setBox 5 (.slice V5 (s2.rd.length + 1) vc5) (.there .here)
      simp only [List.setIfInBounds_toArray, List.set_cons_zero, List.set_cons_succ] at HS
      generalize w6.setCell ⟨g, 5, none⟩ (.slice V5 (s2.rd.length + 1) vc5) = w6b at HS ⊢
      replace HS := hold_give (f := lineI s2.cs b c lo hi) (K := K) (L := [(boxT #[.slice A0 l0.length c0, .slice A1 l1.length c1, .bool back, .bool al, .slice (some ⟨bm, 0, none⟩) 64 cm, .slice V5 (s2.rd.length + 1) vc5, .slice (some ⟨bk, 0, none⟩) m kc, .map (some p), .map (some q_), .int .i64 s2.h, .int .i64 s2.m, .int .i64 s2.i, .int .i64 s2.o, .int .i64 fl] 64, g, g + 1), (flat (Kd.int .i64) 2 (.slice (some ⟨bm, 0, none⟩) 64 cm) s2.ws, lm, hm), (flat (Kd.int .i64) 2 (.slice (some ⟨bk, 0, none⟩) m kc) s2.cont, lk, hk), (flat (Kd.int .i64) 2 (.slice V5 (s2.rd.length + 1) vc5) (s2.rd ++ [(s2.cs.getD a 0)]), lv5, hv5), (mapT Try.prog 2 M mn, p, p + 1), (mapT Try.prog 2 D dn, q_, q_ + 1)]) HS HKN.out
      have HZ : s2.rd.length + 1 = (s2.rd ++ [(s2.cs.getD a 0)]).length := by simp
      rw [HZ] at HS
      go_wp2_with fail
      (try simp only [Exit.inBlock, Exit.then]); first | refine bodyPost_ret (results_none rfl _ _ _) rfl ?_ | refine bodyPost_end (results_none rfl _ _ _) rfl ?_
      refine ⟨rfl, ImplAt.less (x := (boxT #[.int .i64 q, .int .i64 a] 37, xb, xb + 1)) ?_⟩
      rw [acc_read HN.out HE1.out HS2.out]
      exact ⟨bk, kc, lk, hk, V5, vc5, lv5, hv5, K, b, c, lo, hi, M, D, mn, dn, ⟨HK.out, HM.out, HD_.out, by have := HMN.out; omega, by have := HDN.out; omega⟩, HS⟩
    · obtain rfl : e2 = false := HE2.out
      cases back
      · have q2 : wb.cell? ⟨g, 2, none⟩ = some (.bool false) := HS.cell List.mem_cons_self 2 _ rfl
        go_upto_region 10 with fail
        clear x0 q2
        have HD := Hold.drew HS
        refine start_ (n := 9) (S := fun w' => w'.cell? ⟨g, 4, none⟩ = some (.slice (some ⟨bm, 0, none⟩) 64 cm) ∧ w'.cell? ⟨xb, 1, none⟩ = some (.int .i64 (a : Int))) (ds := [8]) #[false, false, false, false, false, false, false, false, false] (by kernel_rfl) rfl rfl ⟨(HD.cell List.mem_cons_self 4 _ rfl), (HD.cell (List.mem_cons_of_mem _ (List.mem_cons_of_mem _ (List.mem_cons_of_mem _ (List.mem_cons_of_mem _ (List.mem_cons_of_mem _ (List.mem_cons_of_mem _ (List.mem_append_right _ List.mem_cons_self))))))) 1 _ rfl)⟩ (fun hHeld => ?_)
        generalize wb.drew = wz at HD hHeld ⊢
        have st_ := HD.cellI (List.mem_cons_of_mem _ List.mem_cons_self) (a : Int) ha0 (by rw [HOK2.out.ws]; exact ha1)
        rw [Int.toNat_natCast] at st_
        have st1 := st_.1
        have st2 := st_.2
        clear st_
        refine pure_ (i := 0) (N := some 87) (v := ?_) (a' := ?_) #[true, false, false, false, false, false, false, false, false] rfl rfl (by kernel_rfl) (fun _ _ _ h => h) (Or.inl ⟨by rfl, ?_⟩) ?_ ?_
        rotate_left
        · intro w'
          go_simp
          with_reducible rfl
        rotate_left
        · simp only [Act.put, List.setIfInBounds_toArray, List.set_cons_zero, List.set_cons_succ, i64_w, i32_w]
          rfl
        refine pure_ (i := 1) (N := some 88) (v := ?_) (a' := ?_) #[true, true, false, false, false, false, false, false, false] rfl rfl (by kernel_rfl) (fun _ _ _ h => h) (Or.inl ⟨by rfl, ?_⟩) ?_ ?_
        rotate_left
        · intro w'
          go_simp
          with_reducible rfl
        rotate_left
        · simp only [Act.put, List.setIfInBounds_toArray, List.set_cons_zero, List.set_cons_succ, i64_w, i32_w]
          rfl
        refine pure_ (i := 2) (N := some 89) (v := ?_) (a' := ?_) #[true, true, true, false, false, false, false, false, false] rfl rfl (by kernel_rfl) (fun _ _ _ h => h) (Or.inl ⟨by rfl, ?_⟩) ?_ ?_
        rotate_left
        · intro w'
          go_simp
          with_reducible rfl
        rotate_left
        · simp only [Act.put, List.setIfInBounds_toArray, List.set_cons_zero, List.set_cons_succ, i64_w, i32_w]
          rfl
        refine pure_ (i := 4) (N := some 91) (v := ?_) (a' := ?_) #[true, true, true, false, true, false, false, false, false] rfl rfl (by kernel_rfl) (fun _ _ _ h => h) (Or.inl ⟨by rfl, ?_⟩) ?_ ?_
        rotate_left
        · intro w'
          go_simp
          with_reducible rfl
        rotate_left
        · simp only [Act.put, List.setIfInBounds_toArray, List.set_cons_zero, List.set_cons_succ, i64_w, i32_w]
          rfl
        refine pure_ (i := 6) (N := some 93) (v := ?_) (a' := ?_) #[true, true, true, false, true, false, true, false, false] rfl rfl (by kernel_rfl) (fun _ _ _ h => h) (Or.inl ⟨by rfl, ?_⟩) ?_ ?_
        rotate_left
        · intro w'
          go_simp
          with_reducible rfl
        rotate_left
        · simp only [Act.put, List.setIfInBounds_toArray, List.set_cons_zero, List.set_cons_succ, i64_w, i32_w]
          rfl
        refine take_ (i := 3) (N := some 90) (v := ?_) (a' := ?_) #[true, true, true, true, true, false, true, false, false] rfl rfl (by kernel_rfl) (fun _ _ _ h => h) (Or.inl ⟨by rfl, ?_⟩) hHeld ?_ ?_
        rotate_left
        · rintro w' ⟨s0, s1⟩
          go_simp
          with_reducible rfl
        rotate_left
        · simp only [Act.put, List.setIfInBounds_toArray, List.set_cons_zero, List.set_cons_succ, i64_w, i32_w]
          rfl
        refine take_ (i := 5) (N := some 92) (v := ?_) (a' := ?_) #[true, true, true, true, true, true, true, false, false] rfl rfl (by kernel_rfl) (fun _ _ _ h => h) (Or.inl ⟨by rfl, ?_⟩) hHeld ?_ ?_
        rotate_left
        · rintro w' ⟨s0, s1⟩
          go_simp
          with_reducible rfl
        rotate_left
        · simp only [Act.put, List.setIfInBounds_toArray, List.set_cons_zero, List.set_cons_succ, i64_w, i32_w]
          rfl
        refine pure_ (i := 7) (N := some 94) (v := ?_) (a' := ?_) #[true, true, true, true, true, true, true, true, false] rfl rfl (by kernel_rfl) (fun _ _ _ h => h) (Or.inl ⟨by rfl, ?_⟩) ?_ ?_
        rotate_left
        · intro w'
          go_simp
          with_reducible rfl
        rotate_left
        · simp only [Act.put, List.setIfInBounds_toArray, List.set_cons_zero, List.set_cons_succ, i64_w, i32_w]
          rfl
        refine last_ (i := 8) (N := none) #[true, true, true, true, true, true, true, true, true] rfl rfl (by kernel_rfl) (by decide) (fun K hK => ?_)
        refine skip_ (w1 := ?_) (by rfl) rfl ?_ ?_
        rotate_left
        · go_simp
          rfl
        refine hK.out _ _ ?_
        clear hK K
        refine done_ (by kernel_rfl) ?_
        clear hHeld st1 st2
        replace HS := HD
        clear HD
        have H5 := HS.setI (a : Int) v (.there .here)
        rw [Int.toNat_natCast] at H5
        generalize wz.setCell ⟨bm, a, none⟩ (.int .i64 v) = w4 at H5 ⊢
        replace HS := H5
        clear H5
        have y1 := HOB.out.1
        have y2 := HOB.out.2
        have q12 : w4.cell? ⟨g, 12, none⟩ = some (.int .i64 s2.o) := HS.cell List.mem_cons_self 12 _ rfl
        have fzq : ∀ j, w4.frozen? ⟨g, j, none⟩ = false := HS.thaw List.mem_cons_self
        go_upto_region 16 with fail
        clear y1 y2 q12 fzq
        replace HS := HS.setBox 12 (.int .i64 (s2.o + 1)) .here
        simp only [List.setIfInBounds_toArray, List.set_cons_zero, List.set_cons_succ] at HS
        generalize w4.setCell ⟨g, 12, none⟩ (.int .i64 (s2.o + 1)) = w5 at HS ⊢
        replace HS := hold_take (L := [(boxT #[.slice A0 l0.length c0, .slice A1 l1.length c1, .bool false, .bool al, .slice (some ⟨bm, 0, none⟩) 64 cm, .slice V s2.rd.length vc, .slice (some ⟨bk, 0, none⟩) m kc, .map (some p), .map (some q_), .int .i64 s2.h, .int .i64 s2.m, .int .i64 s2.i, .int .i64 (s2.o + 1), .int .i64 fl] 64, g, g + 1), (flat (Kd.int .i64) 2 (.slice (some ⟨bm, 0, none⟩) 64 cm) (s2.ws.set a v), lm, hm), (flat (Kd.int .i64) 2 (.slice (some ⟨bk, 0, none⟩) m kc) s2.cont, lk, hk), (flat (Kd.int .i64) 2 (.slice V s2.rd.length vc) s2.rd, lv, hv), (mapT Try.prog 2 M mn, p, p + 1), (mapT Try.prog 2 D dn, q_, q_ + 1)]) HS HKN.out
        change Hold w0 w5 ((flat (Kd.int .i64) 2 (.slice (some ⟨(b n), 0, none⟩) 4 (c n)) (segC s2.cs (n : Int)), (lo n), (hi n)) :: (boxT #[.slice A0 l0.length c0, .slice A1 l1.length c1, .bool false, .bool al, .slice (some ⟨bm, 0, none⟩) 64 cm, .slice V s2.rd.length vc, .slice (some ⟨bk, 0, none⟩) m kc, .map (some p), .map (some q_), .int .i64 s2.h, .int .i64 s2.m, .int .i64 s2.i, .int .i64 (s2.o + 1), .int .i64 fl] 64, g, g + 1) :: (flat (Kd.int .i64) 2 (.slice (some ⟨bm, 0, none⟩) 64 cm) (s2.ws.set a v), lm, hm) :: (flat (Kd.int .i64) 2 (.slice (some ⟨bk, 0, none⟩) m kc) s2.cont, lk, hk) :: (flat (Kd.int .i64) 2 (.slice V s2.rd.length vc) s2.rd, lv, hv) :: (mapT Try.prog 2 M mn, p, p + 1) :: (mapT Try.prog 2 D dn, q_, q_ + 1) :: ((K.erase (n : Int)).map (lineI s2.cs b c lo hi) ++ (boxT #[.int .i64 q, .int .i64 a] 37, xb, xb + 1) :: R)) at HS
        have q7 : w5.cell? ⟨g, 7, none⟩ = some (.map (some p)) := HS.cell (List.mem_cons_of_mem _ List.mem_cons_self) 7 _ rfl
        have lk1 : (Instr.lookup 61 (.map (some p)) (.int .i64 (n : Int)) false).run Try.prog w5 = .ok (.slice (some ⟨(b n), 0, none⟩) 4 (c n)) w5 := (by have := HS.mlook (t := 61) (e := 25) (z := .slice none 0 0) (k := (n : Int)) (List.mem_cons_of_mem _ (List.mem_cons_of_mem _ (List.mem_cons_of_mem _ (List.mem_cons_of_mem _ (List.mem_cons_of_mem _ List.mem_cons_self))))) Try.underlying2 Try.underlying61 (fun _ => rfl) (lit_wf (by omega)); rwa [HM.out, copiesM, if_pos HKN.out] at this)
        have ra := HS.cellI List.mem_cons_self (pl : Int) hp0 (by exact hp1)
        rw [Int.toNat_natCast] at ra
        have ra1 := ra.1
        have ra2 := ra.2
        clear ra
        go_wp2_with fail
        clear lk1 ra1 ra2 q7
        have H5 := HS.setI (pl : Int) v .here
        rw [Int.toNat_natCast] at H5
        generalize w5.setCell ⟨b n, pl, none⟩ (.int .i64 v) = wx at H5 ⊢
        replace HS := H5
        clear H5
        have HLN := lines_set (K := K.erase (n : Int)) (n := n) (a := a) (fun k hk => ⟨((HK.out.mem k).1 (List.mem_of_mem_erase hk)).1, fun e => ((HK.out.nodup.mem_erase_iff).1 hk).1 e⟩) s2.cs b c lo hi HN.out HP.out (by rw [HOK2.out.cs]; exact HAL.out) v
        rw [HLN.1] at HS
        change Hold w0 wx ((flat (Kd.int .i64) 2 (.slice (some ⟨(b n), 0, none⟩) 4 (c n)) ((segC s2.cs (n : Int)).set pl v), (lo n), (hi n)) :: _) at HS
        rw [HLN.2] at HS
        replace HS := hold_give (f := lineI (s2.cs.set a v) b c lo hi) (K := K) (L := [(boxT #[.slice A0 l0.length c0, .slice A1 l1.length c1, .bool false, .bool al, .slice (some ⟨bm, 0, none⟩) 64 cm, .slice V s2.rd.length vc, .slice (some ⟨bk, 0, none⟩) m kc, .map (some p), .map (some q_), .int .i64 s2.h, .int .i64 s2.m, .int .i64 s2.i, .int .i64 (s2.o + 1), .int .i64 fl] 64, g, g + 1), (flat (Kd.int .i64) 2 (.slice (some ⟨bm, 0, none⟩) 64 cm) (s2.ws.set a v), lm, hm), (flat (Kd.int .i64) 2 (.slice (some ⟨bk, 0, none⟩) m kc) s2.cont, lk, hk), (flat (Kd.int .i64) 2 (.slice V s2.rd.length vc) s2.rd, lv, hv), (mapT Try.prog 2 M mn, p, p + 1), (mapT Try.prog 2 D dn, q_, q_ + 1)]) HS HKN.out
        (try simp only [Exit.inBlock, Exit.then]); first | refine bodyPost_ret (results_none rfl _ _ _) rfl ?_ | refine bodyPost_end (results_none rfl _ _ _) rfl ?_
        refine ⟨rfl, ImplAt.less (x := (boxT #[.int .i64 q, .int .i64 a] 37, xb, xb + 1)) ?_⟩
        rw [(acc_write HN.out HE1.out (by rw [HBB.out]; simpa using HDJ.out) HS2.out).trans (writeC_thru), ← HVAL.out]
        exact ⟨bk, kc, lk, hk, V, vc, lv, hv, K, b, c, lo, hi, M, D, mn, dn, ⟨HK.out, HM.out, HD_.out, by have := HMN.out; omega, by have := HDN.out; omega⟩, HS⟩
      · have q2 : wb.cell? ⟨g, 2, none⟩ = some (.bool true) := HS.cell List.mem_cons_self 2 _ rfl
        go_upto_region 15 with fail
        clear x0 q2
        have q8 : wb.cell? ⟨g, 8, none⟩ = some (.map (some q_)) := HS.cell List.mem_cons_self 8 _ rfl
        obtain ⟨wy, hput, HQ⟩ := HS.mput (t := 62) (e := 4) (List.mem_cons_of_mem _ (List.mem_cons_of_mem _ (List.mem_cons_of_mem _ (List.mem_cons_of_mem _ (List.mem_cons_of_mem _ List.mem_cons_self))))) Try.underlying2 Try.underlying62 (by have := HDN.out; have := HBD.out; omega) (k := (n : Int)) (lit_wf (by omega)) (.bool true)
        go_upto_region 16 with fail
        replace HS := HQ _ (.there (.there (.there (.there (.there .here)))))
        clear HQ hput q8
        replace HS := hold_take (L := [(boxT #[.slice A0 l0.length c0, .slice A1 l1.length c1, .bool true, .bool al, .slice (some ⟨bm, 0, none⟩) 64 cm, .slice V s2.rd.length vc, .slice (some ⟨bk, 0, none⟩) m kc, .map (some p), .map (some q_), .int .i64 s2.h, .int .i64 s2.m, .int .i64 s2.i, .int .i64 s2.o, .int .i64 fl] 64, g, g + 1), (flat (Kd.int .i64) 2 (.slice (some ⟨bm, 0, none⟩) 64 cm) s2.ws, lm, hm), (flat (Kd.int .i64) 2 (.slice (some ⟨bk, 0, none⟩) m kc) s2.cont, lk, hk), (flat (Kd.int .i64) 2 (.slice V s2.rd.length vc) s2.rd, lv, hv), (mapT Try.prog 2 M mn, p, p + 1), (mapT Try.prog 2 (fun j => if j = (n : Int) then some (.bool true) else D j) (if (D n).isSome then dn else dn + 1), q_, q_ + 1)]) HS HKN.out
        change Hold w0 wy ((flat (Kd.int .i64) 2 (.slice (some ⟨(b n), 0, none⟩) 4 (c n)) (segC s2.cs (n : Int)), (lo n), (hi n)) :: (boxT #[.slice A0 l0.length c0, .slice A1 l1.length c1, .bool true, .bool al, .slice (some ⟨bm, 0, none⟩) 64 cm, .slice V s2.rd.length vc, .slice (some ⟨bk, 0, none⟩) m kc, .map (some p), .map (some q_), .int .i64 s2.h, .int .i64 s2.m, .int .i64 s2.i, .int .i64 s2.o, .int .i64 fl] 64, g, g + 1) :: (flat (Kd.int .i64) 2 (.slice (some ⟨bm, 0, none⟩) 64 cm) s2.ws, lm, hm) :: (flat (Kd.int .i64) 2 (.slice (some ⟨bk, 0, none⟩) m kc) s2.cont, lk, hk) :: (flat (Kd.int .i64) 2 (.slice V s2.rd.length vc) s2.rd, lv, hv) :: (mapT Try.prog 2 M mn, p, p + 1) :: (mapT Try.prog 2 (fun j => if j = (n : Int) then some (.bool true) else D j) (if (D n).isSome then dn else dn + 1), q_, q_ + 1) :: ((K.erase (n : Int)).map (lineI s2.cs b c lo hi) ++ (boxT #[.int .i64 q, .int .i64 a] 37, xb, xb + 1) :: R)) at HS
        have q7 : wy.cell? ⟨g, 7, none⟩ = some (.map (some p)) := HS.cell (List.mem_cons_of_mem _ List.mem_cons_self) 7 _ rfl
        have lk1 : (Instr.lookup 61 (.map (some p)) (.int .i64 (n : Int)) false).run Try.prog wy = .ok (.slice (some ⟨(b n), 0, none⟩) 4 (c n)) wy := (by have := HS.mlook (t := 61) (e := 25) (z := .slice none 0 0) (k := (n : Int)) (List.mem_cons_of_mem _ (List.mem_cons_of_mem _ (List.mem_cons_of_mem _ (List.mem_cons_of_mem _ (List.mem_cons_of_mem _ List.mem_cons_self))))) Try.underlying2 Try.underlying61 (fun _ => rfl) (lit_wf (by omega)); rwa [HM.out, copiesM, if_pos HKN.out] at this)
        have ra := HS.cellI List.mem_cons_self (pl : Int) hp0 (by exact hp1)
        rw [Int.toNat_natCast] at ra
        have ra1 := ra.1
        have ra2 := ra.2
        clear ra
        go_wp2_with fail
        clear lk1 ra1 ra2 q7
        have H5 := HS.setI (pl : Int) v .here
        rw [Int.toNat_natCast] at H5
        generalize wy.setCell ⟨b n, pl, none⟩ (.int .i64 v) = wx at H5 ⊢
        replace HS := H5
        clear H5
        have HLN := lines_set (K := K.erase (n : Int)) (n := n) (a := a) (fun k hk => ⟨((HK.out.mem k).1 (List.mem_of_mem_erase hk)).1, fun e => ((HK.out.nodup.mem_erase_iff).1 hk).1 e⟩) s2.cs b c lo hi HN.out HP.out (by rw [HOK2.out.cs]; exact HAL.out) v
        rw [HLN.1] at HS
        change Hold w0 wx ((flat (Kd.int .i64) 2 (.slice (some ⟨(b n), 0, none⟩) 4 (c n)) ((segC s2.cs (n : Int)).set pl v), (lo n), (hi n)) :: _) at HS
        rw [HLN.2] at HS
        replace HS := hold_give (f := lineI (s2.cs.set a v) b c lo hi) (K := K) (L := [(boxT #[.slice A0 l0.length c0, .slice A1 l1.length c1, .bool true, .bool al, .slice (some ⟨bm, 0, none⟩) 64 cm, .slice V s2.rd.length vc, .slice (some ⟨bk, 0, none⟩) m kc, .map (some p), .map (some q_), .int .i64 s2.h, .int .i64 s2.m, .int .i64 s2.i, .int .i64 s2.o, .int .i64 fl] 64, g, g + 1), (flat (Kd.int .i64) 2 (.slice (some ⟨bm, 0, none⟩) 64 cm) s2.ws, lm, hm), (flat (Kd.int .i64) 2 (.slice (some ⟨bk, 0, none⟩) m kc) s2.cont, lk, hk), (flat (Kd.int .i64) 2 (.slice V s2.rd.length vc) s2.rd, lv, hv), (mapT Try.prog 2 M mn, p, p + 1), (mapT Try.prog 2 (fun j => if j = (n : Int) then some (.bool true) else D j) (if (D n).isSome then dn else dn + 1), q_, q_ + 1)]) HS HKN.out
        (try simp only [Exit.inBlock, Exit.then]); first | refine bodyPost_ret (results_none rfl _ _ _) rfl ?_ | refine bodyPost_end (results_none rfl _ _ _) rfl ?_
        refine ⟨rfl, ImplAt.less (x := (boxT #[.int .i64 q, .int .i64 a] 37, xb, xb + 1)) ?_⟩
        rw [(acc_write HN.out HE1.out (by rw [HBB.out]; simpa using HDJ.out) HS2.out).trans (writeC_back HN.out), ← HVAL.out]
        exact ⟨bk, kc, lk, hk, V, vc, lv, hv, K, b, c, lo, hi, M, _, mn, _, ⟨HK.out, HM.out, fun k => by rw [← dirty_put HOK2.out.ds (Int.ofNat_lt.1 hn1), ← HD_.out k], by have := HMN.out; omega, by have := HDN.out; split <;> omega⟩, HS⟩
theorem getD_memL {α : Type} (l : List α) (i : Nat) (z : α) (h : i < l.length) : l.getD i z ∈ l := by rw [getD_lt l i z h]; exact List.getElem_mem h
theorem bnd_access {s : CacheV} {k : Nat} (h : s.Bnd k) (hk : k < 100) : (0 ≤ s.h ∧ s.h ≤ 1000) ∧ (0 ≤ s.m ∧ s.m ≤ 900) ∧ (0 ≤ s.i ∧ s.i ≤ 1000) ∧ (0 ≤ s.o ∧ s.o ≤ 1000) ∧ s.rd.length ≤ 1000 ∧ 2 * k ≤ 1000 := by
  obtain ⟨h1, h2, h3, h4, h5⟩ := h
  refine ⟨⟨h1.1, by omega⟩, ⟨h2.1, by omega⟩, ⟨h3.1, by omega⟩, ⟨h4.1, by omega⟩, by omega, by omega⟩
theorem keys_start (m : Nat) : Keys [] (List.replicate m (-1)) := ⟨List.nodup_nil, fun y => by
  constructor
  · intro h; cases h
  · rintro ⟨h1, h2⟩
    rw [List.eq_of_mem_replicate h2] at h1
    omega⟩
theorem start_dirty (k : Int) : dirtyM (List.replicate 16 false) k = none := by
  unfold dirtyM
  rw [if_neg]
  rintro ⟨_, h⟩
  rw [List.getD_eq_getElem?_getD, List.getElem?_replicate] at h
  split at h <;> simp at h
set_option maxHeartbeats 4000000 in
set_option maxRecDepth 100000 in
theorem cached_calls {w : World} {m : Nat} (A0 : Option Addr) (c0 : Nat) (l0 : List (List Int)) (A1 : Option Addr) (c1 : Nat) (l1 : List Int) (back al : Bool) (AT : Option Addr) (cT : Nat) (t : List S37) {fin : CacheV} (hr0 : Kd.C (Kd.slice 2 (Kd.int .i64)) w A0 l0.length l0) (hc0 : l0.length ≤ c0) (hr1 : Kd.C (Kd.int .i64) w A1 l1.length l1) (hc1 : l1.length ≤ c1) (hval : validB l0 l1 = true) (hlm : l1.length = m) (hT : Kd.C k37 w AT t.length t) (hct : t.length ≤ cT) (hV : ∀ x ∈ t, ∃ a : Nat, x.f1 = (a : Int) ∧ a < 64 ∧ (x.f0 = 0 ∨ x.f0 = 1)) (ht60 : t.length ≤ 60) (hfin : runC l0 l1 back al 0 (t.map pairA) (startC m) = fin) (he : impl_Policy_empty.f l0 l1 = some (List.replicate m (-1))) :
    Calls Try.prog 27 #[.agg #[.slice A0 l0.length c0, .slice A1 l1.length c1, .bool back, .bool al], .slice AT t.length cT] w fun e w' => ∃ g, e = .returned (.pointer (some ⟨g, 0, none⟩)) ∧ ∃ bm cm lm hm p q R, ImplAt w w' R g bm cm lm hm p q m A0 c0 l0.length A1 c1 l1.length back al 0 (2 * t.length) fin := by
  have HR0 := Aside0.mk hr0
  have HC0 := Aside0.mk hc0
  have HR1 := Aside0.mk hr1
  have HC1 := Aside0.mk hc1
  have HVL := Aside0.mk hval
  have HLM := Aside0.mk hlm
  have HT := Aside0.mk hT
  have HCT := Aside0.mk hct
  have HV := Aside0.mk hV
  have HT60 := Aside0.mk ht60
  have HF := Aside0.mk hfin
  have HE := Aside0.mk he
  clear hr0 hc0 hr1 hc1 hval hlm hT hct hV ht60 hfin he
  have HM1 : Aside0 (1 ≤ m ∧ m ≤ 6) := ⟨by have h1 := valid_facts HVL.out; have h2 := HLM.out; omega⟩
  have HS := (Hold.start w).box #[.slice A0 l0.length c0, .slice A1 l1.length c1, .bool back, .bool al] 29
  go_enter Try.func27, Try.ntmps27
  go_upto_region 1 with fail
  generalize w.alloc (.cells #[.slice A0 l0.length c0, .slice A1 l1.length c1, .bool back, .bool al] 29) = wa at HS ⊢
  generalize w.heap.size = cb at HS ⊢
  have HD := Hold.drew HS
  refine start_ (n := 10) (S := fun w' => w'.cell? ⟨cb, 0, none⟩ = some (.slice A0 l0.length c0) ∧ w'.cell? ⟨cb, 1, none⟩ = some (.slice A1 l1.length c1) ∧ w'.cell? ⟨cb, 2, none⟩ = some (.bool back) ∧ w'.cell? ⟨cb, 3, none⟩ = some (.bool al)) (ds := []) #[false, false, false, false, false, false, false, false, false, false] (by kernel_rfl) rfl rfl ⟨HD.cell List.mem_cons_self 0 _ rfl, HD.cell List.mem_cons_self 1 _ rfl, HD.cell List.mem_cons_self 2 _ rfl, HD.cell List.mem_cons_self 3 _ rfl⟩ (fun hHeld => ?_)
  generalize wa.drew = wd at HD hHeld ⊢
  refine pure_ (i := 2) (N := some 10) (v := ?_) (a' := ?_) #[false, false, true, false, false, false, false, false, false, false] rfl rfl (by kernel_rfl) (fun _ _ _ h => h) (Or.inl ⟨by rfl, ?_⟩) ?_ ?_
  rotate_left
  · intro w'
    go_simp
    with_reducible rfl
  rotate_left
  · simp only [Act.put, List.setIfInBounds_toArray, List.set_cons_zero, List.set_cons_succ, i64_w, i32_w]
    rfl
  refine take_ (i := 0) (N := some 8) (v := ?_) (a' := ?_) #[true, false, true, false, false, false, false, false, false, false] rfl rfl (by kernel_rfl) (fun _ _ _ h => h) (Or.inl ⟨by rfl, ?_⟩) hHeld ?_ ?_
  rotate_left
  · rintro w' ⟨s0, s1, s2, s3⟩
    go_simp
    with_reducible rfl
  rotate_left
  · simp only [Act.put, List.setIfInBounds_toArray, List.set_cons_zero, List.set_cons_succ, i64_w, i32_w]
    rfl
  refine take_ (i := 3) (N := some 11) (v := ?_) (a' := ?_) #[true, false, true, true, false, false, false, false, false, false] rfl rfl (by kernel_rfl) (fun _ _ _ h => h) (Or.inl ⟨by rfl, ?_⟩) hHeld ?_ ?_
  rotate_left
  · rintro w' ⟨s0, s1, s2, s3⟩
    go_simp
    with_reducible rfl
  rotate_left
  · simp only [Act.put, List.setIfInBounds_toArray, List.set_cons_zero, List.set_cons_succ, i64_w, i32_w]
    rfl
  clear hHeld
  refine makers2_ (M := [1, 4, 5, 6]) (fuel := 3) (fun i => if i = 1 then 9 else if i = 4 then 12 else if i = 5 then 13 else 14) (fun U => #[true, !U.contains 1, true, true, !U.contains 4, !U.contains 5, !U.contains 6, false, false, false]) (fun i v => if i = 1 then flat (Kd.int .i64) 2 v (List.replicate 64 (0 : Int)) else if i = 4 then flat (Kd.int .i64) 2 v (List.replicate m (-1 : Int)) else if i = 5 then madeMap Try.prog 2 v else madeMap Try.prog 2 v) (by rfl) (by rfl) (by rfl) (by kernel_rfl) (fun W L hW hs => ⟨hW.cell (hs _ List.mem_cons_self) 0 _ rfl, hW.cell (hs _ List.mem_cons_self) 1 _ rfl, hW.cell (hs _ List.mem_cons_self) 2 _ rfl, hW.cell (hs _ List.mem_cons_self) 3 _ rfl⟩) ?_ HD ?_
  · intro i hi
    simp only [List.mem_cons, List.not_mem_nil, or_false] at hi
    rcases hi with rfl | rfl | rfl | rfl
    · exact Makes.slice (Kd.int .i64) 2 25 64 (.int .i64 0) 8 (0 : Int) rfl (fun xs v => fillA_put (i := 1) (by decide) (by decide) xs v _) (fun _ => rfl) rfl rfl Try.underlying25 svInfo rfl Nat.one_pos (by decide) (fun _ _ => rfl) (by decide) (by decide) (fun _ => rfl)
    · exact Makes.call (Kd.int .i64) 2 #[.agg #[.slice A0 l0.length c0, .slice A1 l1.length c1]] (List.replicate m (-1)) rfl (fun xs v => fillA_put (i := 4) (by decide) (by decide) xs v _) (fun _ => rfl) Try.func41 (by kernel_rfl) rfl rfl (fun xs => by rw [List.map_toArray, List.map_cons, List.map_nil, fillA_eval _ _ _ _ _ (by decide)]; rfl) (fun _ => rfl) (fun W L hW _ => (impl_Policy_empty.calls A0 c0 l0 A1 c1 l1 _ _ (Kd.C_below HR0.out hW.below) HC0.out (Kd.C_below HR1.out hW.below) HC1.out HE.out).mono (by rintro e w' ⟨v, rfl, hr, hb⟩; exact ⟨v, rfl, hr, hb⟩))
    · exact Makes.map 2 rfl (fun xs v => fillA_put (i := 5) (by decide) (by decide) xs v _) (fun _ => rfl) (fun xs W => by first | rfl | go_simp) (fun _ => rfl)
    · exact Makes.map 2 rfl (fun xs v => fillA_put (i := 6) (by decide) (by decide) xs v _) (fun _ => rfl) (fun xs W => by first | rfl | go_simp) (fun _ => rfl)
  intro xs lo hi W' HD
  change Hold w W' [(flat (Kd.int .i64) 2 (xs 1) (List.replicate 64 (0 : Int)), lo 1, hi 1), (flat (Kd.int .i64) 2 (xs 4) (List.replicate m (-1 : Int)), lo 4, hi 4), (madeMap Try.prog 2 (xs 5), lo 5, hi 5), (madeMap Try.prog 2 (xs 6), lo 6, hi 6), (boxT #[.slice A0 l0.length c0, .slice A1 l1.length c1, .bool back, .bool al] 29, cb, cb + 1)] at HD
  generalize lo 1 = lo1 at HD
  generalize hi 1 = hi1 at HD
  generalize lo 4 = lo4 at HD
  generalize hi 4 = hi4 at HD
  generalize lo 5 = lo5 at HD
  generalize hi 5 = hi5 at HD
  generalize lo 6 = lo6 at HD
  generalize hi 6 = hi6 at HD
  show wpAnyLast _ _ _ _ _ _ 3 #[true, true, true, true, true, true, true, false, false, false] _ _
  refine norm_ (a' := ?_) ?_ ?_
  rotate_left
  · dsimp only [fillA, Act.put]
    simp only [List.setIfInBounds_toArray, List.set_cons_zero, List.set_cons_succ, ↓reduceIte, Nat.reduceEqDiff]
    rfl
  generalize xs 1 = x1 at HD ⊢
  generalize xs 4 = x4 at HD ⊢
  generalize xs 5 = x5 at HD ⊢
  generalize xs 6 = x6 at HD ⊢
  obtain ⟨bm, cm, rfl, _, _⟩ := HD.row_form List.mem_cons_self (by rw [List.length_replicate]; decide)
  obtain ⟨bk, kc, rfl, _, _⟩ := HD.row_form (List.mem_cons_of_mem _ List.mem_cons_self) (by rw [List.length_replicate]; exact HM1.out.1)
  obtain ⟨rfl, _⟩ := HD.map_form (List.mem_cons_of_mem _ (List.mem_cons_of_mem _ List.mem_cons_self))
  obtain ⟨rfl, _⟩ := HD.map_form (List.mem_cons_of_mem _ (List.mem_cons_of_mem _ (List.mem_cons_of_mem _ List.mem_cons_self)))
  simp only [List.length_replicate] at HD ⊢
  refine pure_ (i := 7) (N := some 15) (v := ?_) (a' := ?_) #[true, true, true, true, true, true, true, true, false, false] rfl rfl (by kernel_rfl) (fun _ _ _ h => h) (Or.inl ⟨by rfl, ?_⟩) ?_ ?_
  rotate_left
  · intro w'
    go_simp
    with_reducible rfl
  rotate_left
  · simp only [Act.put, List.setIfInBounds_toArray, List.set_cons_zero, List.set_cons_succ, i64_w, i32_w]
    rfl
  refine one_ (i := 8) (N := some 16) #[true, true, true, true, true, true, true, true, true, false] rfl rfl (by kernel_rfl) (by decide) (fun K hK => ?_)
  refine value_ (w1 := ?_) (v := ?_) (by rfl) rfl ?_ ?_
  rotate_left 2
  · go_simp
    constructor
    · rfl
    · rfl
  replace HD := HD.box #[.slice A0 l0.length c0, .slice A1 l1.length c1, .bool back, .bool al, .slice (some ⟨bm, 0, none⟩) 64 cm, .slice none 0 0, .slice (some ⟨bk, 0, none⟩) m kc, .map (some lo5), .map (some lo6), .int .i64 0, .int .i64 0, .int .i64 0, .int .i64 0, .int .i64 0] 64
  refine hK.out _ _ ⟨HD.cell (List.mem_cons_of_mem _ (List.mem_cons_of_mem _ (List.mem_cons_of_mem _ (List.mem_cons_of_mem _ (List.mem_cons_of_mem _ List.mem_cons_self))))) 0 _ rfl, HD.cell (List.mem_cons_of_mem _ (List.mem_cons_of_mem _ (List.mem_cons_of_mem _ (List.mem_cons_of_mem _ (List.mem_cons_of_mem _ List.mem_cons_self))))) 1 _ rfl, HD.cell (List.mem_cons_of_mem _ (List.mem_cons_of_mem _ (List.mem_cons_of_mem _ (List.mem_cons_of_mem _ (List.mem_cons_of_mem _ List.mem_cons_self))))) 2 _ rfl, HD.cell (List.mem_cons_of_mem _ (List.mem_cons_of_mem _ (List.mem_cons_of_mem _ (List.mem_cons_of_mem _ (List.mem_cons_of_mem _ List.mem_cons_self))))) 3 _ rfl⟩ (fun _ => ?_)
  clear hK K
  refine norm_ (a' := ?_) ?_ ?_
  rotate_left
  · simp only [Act.put, List.setIfInBounds_toArray, List.set_cons_zero, List.set_cons_succ, i64_w, i32_w]
    rfl
  refine pure_ (i := 9) (N := some 5) (v := ?_) (a' := ?_) #[true, true, true, true, true, true, true, true, true, true] rfl rfl (by kernel_rfl) (fun _ _ _ h => h) (Or.inl ⟨by rfl, ?_⟩) ?_ ?_
  rotate_left
  · intro w'
    go_simp
    with_reducible rfl
  rotate_left
  · simp only [Act.put, List.setIfInBounds_toArray, List.set_cons_zero, List.set_cons_succ, i64_w, i32_w]
    rfl
  refine done_ (by kernel_rfl) ?_
  replace HS := HD
  clear HD
  generalize W'.alloc (.cells #[.slice A0 l0.length c0, .slice A1 l1.length c1, .bool back, .bool al, .slice (some ⟨bm, 0, none⟩) 64 cm, .slice none 0 0, .slice (some ⟨bk, 0, none⟩) m kc, .map (some lo5), .map (some lo6), .int .i64 0, .int .i64 0, .int .i64 0, .int .i64 0, .int .i64 0] 64) = w2 at HS ⊢
  generalize W'.heap.size = g at HS ⊢
  have H1 := Hold.map_open (HS.pick (.there (.there (.there .here))))
  have H2 := Hold.map_open (H1.pick (.there (.there (.there (.there .here)))))
  replace HS := H2.nilRow (Kd.int .i64) 2
  clear H1 H2
  replace HS := HS.pick (.there (.there (.there (.there (.there (.there .here))))))
  replace HS := HS.pick (.there (.there .here))
  replace HS := HS.pick (.there (.there (.there .here)))
  replace HS := HS.pick (.there (.there (.there .here)))
  replace HS := HS.pick (.there (.there (.there (.there (.there (.there .here))))))
  replace HS := HS.pick (.there (.there (.there (.there (.there (.there .here))))))
  replace HS := HS.pick (.there (.there (.there (.there (.there (.there .here))))))
  have H0 : Aside0 (ImplAt w w2 [(boxT #[.slice A0 l0.length c0, .slice A1 l1.length c1, .bool back, .bool al] 29, cb, cb + 1)] g bm cm lo1 hi1 lo5 lo6 m A0 c0 l0.length A1 c1 l1.length back al 0 (2 * 0) (startC m)) := ⟨⟨bk, kc, lo4, hi4, none, 0, _, _, [], fun _ => 0, fun _ => 0, fun _ => 0, fun _ => 0, fun _ => none, fun _ => none, 0, 0, ⟨keys_start m, fun _ => rfl, fun k => (start_dirty k).symm, Nat.le_refl _, Nat.le_refl _⟩, HS⟩⟩
  clear HS
  go_wp2_with fail
  go_loopg [19] t.length (fun gg s19 wr => ∃ (kk : Nat) (s : CacheV), kk ≤ t.length ∧ t.length - kk ≤ gg ∧ s19 = .int .i64 kk ∧ Aside0 (runC l0 l1 back al kk ((t.drop kk).map pairA) s = fin) ∧ Aside0 (s.Ok m ∧ s.Fine ∧ s.Bnd kk) ∧ Aside0 (ImplAt w wr [(boxT #[.slice A0 l0.length c0, .slice A1 l1.length c1, .bool back, .bool al] 29, cb, cb + 1)] g bm cm lo1 hi1 lo5 lo6 m A0 c0 l0.length A1 c1 l1.length back al 0 (2 * kk) s))
  case atStart => exact ⟨0, startC m, Nat.zero_le _, by omega, rfl, ⟨by simpa using HF.out⟩, ⟨start_ok m, start_fine m, start_bnd m⟩, H0⟩
  case round =>
    clear H0 HF HE
    obtain ⟨kk, s, hkk, hg, rfl, HRUN, HI, HSS⟩ := hrel
    by_cases hlt : kk < t.length
    · have hltz : (kk : Int) < (t.length : Int) := by omega
      have hbel : Below w.heap.size w wr := by obtain ⟨_, _, _, _, _, _, _, _, _, _, _, _, _, _, _, _, _, _, H_⟩ := HSS.out; exact H_.below
      obtain ⟨ad, e, hx0, hx1⟩ := at_T37 (Kd.C_below HT.out hbel) (kk : Int) (by omega) hltz
      subst e
      obtain ⟨x, hx⟩ : ∃ x, x = rd_T37 t (kk : Int) := ⟨_, rfl⟩
      simp only [Int.toNat_natCast] at hx0 hx1
      rw [← hx] at hx0 hx1
      obtain ⟨a, ha, hal, hk01⟩ : ∃ a : Nat, x.f1 = (a : Int) ∧ a < 64 ∧ (x.f0 = 0 ∨ x.f0 = 1) := HV.out x (by rw [hx]; exact getD_memL t kk _ hlt)
      rw [ha] at hx1
      have HX := Aside0.mk hx
      have HA := Aside0.mk ha
      have HK01 := Aside0.mk hk01
      clear hx ha hk01 hbel
      have bk60 : (kk : Int) < 60 := by have := HT60.out; omega
      have H2 : Aside0 (ImplAt w (wr.alloc (.cells #[.int .i64 x.f0, .int .i64 (a : Int)] 37)) [(boxT #[.slice A0 l0.length c0, .slice A1 l1.length c1, .bool back, .bool al] 29, cb, cb + 1)] g bm cm lo1 hi1 lo5 lo6 m A0 c0 l0.length A1 c1 l1.length back al 0 (2 * kk) s) := ⟨by obtain ⟨bk, kc, lk, hk, V, vc, lv, hv, K, b, c, lo, hi, M, D, mn, dn, hh, HS⟩ := HSS.out; exact ⟨bk, kc, lk, hk, V, vc, lv, hv, K, b, c, lo, hi, M, D, mn, dn, hh, HS.alloc _⟩⟩
      go_wp2_with fail
      clear hx0 hx1
      refine (access_calls (a := a) (k := kk) H2.out HR0.out HC0.out HR1.out HC1.out HVL.out HLM.out HI.out.1 HI.out.2.1 (bnd_access HI.out.2.2 (by have := HT60.out; omega)) hal HK01.out rfl).mono ?_
      clear H2
      rintro e w6 ⟨rfl, H6⟩
      have HS6 := Aside0.mk H6
      clear H6
      have HR2 : Aside0 (runC l0 l1 back al (kk + 1) ((t.drop (kk + 1)).map pairA) (accessC l0 l1 back al kk x.f0 a s) = fin) := ⟨(runC_drop l0 l1 back al hlt HX.out HA.out s).symm.trans HRUN.out⟩
      have HI2 : Aside0 ((accessC l0 l1 back al kk x.f0 a s).Ok m ∧ (accessC l0 l1 back al kk x.f0 a s).Fine ∧ (accessC l0 l1 back al kk x.f0 a s).Bnd (kk + 1)) := ⟨accessC_ok (fun c x hc => okStep_valid HVL.out c (hc.trans HLM.out.symm) x) (fun c x hc => (stepV_length HVL.out c (hc.trans HLM.out.symm) x).trans HLM.out) HI.out.1 back al kk x.f0 hal, access_fine HVL.out (HI.out.1.cont.trans HLM.out.symm) HI.out.2.1 back al kk x.f0 a, access_bnd l0 l1 back al kk x.f0 a HI.out.2.2⟩
      go_wp2_with fail
      go_roundg (t.length - (kk + 1))
      case measure => omega
      case rel => exact ⟨kk + 1, (accessC l0 l1 back al kk x.f0 a s), hlt, Nat.le_refl _, rfl, HR2, HI2, HS6⟩
    · obtain rfl : kk = t.length := by omega
      have hltz : ¬ ((t.length : Nat) : Int) < (t.length : Int) := by omega
      have hs : s = fin := by have := HRUN.out; rw [List.drop_eq_nil_of_le (Nat.le_refl _)] at this; exact this
      subst hs
      go_wp2_with fail
      go_ret
      exact ⟨g, rfl, bm, cm, lo1, hi1, lo5, lo6, [(boxT #[.slice A0 l0.length c0, .slice A1 l1.length c1, .bool back, .bool al] 29, cb, cb + 1)], HSS.out⟩
theorem isCached_f {h : List (List Int)} {m : List Int} (b1 b2 : Bool) {t : List S37} (hp : polLen h m) : impl_isCached.f h m b1 b2 t = some (validB h m && traceB t) := by
  unfold impl_isCached.f impl_ValidCache.f
  rw [show impl_ValidPolicy.f h m = some (validB h m) by unfold impl_ValidPolicy.f; rw [if_pos ⟨hp.2.2, hp.2.1⟩]]
  simp only [Option.bind_some]
  cases validB h m with
  | false => rfl
  | true => rfl
theorem run_ok {hit : List (List Int)} {miss : List Int} (hv : validB hit miss = true) (back al : Bool) : ∀ (t : List S37) (k : Nat) (s : CacheV), (∀ x ∈ t, ∃ a : Nat, x.f1 = (a : Int) ∧ a < 64 ∧ (x.f0 = 0 ∨ x.f0 = 1)) → s.Ok miss.length → s.Fine → (runC hit miss back al k (t.map pairA) s).Ok miss.length ∧ (runC hit miss back al k (t.map pairA) s).Fine
  | [], _, s, _, h1, h2 => ⟨h1, h2⟩
  | x :: t, k, s, ht, h1, h2 => by
    obtain ⟨a, ha, hl, _⟩ := ht x List.mem_cons_self
    have ha' : x.f1.toNat < 64 := by omega
    exact run_ok hv back al t (k + 1) _ (fun y hy => ht y (List.mem_cons_of_mem _ hy)) (accessC_ok (fun c x hc => okStep_valid hv c hc x) (fun c x hc => stepV_length hv c hc x) h1 back al k x.f0 ha') (access_fine hv h1.cont h2 back al k x.f0 x.f1.toNat)
theorem end_ok {hit : List (List Int)} {miss : List Int} (hv : validB hit miss = true) (back al : Bool) {t : List S37} (ht : ∀ x ∈ t, ∃ a : Nat, x.f1 = (a : Int) ∧ a < 64 ∧ (x.f0 = 0 ∨ x.f0 = 1)) : (cacheEnd hit miss back al t).Ok miss.length ∧ (cacheEnd hit miss back al t).Fine :=
  run_ok hv back al t 0 _ ht (start_ok _) (start_fine _)
end Go.Proofs.Ytdkpdpdaggnmhaa.PFnReads
