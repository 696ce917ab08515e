-- Printed by this session's own program (wip/tools/xprint.py) over the kit's print; not trusted: Lean checks it.
import Derived.Test.YtdkpdpdaggnmhaaGreatZExactDirtyLinesPFnExactDirtyLinesx0
import Derived.Test.YtdkpdpdaggnmhaaGreatZExactDirtyLinesPFnExactDirtyLinesx2
import Derived.Test.YtdkpdpdaggnmhaaGreatZExactDirtyLinesPFnExactDirtyLinesx3
namespace Go.Proofs.YtdkpdpdaggnmhaaGreat.PFnExactDirtyLines
open Go.RowKit Go.Proofs.YtdkpdpdaggnmhaaGreatW.PrintWords Go.Proofs.YtdkpdpdaggnmhaaGreatW.PrintLast Go.Proofs.YtdkpdpdaggnmhaaGreatW.PrintMore
attribute [local go_sem] max2_int min2_int max_two min_two max_three min_three max_four min_four   -- for this text's walks alone
set_option linter.unusedVariables false
set_option linter.unusedSimpArgs false

/-! ### spec_l07Do: function 25 -/
def sumLen {α : Type} (l : List (List α)) : Nat := (l.map List.length).sum
theorem sumLen_cons {α : Type} (x : List α) (l : List (List α)) : sumLen (x :: l) = x.length + sumLen l := by simp [sumLen]
theorem sumLen_mem {α : Type} {l : List (List α)} {x : List α} (h : x ∈ l) : x.length ≤ sumLen l := by
  induction l with
  | nil => simp at h
  | cons y l ih =>
    rw [sumLen_cons]
    rcases List.mem_cons.1 h with rfl | h
    · omega
    · have := ih h; omega
theorem getD_mem {α : Type} (l : List α) (i : Nat) (z : α) (h : i < l.length) : l.getD i z ∈ l := by
  rw [getD_lt l i z h]; exact List.getElem_mem h
theorem in_spec (a b c : Int) : spec_l00In.f a b c = some (decide (b ≤ a) && decide (a ≤ c)) := by
  unfold spec_l00In.f
  by_cases h : b ≤ a <;> simp [h]
theorem specHas_ev (l : List Int) (x : Int) (h : l.length ≤ 1048576) : Ev (fun k => spec_l00Has.f k l x) (l.any fun y => decide (y = x)) := by
  unfold spec_l00Has.f
  have key : ∀ d i, l.length - i = d → i ≤ l.length → Ev (fun k => spec_l00Has.l0 k l x (i : Int)) ((l.drop i).any fun y => decide (y = x)) := by
    intro d
    induction d with
    | zero =>
      intro i hd hi
      refine Ev.succ ?_
      simp only [spec_l00Has.l0]
      refine Ev.neg (by omega) (Ev.some ?_)
      rw [List.drop_eq_nil_of_le (by omega)]
      rfl
    | succ d ih =>
      intro i hd hi
      refine Ev.succ ?_
      simp only [spec_l00Has.l0]
      refine Ev.pos (by omega) (Ev.pos (by omega) ?_)
      have hrd : rd l (i : Int) = l.getD i 0 := rfl
      rw [drop_cons l i 0 (by omega), List.any_cons, hrd, wrap_succ (show i < l.length by omega) (by omega)]
      by_cases hx : l.getD i 0 = x
      · exact Ev.pos hx (Ev.some (by rw [decide_eq_true hx]; rfl))
      · refine Ev.neg hx ?_
        have := ih (i + 1) (by omega) (by omega)
        rw [decide_eq_false hx, Bool.false_or]
        exact this
  have := key l.length 0 (by omega) (by omega)
  simpa using this
theorem rising_range : ∀ (s : List Int) (a : Int), s.Pairwise (· < ·) → (∀ x ∈ s, a ≤ x ∧ x ≤ a + s.length - 1) → s = (List.range s.length).map fun (j : Nat) => a + (j : Int)
  | [], _, _, _ => rfl
  | x :: t, a, hp, hb => by
    rw [List.pairwise_cons] at hp
    have hx := hb x List.mem_cons_self
    have ht : t = (List.range t.length).map fun (j : Nat) => (a + 1) + (j : Int) := by
      refine rising_range t (a + 1) hp.2 (fun y hy => ?_)
      have h1 := hp.1 y hy
      have h2 := hb y (List.mem_cons_of_mem _ hy)
      rw [List.length_cons] at h2
      omega
    have e : x = a := by
      by_cases h0 : t.length = 0
      · rw [List.length_cons] at hx; omega
      · have hm : (a + 1) ∈ t := by
          rw [ht]
          exact List.mem_map.2 ⟨0, by simp only [List.mem_range, List.length_map, List.length_range]; omega, by simp⟩
        have := hp.1 _ hm
        omega
    subst e
    rw [List.length_cons, List.range_succ_eq_map, List.map_cons, List.map_map]
    congr 1
    · simp
    · conv => lhs; rw [ht]
      refine List.map_congr_left (fun j _ => ?_)
      simp only [Function.comp_apply]
      omega
theorem orderB_iff (l : List Int) (n : Int) : orderB l n = true ↔ (l.length : Int) = n ∧ (∀ x ∈ l, 0 ≤ x ∧ x ≤ n - 1) ∧ l.Nodup := by
  unfold orderB
  rw [Bool.and_eq_true, decide_eq_true_eq, decide_eq_true_eq]
  constructor
  · rintro ⟨h1, h2⟩
    have hp := sortI_perm l
    refine ⟨h1, fun x hx => ?_, ?_⟩
    · have hx' := hp.mem_iff.2 hx
      rw [h2] at hx'
      obtain ⟨j, hj, rfl⟩ := List.mem_map.1 hx'
      rw [List.mem_range] at hj
      omega
    · refine hp.nodup_iff.1 ?_
      rw [h2]
      unfold List.Nodup
      rw [List.pairwise_map]
      exact List.Pairwise.imp (fun h => by omega) (List.pairwise_lt_range (n := l.length))
  · rintro ⟨h1, h2, h3⟩
    refine ⟨h1, ?_⟩
    have hp := sortI_perm l
    have hn : (sortI l).Nodup := hp.nodup_iff.2 h3
    have hlt : (sortI l).Pairwise (· < ·) := by
      have a := (sortI_le l)
      exact (List.Pairwise.and a hn).imp (fun h => by omega)
    have := rising_range (sortI l) 0 hlt (fun x hx => by
      have := h2 x (hp.mem_iff.1 hx)
      rw [sortI_length]; omega)
    rw [this, sortI_length]
    refine List.map_congr_left (fun j _ => ?_)
    omega
theorem specOrder_ev (l : List Int) (n : Int) (h : l.length ≤ 1048576) (h0 : 0 ≤ n) (h1 : n ≤ 1048576) : Ev (fun k => spec_l03Order.f k l n) (orderB l n) := by
  unfold spec_l03Order.f
  refine Ev.upto (F := fun k (_ : Unit) i => spec_l03Order.l0 k l n i) (n := l.length) (r := orderB l n) (fun i _ => (∀ x ∈ l.take i, 0 ≤ x ∧ x ≤ n - 1) ∧ (l.take i).Nodup) ?_ ?_ 0 (Nat.zero_le _) () (by simp)
  · intro i s hi ⟨hr, hd⟩ ih
    refine Ev.succ ?_
    simp only [spec_l03Order.l0]
    refine Ev.pos (by omega) (Ev.pos (by omega) (Ev.bindc (in_spec _ _ _) ?_))
    have hrd : rd l (i : Int) = l.getD i 0 := rfl
    have hm : l.getD i 0 ∈ l := getD_mem l i 0 hi
    rw [wrap_id (by omega) (by omega), hrd, Int.toNat_natCast]
    by_cases hin : 0 ≤ l.getD i 0 ∧ l.getD i 0 ≤ n - 1
    · refine Ev.pos (by simp only [decide_eq_true hin.1, decide_eq_true hin.2]; rfl) (Ev.pos (by omega) (Ev.bind (specHas_ev _ _ (by rw [List.length_take]; omega)) ?_))
      by_cases hh : ((l.take i).any fun y => decide (y = l.getD i 0)) = true
      · refine Ev.pos hh (Ev.some ?_)
        refine Eq.symm (Bool.eq_false_iff.2 (fun hc => ?_))
        have hd2 := ((orderB_iff l n).1 hc).2.2
        have hd3 : (l.take (i + 1)).Nodup := List.Nodup.sublist (List.take_sublist _ _) hd2
        rw [take_succ l i 0 hi] at hd3
        obtain ⟨y, hy, he⟩ := List.any_eq_true.1 hh
        have hdis := (List.nodup_append.1 hd3).2.2
        exact hdis y hy _ (List.mem_singleton_self _) (of_decide_eq_true he)
      · refine Ev.neg hh ?_
        rw [wrap_succ hi (by omega)]
        refine ih () ?_
        rw [take_succ l i 0 hi]
        constructor
        · intro x hx
          rcases List.mem_append.1 hx with hx | hx
          · exact hr x hx
          · rw [List.mem_singleton] at hx; subst hx; exact hin
        · rw [List.nodup_append]
          refine ⟨hd, by simp, fun a ha b hb => ?_⟩
          rw [List.mem_singleton] at hb
          subst hb
          intro e
          exact hh (List.any_eq_true.2 ⟨a, ha, decide_eq_true e⟩)
    · refine Ev.neg (by simpa using hin) (Ev.some ?_)
      refine Eq.symm (Bool.eq_false_iff.2 (fun hc => ?_))
      exact hin (((orderB_iff l n).1 hc).2.1 _ hm)
  · intro s ⟨hr, hd⟩
    refine Ev.succ ?_
    simp only [spec_l03Order.l0]
    refine Ev.neg (by omega) (Ev.some ?_)
    rw [List.take_length] at hr hd
    by_cases e : (l.length : Int) = n
    · rw [(orderB_iff l n).2 ⟨e, hr, hd⟩, beq_iff_eq.2 e]
    · have : orderB l n = false := Bool.eq_false_iff.2 (fun hc => e ((orderB_iff l n).1 hc).1)
      rw [this]
      simpa using e
theorem specIs_ev (h : List (List Int)) (m : List Int) (hl : h.length ≤ 1048576) (hi : ∀ x ∈ h, x.length ≤ 1048576) (hm : m.length ≤ 1048576) : Ev (fun k => spec_l03Is.f k h m) (validB h m) := by
  have j0t : ∀ n, Ev (fun k => spec_l03Is.j0 k n true h m) false := by
    intro n
    refine Ev.succ ?_
    simp only [spec_l03Is.j0]
    exact Ev.pos (by simp) (Ev.some rfl)
  have l0 : h.length = m.length → Ev (fun k => spec_l03Is.l0 k (m.length : Int) 0 h m) (!(h.any fun y => !orderB y (m.length : Int))) := by
    intro he
    have key : ∀ d i, h.length - i = d → i ≤ h.length → Ev (fun k => spec_l03Is.l0 k (m.length : Int) (i : Int) h m) (!((h.drop i).any fun y => !orderB y (m.length : Int))) := by
      intro d
      induction d with
      | zero =>
        intro i hd hi'
        refine Ev.succ ?_
        simp only [spec_l03Is.l0]
        refine Ev.neg (by omega) (Ev.some ?_)
        rw [List.drop_eq_nil_of_le (by omega)]
        rfl
      | succ d ih =>
        intro i hd hi'
        refine Ev.succ ?_
        simp only [spec_l03Is.l0]
        have hrd : rd_L1 h (i : Int) = h.getD i [] := rfl
        rw [hrd, drop_cons h i [] (by omega), List.any_cons, wrap_succ (show i < h.length by omega) (by omega)]
        refine Ev.pos (by omega) (Ev.pos (by omega) (Ev.pos (by omega) (Ev.bind (specOrder_ev _ _ (hi _ (getD_mem h i [] (by omega))) (by omega) (by omega)) ?_)))
        by_cases hx : orderB (h.getD i []) (m.length : Int) = true
        · refine Ev.pos hx ?_
          rw [hx, Bool.not_true, Bool.false_or]
          exact ih (i + 1) (by omega) (by omega)
        · refine Ev.neg hx (Ev.some ?_)
          rw [Bool.eq_false_iff.2 hx]
          rfl
    simpa using key h.length 0 (by omega) (by omega)
  unfold spec_l03Is.f
  by_cases h1 : (m.length : Int) < 1
  · refine Ev.pos h1 ?_
    have : validB h m = false := by unfold validB; rw [decide_eq_false (show ¬ (1 ≤ m.length) by omega)]; rfl
    rw [this]; exact j0t _
  refine Ev.neg h1 ?_
  by_cases h2 : (m.length : Int) > 6
  · refine Ev.pos h2 ?_
    have : validB h m = false := by unfold validB; rw [decide_eq_false (show ¬ (m.length ≤ 6) by omega), Bool.and_false]; rfl
    rw [this]; exact j0t _
  refine Ev.neg h2 ?_
  by_cases h3 : (h.length : Int) = (m.length : Int)
  · refine Ev.pos h3 (Ev.bind (specOrder_ev m _ hm (by omega) (by omega)) ?_)
    have e : validB h m = (orderB m (m.length : Int) && !(h.any fun y => !orderB y (m.length : Int))) := by
      unfold validB
      rw [decide_eq_true (show 1 ≤ m.length by omega), decide_eq_true (show m.length ≤ 6 by omega), decide_eq_true h3]
      rfl
    rw [e]
    by_cases h4 : orderB m (m.length : Int) = true
    · rw [h4]
      refine Ev.succ ?_
      simp only [spec_l03Is.j0]
      exact Ev.neg (by simp) (l0 (by omega))
    · rw [Bool.eq_false_iff.2 h4]
      exact j0t _
  · refine Ev.neg h3 ?_
    have : validB h m = false := by unfold validB; rw [decide_eq_false h3, Bool.false_and, Bool.and_false]
    rw [this]; exact j0t _
theorem valid_facts {h : List (List Int)} {m : List Int} (hv : validB h m = true) : 1 ≤ m.length ∧ m.length ≤ 6 ∧ h.length = m.length ∧ orderB m (m.length : Int) = true ∧ ∀ y ∈ h, orderB y (m.length : Int) = true := by
  unfold validB at hv
  simp only [Bool.and_eq_true, decide_eq_true_eq] at hv
  obtain ⟨⟨a, b⟩, c, d, e⟩ := hv
  refine ⟨a, b, by omega, d, fun y hy => ?_⟩
  cases hb : orderB y (m.length : Int)
  · have : (h.any fun y => !orderB y (m.length : Int)) = true := List.any_eq_true.2 ⟨y, hy, by rw [hb]; rfl⟩
    rw [this] at e; cases e
  · rfl
theorem age_lt (c : List Int) (a : Int) : ageOf c a = -1 ∨ 0 ≤ ageOf c a ∧ ageOf c a < c.length := by
  have := xIdx_ge (fun y => decide (y = a)) c 0
  unfold ageOf
  omega
theorem ord_order {h : List (List Int)} {m : List Int} (hv : validB h m = true) (c : List Int) (hc : c.length = m.length) (a : Int) : orderB (stepOrd h m c a) (c.length : Int) = true := by
  obtain ⟨h1, h2, h3, h4, h5⟩ := valid_facts hv
  unfold stepOrd
  rw [hc]
  split
  · refine h5 _ (getD_mem h _ [] ?_)
    have := age_lt c a
    omega
  · exact h4
theorem okStep_valid {h : List (List Int)} {m : List Int} (hv : validB h m = true) (c : List Int) (hc : c.length = m.length) (a : Int) : okStep h m c a = true := by
  obtain ⟨h1, h2, h3, h4, h5⟩ := valid_facts hv
  obtain ⟨o1, o2, o3⟩ := (orderB_iff _ _).1 (ord_order hv c hc a)
  have := age_lt c a
  unfold okStep
  simp only [Bool.and_eq_true, decide_eq_true_eq, List.all_eq_true]
  refine ⟨⟨by omega, by omega⟩, by omega, by omega, fun x hx => ?_⟩
  have := o2 x hx
  omega
theorem stepV_length {h : List (List Int)} {m : List Int} (hv : validB h m = true) (c : List Int) (hc : c.length = m.length) (a : Int) : (stepV h m c a).1.length = m.length := by
  obtain ⟨o1, o2, o3⟩ := (orderB_iff _ _).1 (ord_order hv c hc a)
  unfold stepV
  rw [List.length_map]
  omega
theorem specEmpty_ev (h : List (List Int)) (m : List Int) (hm : m.length ≤ 1048576) : Ev (fun k => spec_l03Empty.f k h m) (List.replicate m.length (-1)) := by
  unfold spec_l03Empty.f
  refine Ev.upto (F := fun k s i => spec_l03Empty.l0 k s i h m) (n := m.length) (r := List.replicate m.length (-1)) (fun i s => s = List.replicate i (-1)) ?_ ?_ 0 (Nat.zero_le _) _ (by simp)
  · intro i s hi hs ih
    refine Ev.succ ?_
    simp only [spec_l03Empty.l0]
    rw [wrap_succ hi (by omega)]
    refine Ev.pos (by omega) (Ev.pos (by rw [hs, List.length_replicate]; omega) (ih _ ?_))
    rw [hs, List.replicate_succ']
  · intro s hs
    refine Ev.succ ?_
    simp only [spec_l03Empty.l0]
    exact Ev.neg (by omega) (Ev.some hs)
def copyN (ws cs : List Int) (b : Nat) : Nat → List Int
  | 0 => ws
  | k + 1 => (copyN ws cs b k).set (b + k) (cs.getD (b + k) 0)
theorem copyN_length (ws cs : List Int) (b : Nat) : ∀ k, (copyN ws cs b k).length = ws.length
  | 0 => rfl
  | k + 1 => by rw [copyN, List.length_set]; exact copyN_length ws cs b k
def outV (ws cs : List Int) (ds : List Bool) (line : Int) : Int × List Int × List Bool := if line < 0 then (0, ws, ds) else if ds.getD line.toNat false = true then (4, copyN ws cs (line.toNat * 4) 4, ds.set line.toNat false) else (0, ws, ds)
set_option maxHeartbeats 1600000 in
theorem out_neg {w0 w : World} {R : List (Thing × Nat × Nat)} {g bw cw lw hw bc cc lc hc bd cd ld hd : Nat} {v3 v4 v5 v6 v7 v8 v9 v10 : Value} {ws cs : List Int} {ds : List Bool} {line : Int} (h : Hold w0 w ((boxT #[.slice (some ⟨bw, 0, none⟩) 64 cw, .slice (some ⟨bc, 0, none⟩) 64 cc, .slice (some ⟨bd, 0, none⟩) 16 cd, v3, v4, v5, v6, v7, v8, v9, v10] 53, g, g + 1) :: (flat (Kd.int .i64) 2 (.slice (some ⟨bw, 0, none⟩) 64 cw) ws, lw, hw) :: (flat (Kd.int .i64) 2 (.slice (some ⟨bc, 0, none⟩) 64 cc) cs, lc, hc) :: (flat Kd.bool 4 (.slice (some ⟨bd, 0, none⟩) 16 cd) ds, ld, hd) :: R)) (hl : line < 0) :
    Calls Tryz.prog 46 #[.pointer (some ⟨g, 0, none⟩), .int .i64 line] w fun e w' => e = .returned (.int .i64 0) ∧ Hold w0 w' ((boxT #[.slice (some ⟨bw, 0, none⟩) 64 cw, .slice (some ⟨bc, 0, none⟩) 64 cc, .slice (some ⟨bd, 0, none⟩) 16 cd, v3, v4, v5, v6, v7, v8, v9, v10] 53, g, g + 1) :: (flat (Kd.int .i64) 2 (.slice (some ⟨bw, 0, none⟩) 64 cw) ws, lw, hw) :: (flat (Kd.int .i64) 2 (.slice (some ⟨bc, 0, none⟩) 64 cc) cs, lc, hc) :: (flat Kd.bool 4 (.slice (some ⟨bd, 0, none⟩) 16 cd) ds, ld, hd) :: R) := by
  have HS := h
  clear h
  have q2 : w.cell? ⟨g, 2, none⟩ = some (.slice (some ⟨bd, 0, none⟩) 16 cd) := HS.cell List.mem_cons_self 2 _ rfl
  have fzq : ∀ j, w.frozen? ⟨g, j, none⟩ = false := HS.thaw List.mem_cons_self
  have hl0 : line < 0 := hl
  go_enter Tryz.func46, Tryz.ntmps46
  go_wp2_with fail
  go_ret
  exact ⟨rfl, HS⟩
set_option maxHeartbeats 1600000 in
theorem out_clean {w0 w : World} {R : List (Thing × Nat × Nat)} {g bw cw lw hw bc cc lc hc bd cd ld hd : Nat} {v3 v4 v5 v6 v7 v8 v9 v10 : Value} {ws cs : List Int} {ds : List Bool} {n : Nat} (h : Hold w0 w ((boxT #[.slice (some ⟨bw, 0, none⟩) 64 cw, .slice (some ⟨bc, 0, none⟩) 64 cc, .slice (some ⟨bd, 0, none⟩) 16 cd, v3, v4, v5, v6, v7, v8, v9, v10] 53, g, g + 1) :: (flat (Kd.int .i64) 2 (.slice (some ⟨bw, 0, none⟩) 64 cw) ws, lw, hw) :: (flat (Kd.int .i64) 2 (.slice (some ⟨bc, 0, none⟩) 64 cc) cs, lc, hc) :: (flat Kd.bool 4 (.slice (some ⟨bd, 0, none⟩) 16 cd) ds, ld, hd) :: R)) (hl : n < 16) (hf : ds.getD n false = false) :
    Calls Tryz.prog 46 #[.pointer (some ⟨g, 0, none⟩), .int .i64 n] w fun e w' => e = .returned (.int .i64 0) ∧ Hold w0 w' ((boxT #[.slice (some ⟨bw, 0, none⟩) 64 cw, .slice (some ⟨bc, 0, none⟩) 64 cc, .slice (some ⟨bd, 0, none⟩) 16 cd, v3, v4, v5, v6, v7, v8, v9, v10] 53, g, g + 1) :: (flat (Kd.int .i64) 2 (.slice (some ⟨bw, 0, none⟩) 64 cw) ws, lw, hw) :: (flat (Kd.int .i64) 2 (.slice (some ⟨bc, 0, none⟩) 64 cc) cs, lc, hc) :: (flat Kd.bool 4 (.slice (some ⟨bd, 0, none⟩) 16 cd) ds, ld, hd) :: R) := by
  have HS := h
  clear h
  have q0 : w.cell? ⟨g, 0, none⟩ = some (.slice (some ⟨bw, 0, none⟩) 64 cw) := HS.cell List.mem_cons_self 0 _ rfl
  have q1 : w.cell? ⟨g, 1, none⟩ = some (.slice (some ⟨bc, 0, none⟩) 64 cc) := HS.cell List.mem_cons_self 1 _ rfl
  have q2 : w.cell? ⟨g, 2, none⟩ = some (.slice (some ⟨bd, 0, none⟩) 16 cd) := HS.cell List.mem_cons_self 2 _ rfl
  have fzq : ∀ j, w.frozen? ⟨g, j, none⟩ = false := HS.thaw List.mem_cons_self
  have HN := Aside0.mk (HS.reads' (List.mem_cons_of_mem _ (List.mem_cons_of_mem _ (List.mem_cons_of_mem _ List.mem_cons_self)))).1
  have q9 := (Hold.rowCell (enc := Value.bool) (h1 := fun _ => rfl) HS (List.mem_cons_of_mem _ (List.mem_cons_of_mem _ (List.mem_cons_of_mem _ List.mem_cons_self))) false (n : Int) (Int.natCast_nonneg n) (by have := HN.out; omega)).1
  rw [Int.toNat_natCast, show rdOf false ds (n : Int) = false from hf] at q9
  have HL := Aside0.mk hl
  have HF := Aside0.mk hf
  have b1 : ¬ (n : Int) < 0 := by omega
  have b2 : (0 : Int) ≤ n := by omega
  have b3 : (n : Int) < 16 := by omega
  clear hl hf
  go_enter Tryz.func46, Tryz.ntmps46
  go_wp2_with fail
  go_ret
  exact ⟨rfl, HS⟩
set_option maxHeartbeats 1600000 in
set_option maxRecDepth 100000 in
theorem out_dirty {w0 w : World} {R : List (Thing × Nat × Nat)} {g bw cw lw hw bc cc lc hc bd cd ld hd : Nat} {v3 v4 v5 v6 v7 v8 v9 v10 : Value} {ws cs : List Int} {ds : List Bool} {n : Nat} (h : Hold w0 w ((boxT #[.slice (some ⟨bw, 0, none⟩) 64 cw, .slice (some ⟨bc, 0, none⟩) 64 cc, .slice (some ⟨bd, 0, none⟩) 16 cd, v3, v4, v5, v6, v7, v8, v9, v10] 53, g, g + 1) :: (flat (Kd.int .i64) 2 (.slice (some ⟨bw, 0, none⟩) 64 cw) ws, lw, hw) :: (flat (Kd.int .i64) 2 (.slice (some ⟨bc, 0, none⟩) 64 cc) cs, lc, hc) :: (flat Kd.bool 4 (.slice (some ⟨bd, 0, none⟩) 16 cd) ds, ld, hd) :: R)) (hl : n < 16) (hf : ds.getD n false = true) :
    Calls Tryz.prog 46 #[.pointer (some ⟨g, 0, none⟩), .int .i64 n] w fun e w' => e = .returned (.int .i64 4) ∧ Hold w0 w' ((boxT #[.slice (some ⟨bw, 0, none⟩) 64 cw, .slice (some ⟨bc, 0, none⟩) 64 cc, .slice (some ⟨bd, 0, none⟩) 16 cd, v3, v4, v5, v6, v7, v8, v9, v10] 53, g, g + 1) :: (flat (Kd.int .i64) 2 (.slice (some ⟨bw, 0, none⟩) 64 cw) (copyN ws cs (n * 4) 4), lw, hw) :: (flat (Kd.int .i64) 2 (.slice (some ⟨bc, 0, none⟩) 64 cc) cs, lc, hc) :: (flat Kd.bool 4 (.slice (some ⟨bd, 0, none⟩) 16 cd) (ds.set n false), ld, hd) :: R) := by
  have HS := h
  clear h
  have q0 : w.cell? ⟨g, 0, none⟩ = some (.slice (some ⟨bw, 0, none⟩) 64 cw) := HS.cell List.mem_cons_self 0 _ rfl
  have q1 : w.cell? ⟨g, 1, none⟩ = some (.slice (some ⟨bc, 0, none⟩) 64 cc) := HS.cell List.mem_cons_self 1 _ rfl
  have q2 : w.cell? ⟨g, 2, none⟩ = some (.slice (some ⟨bd, 0, none⟩) 16 cd) := HS.cell List.mem_cons_self 2 _ rfl
  have fzq : ∀ j, w.frozen? ⟨g, j, none⟩ = false := HS.thaw List.mem_cons_self
  have HN := Aside0.mk (HS.reads' (List.mem_cons_of_mem _ (List.mem_cons_of_mem _ (List.mem_cons_of_mem _ List.mem_cons_self)))).1
  have q9 := (Hold.rowCell (enc := Value.bool) (h1 := fun _ => rfl) HS (List.mem_cons_of_mem _ (List.mem_cons_of_mem _ (List.mem_cons_of_mem _ List.mem_cons_self))) false (n : Int) (Int.natCast_nonneg n) (by have := HN.out; omega)).1
  rw [Int.toNat_natCast, show rdOf false ds (n : Int) = true from hf] at q9
  have HL := Aside0.mk hl
  have HF := Aside0.mk hf
  have b1 : ¬ (n : Int) < 0 := by omega
  have b2 : (0 : Int) ≤ n := by omega
  have b3 : (n : Int) < 16 := by omega
  clear hl hf
  have w1 : wrap64 ((n : Int) * 4) = (n : Int) * 4 := wrap_id (by omega) (by omega)
  have w2 : wrap64 ((n : Int) + 1) = (n : Int) + 1 := wrap_id (by omega) (by omega)
  have w3 : wrap64 (((n : Int) + 1) * 4) = ((n : Int) + 1) * 4 := wrap_id (by omega) (by omega)
  go_enter Tryz.func46, Tryz.ntmps46
  go_wp2_with fail
  clear q0 q1 q2 fzq q9
  have HW := Aside0.mk (HS.reads' (List.mem_cons_of_mem _ List.mem_cons_self)).1
  have HC := Aside0.mk (HS.reads' (List.mem_cons_of_mem _ (List.mem_cons_of_mem _ List.mem_cons_self))).1
  have H0 : Aside0 (Hold w0 w _) := ⟨HS⟩
  clear HS
  go_loopg [5] 4 (fun gg s5 wr => ∃ kk : Nat, kk ≤ 4 ∧ 4 - kk ≤ gg ∧ s5 = .int .i64 ((n * 4 + kk : Nat) : Int) ∧ Aside0 (Hold w0 wr ((boxT #[.slice (some ⟨bw, 0, none⟩) 64 cw, .slice (some ⟨bc, 0, none⟩) 64 cc, .slice (some ⟨bd, 0, none⟩) 16 cd, v3, v4, v5, v6, v7, v8, v9, v10] 53, g, g + 1) :: (flat (Kd.int .i64) 2 (.slice (some ⟨bw, 0, none⟩) 64 cw) (copyN ws cs (n * 4) kk), lw, hw) :: (flat (Kd.int .i64) 2 (.slice (some ⟨bc, 0, none⟩) 64 cc) cs, lc, hc) :: (flat Kd.bool 4 (.slice (some ⟨bd, 0, none⟩) 16 cd) ds, ld, hd) :: R)))
  case atStart => exact ⟨0, Nat.zero_le _, Nat.le_refl _, by simp, H0⟩
  case round =>
    clear H0
    obtain ⟨kk, hkk, hg_, rfl, HSS⟩ := hrel
    have HS := HSS.out
    clear HSS
    by_cases hlt : kk < 4
    · have hltz : ((n * 4 + kk : Nat) : Int) < ((n : Int) + 1) * 4 := by omega
      have hp : n * 4 + kk < 64 := by omega
      have w4 : wrap64 (((n * 4 + kk : Nat) : Int) + 1) = ((n * 4 + (kk + 1) : Nat) : Int) := by rw [wrap_id (by omega) (by omega)]; omega
      obtain ⟨p, hpe⟩ : ∃ p, p = n * 4 + kk := ⟨_, rfl⟩
      have HPE := Aside0.mk hpe
      rw [← hpe] at hltz hp w4 ⊢
      clear hpe
      have bpa : ((p : Int) < 64) = True := by simp only [eq_iff_iff, iff_true]; omega
      have bpb : ((0 : Int) ≤ p) = True := by simp only [eq_iff_iff, iff_true]; omega
      go_wp2_with fail
      have HD := Hold.drew HS
      refine start_ (n := 14) (S := fun w' => w'.cell? ⟨g, 0, none⟩ = some (.slice (some ⟨bw, 0, none⟩) 64 cw) ∧ w'.cell? ⟨g, 1, none⟩ = some (.slice (some ⟨bc, 0, none⟩) 64 cc) ∧ w'.cell? ⟨bc, p, none⟩ = some (.int .i64 (cs.getD p 0))) (ds := [13]) #[false, false, false, false, false, false, false, false, false, false, false, false, false, false] (by kernel_rfl) rfl rfl ⟨(HD.cell List.mem_cons_self 0 _ rfl), (HD.cell List.mem_cons_self 1 _ rfl), (by have := (HD.cellI (List.mem_cons_of_mem _ (List.mem_cons_of_mem _ List.mem_cons_self)) (p : Int) (Int.natCast_nonneg p) (by have := HC.out; omega)).1; rwa [Int.toNat_natCast] at this)⟩ (fun hHeld => ?_)
      generalize wr.drew = wd at HD hHeld ⊢
      have st_ := (by have := HD.cellI (List.mem_cons_of_mem _ List.mem_cons_self) (p : Int) (Int.natCast_nonneg p) (by rw [copyN_length]; have := HW.out; omega); rw [Int.toNat_natCast] at this; exact this)
      refine pure_ (i := 0) (N := some 27) (v := ?_) (a' := ?_) #[true, false, false, false, false, false, false, false, false, false, false, false, false, false] rfl rfl (by kernel_rfl) (fun _ _ _ h => h) (Or.inl ⟨by rfl, ?_⟩) ?_ ?_
      rotate_left
      · intro w'
        go_simp
        with_reducible rfl
      rotate_left
      · simp only [Act.put, List.setIfInBounds_toArray, List.set_cons_zero, List.set_cons_succ, i64_w, i32_w]
        rfl
      refine pure_ (i := 1) (N := some 28) (v := ?_) (a' := ?_) #[true, true, false, false, false, false, false, false, false, false, false, false, false, false] rfl rfl (by kernel_rfl) (fun _ _ _ h => h) (Or.inl ⟨by rfl, ?_⟩) ?_ ?_
      rotate_left
      · intro w'
        go_simp
        with_reducible rfl
      rotate_left
      · simp only [Act.put, List.setIfInBounds_toArray, List.set_cons_zero, List.set_cons_succ, i64_w, i32_w]
        rfl
      refine pure_ (i := 2) (N := some 29) (v := ?_) (a' := ?_) #[true, true, true, false, false, false, false, false, false, false, false, false, false, false] rfl rfl (by kernel_rfl) (fun _ _ _ h => h) (Or.inl ⟨by rfl, ?_⟩) ?_ ?_
      rotate_left
      · intro w'
        go_simp
        with_reducible rfl
      rotate_left
      · simp only [Act.put, List.setIfInBounds_toArray, List.set_cons_zero, List.set_cons_succ, i64_w, i32_w]
        rfl
      refine pure_ (i := 4) (N := some 31) (v := ?_) (a' := ?_) #[true, true, true, false, true, false, false, false, false, false, false, false, false, false] rfl rfl (by kernel_rfl) (fun _ _ _ h => h) (Or.inl ⟨by rfl, ?_⟩) ?_ ?_
      rotate_left
      · intro w'
        go_simp
        with_reducible rfl
      rotate_left
      · simp only [Act.put, List.setIfInBounds_toArray, List.set_cons_zero, List.set_cons_succ, i64_w, i32_w]
        rfl
      refine pure_ (i := 5) (N := some 32) (v := ?_) (a' := ?_) #[true, true, true, false, true, true, false, false, false, false, false, false, false, false] rfl rfl (by kernel_rfl) (fun _ _ _ h => h) (Or.inl ⟨by rfl, ?_⟩) ?_ ?_
      rotate_left
      · intro w'
        go_simp
        with_reducible rfl
      rotate_left
      · simp only [Act.put, List.setIfInBounds_toArray, List.set_cons_zero, List.set_cons_succ, i64_w, i32_w]
        rfl
      refine pure_ (i := 6) (N := some 33) (v := ?_) (a' := ?_) #[true, true, true, false, true, true, true, false, false, false, false, false, false, false] rfl rfl (by kernel_rfl) (fun _ _ _ h => h) (Or.inl ⟨by rfl, ?_⟩) ?_ ?_
      rotate_left
      · intro w'
        go_simp
        with_reducible rfl
      rotate_left
      · simp only [Act.put, List.setIfInBounds_toArray, List.set_cons_zero, List.set_cons_succ, i64_w, i32_w]
        rfl
      refine pure_ (i := 7) (N := some 34) (v := ?_) (a' := ?_) #[true, true, true, false, true, true, true, true, false, false, false, false, false, false] rfl rfl (by kernel_rfl) (fun _ _ _ h => h) (Or.inl ⟨by rfl, ?_⟩) ?_ ?_
      rotate_left
      · intro w'
        go_simp
        with_reducible rfl
      rotate_left
      · simp only [Act.put, List.setIfInBounds_toArray, List.set_cons_zero, List.set_cons_succ, i64_w, i32_w]
        rfl
      refine pure_ (i := 9) (N := some 36) (v := ?_) (a' := ?_) #[true, true, true, false, true, true, true, true, false, true, false, false, false, false] rfl rfl (by kernel_rfl) (fun _ _ _ h => h) (Or.inl ⟨by rfl, ?_⟩) ?_ ?_
      rotate_left
      · intro w'
        go_simp
        with_reducible rfl
      rotate_left
      · simp only [Act.put, List.setIfInBounds_toArray, List.set_cons_zero, List.set_cons_succ, i64_w, i32_w]
        rfl
      refine take_ (i := 3) (N := some 30) (v := ?_) (a' := ?_) #[true, true, true, true, true, true, true, true, false, true, false, false, false, false] rfl rfl (by kernel_rfl) (fun _ _ _ h => h) (Or.inl ⟨by rfl, ?_⟩) hHeld ?_ ?_
      rotate_left
      · rintro w' ⟨s0, s1, s2⟩
        go_simp
        with_reducible rfl
      rotate_left
      · simp only [Act.put, List.setIfInBounds_toArray, List.set_cons_zero, List.set_cons_succ, i64_w, i32_w]
        rfl
      refine take_ (i := 8) (N := some 35) (v := ?_) (a' := ?_) #[true, true, true, true, true, true, true, true, true, true, false, false, false, false] rfl rfl (by kernel_rfl) (fun _ _ _ h => h) (Or.inl ⟨by rfl, ?_⟩) hHeld ?_ ?_
      rotate_left
      · rintro w' ⟨s0, s1, s2⟩
        go_simp
        with_reducible rfl
      rotate_left
      · simp only [Act.put, List.setIfInBounds_toArray, List.set_cons_zero, List.set_cons_succ, i64_w, i32_w]
        rfl
      refine pure_ (i := 10) (N := some 37) (v := ?_) (a' := ?_) #[true, true, true, true, true, true, true, true, true, true, true, false, false, false] rfl rfl (by kernel_rfl) (fun _ _ _ h => h) (Or.inl ⟨by rfl, ?_⟩) ?_ ?_
      rotate_left
      · intro w'
        go_simp
        with_reducible rfl
      rotate_left
      · simp only [Act.put, List.setIfInBounds_toArray, List.set_cons_zero, List.set_cons_succ, i64_w, i32_w]
        rfl
      refine take_ (i := 11) (N := some 38) (v := ?_) (a' := ?_) #[true, true, true, true, true, true, true, true, true, true, true, true, false, false] rfl rfl (by kernel_rfl) (fun _ _ _ h => h) (Or.inl ⟨by rfl, ?_⟩) hHeld ?_ ?_
      rotate_left
      · rintro w' ⟨s0, s1, s2⟩
        go_simp
        with_reducible rfl
      rotate_left
      · simp only [Act.put, List.setIfInBounds_toArray, List.set_cons_zero, List.set_cons_succ, i64_w, i32_w]
        rfl
      refine pure_ (i := 12) (N := some 39) (v := ?_) (a' := ?_) #[true, true, true, true, true, true, true, true, true, true, true, true, true, false] rfl rfl (by kernel_rfl) (fun _ _ _ h => h) (Or.inl ⟨by rfl, ?_⟩) ?_ ?_
      rotate_left
      · intro w'
        go_simp
        with_reducible rfl
      rotate_left
      · simp only [Act.put, List.setIfInBounds_toArray, List.set_cons_zero, List.set_cons_succ, i64_w, i32_w]
        rfl
      refine last_ (i := 13) (N := none) #[true, true, true, true, true, true, true, true, true, true, true, true, true, true] rfl rfl (by kernel_rfl) (by decide) (fun K hK => ?_)
      refine skip_ (w1 := ?_) (by rfl) rfl ?_ ?_
      rotate_left
      · go_simp
        rfl
      refine hK.out _ _ ?_
      clear hK K
      refine done_ (by kernel_rfl) ?_
      clear hHeld
      have H5 := HD.setI (p : Int) (cs.getD p 0) ((.there .here))
      rw [Int.toNat_natCast] at H5
      simp only [List.getD_eq_getElem?_getD] at H5
      clear st_ HD HS
      have H6 := Aside0.mk H5
      clear H5
      go_wp2_with fail
      go_roundg (4 - (kk + 1))
      case measure => omega
      case rel => exact ⟨kk + 1, by omega, by omega, by have := HPE.out; congr 1; omega, ⟨by have hpe := HPE.out; subst hpe; exact H6.out⟩⟩
    · obtain rfl : kk = 4 := by omega
      have hltz : ¬ ((n * 4 + 4 : Nat) : Int) < ((n : Int) + 1) * 4 := by omega
      have q2 : wr.cell? ⟨g, 2, none⟩ = some (.slice (some ⟨bd, 0, none⟩) 16 cd) := HS.cell List.mem_cons_self 2 _ rfl
      have fzq : ∀ j, wr.frozen? ⟨g, j, none⟩ = false := HS.thaw List.mem_cons_self
      have q9 := Hold.rowCell (enc := Value.bool) (h1 := fun _ => rfl) HS (List.mem_cons_of_mem _ (List.mem_cons_of_mem _ (List.mem_cons_of_mem _ List.mem_cons_self))) false (n : Int) (Int.natCast_nonneg n) (by have := HN.out; omega)
      rw [Int.toNat_natCast] at q9
      have q8 := q9.1
      have q7 := q9.2
      clear q9
      go_wp2_with fail
      go_ret
      have H7 := Hold.setRow (enc := Value.bool) (h1 := fun _ => rfl) HS (n : Int) false ((.there (.there (.there .here))))
      rw [Int.toNat_natCast] at H7
      exact ⟨rfl, H7⟩
theorem out_calls {w0 w : World} {R : List (Thing × Nat × Nat)} {g bw cw lw hw bc cc lc hc bd cd ld hd : Nat} {v3 v4 v5 v6 v7 v8 v9 v10 : Value} {ws cs : List Int} {ds : List Bool} {line o : Int} {ws' : List Int} {ds' : List Bool} (h : Hold w0 w ((boxT #[.slice (some ⟨bw, 0, none⟩) 64 cw, .slice (some ⟨bc, 0, none⟩) 64 cc, .slice (some ⟨bd, 0, none⟩) 16 cd, v3, v4, v5, v6, v7, v8, v9, v10] 53, g, g + 1) :: (flat (Kd.int .i64) 2 (.slice (some ⟨bw, 0, none⟩) 64 cw) ws, lw, hw) :: (flat (Kd.int .i64) 2 (.slice (some ⟨bc, 0, none⟩) 64 cc) cs, lc, hc) :: (flat Kd.bool 4 (.slice (some ⟨bd, 0, none⟩) 16 cd) ds, ld, hd) :: R)) (hl : line < 16) (ho : outV ws cs ds line = (o, ws', ds')) :
    Calls Tryz.prog 46 #[.pointer (some ⟨g, 0, none⟩), .int .i64 line] w fun e w' => e = .returned (.int .i64 o) ∧ Hold w0 w' ((boxT #[.slice (some ⟨bw, 0, none⟩) 64 cw, .slice (some ⟨bc, 0, none⟩) 64 cc, .slice (some ⟨bd, 0, none⟩) 16 cd, v3, v4, v5, v6, v7, v8, v9, v10] 53, g, g + 1) :: (flat (Kd.int .i64) 2 (.slice (some ⟨bw, 0, none⟩) 64 cw) (ws'), lw, hw) :: (flat (Kd.int .i64) 2 (.slice (some ⟨bc, 0, none⟩) 64 cc) cs, lc, hc) :: (flat Kd.bool 4 (.slice (some ⟨bd, 0, none⟩) 16 cd) (ds'), ld, hd) :: R) := by
  unfold outV at ho
  by_cases h0 : line < 0
  · rw [if_pos h0] at ho
    injection ho with e1 e2
    injection e2 with e2 e3
    subst e1 e2 e3
    exact out_neg h h0
  · rw [if_neg h0] at ho
    obtain ⟨n, rfl⟩ : ∃ n : Nat, line = (n : Int) := ⟨line.toNat, by omega⟩
    rw [Int.toNat_natCast] at ho
    by_cases hd : ds.getD n false = true
    · rw [if_pos hd] at ho
      injection ho with e1 e2
      injection e2 with e2 e3
      subst e1 e2 e3
      exact out_dirty h (by omega) hd
    · rw [if_neg hd] at ho
      injection ho with e1 e2
      injection e2 with e2 e3
      subst e1 e2 e3
      exact out_clean h (by omega) (Bool.eq_false_iff.2 hd)
/-- A cache's run as both programs tell it: flat words, copies, dirty lines; what is cached; what was read; the traffic. -/
structure CacheV where
  ws : List Int
  cs : List Int
  ds : List Bool
  cont : List Int
  rd : List Int
  h : Int
  m : Int
  i : Int
  o : Int
def fillC (hit : List (List Int)) (miss : List Int) (line : Nat) (s : CacheV) : CacheV :=
  { s with ws := (outV s.ws s.cs s.ds (s.cont.getD (s.cont.length - 1) 0)).2.1, ds := (outV s.ws s.cs s.ds (s.cont.getD (s.cont.length - 1) 0)).2.2, cs := copyN s.cs (outV s.ws s.cs s.ds (s.cont.getD (s.cont.length - 1) 0)).2.1 (line * 4) 4, o := s.o + (outV s.ws s.cs s.ds (s.cont.getD (s.cont.length - 1) 0)).1, i := s.i + 4, cont := (stepV hit miss s.cont line).1 }
def enterC (hit : List (List Int)) (miss : List Int) (line : Nat) (s : CacheV) : CacheV :=
  if (s.cont.any fun y => decide (y = (line : Int))) = true then { s with h := s.h + 1, cont := (stepV hit miss s.cont line).1 } else fillC hit miss line { s with m := s.m + 1 }
def writeC (back : Bool) (k a : Nat) (s : CacheV) : CacheV :=
  if back = true then { s with cs := s.cs.set a ((k : Int) + 1), ds := s.ds.set (a / 4) true } else { s with cs := s.cs.set a ((k : Int) + 1), ws := s.ws.set a ((k : Int) + 1), o := s.o + 1 }
/-- The access number k: kind 1 writes. -/
def accessC (hit : List (List Int)) (miss : List Int) (back alloc : Bool) (k : Nat) (kind : Int) (a : Nat) (s : CacheV) : CacheV :=
  if (s.cont.any fun y => decide (y = ((a / 4 : Nat) : Int))) = false ∧ kind = 1 ∧ alloc = false then { s with m := s.m + 1, ws := s.ws.set a ((k : Int) + 1), o := s.o + 1 }
  else if kind = 1 then writeC back k a (enterC hit miss (a / 4) s)
  else { enterC hit miss (a / 4) s with rd := (enterC hit miss (a / 4) s).rd ++ [(enterC hit miss (a / 4) s).cs.getD a 0] }
def runC (hit : List (List Int)) (miss : List Int) (back alloc : Bool) : Nat → List (Int × Nat) → CacheV → CacheV
  | _, [], s => s
  | k, (q, a) :: t, s => runC hit miss back alloc (k + 1) t (accessC hit miss back alloc k q a s)
def startC (n : Nat) : CacheV := ⟨List.replicate 64 0, List.replicate 64 0, List.replicate 16 false, List.replicate n (-1), [], 0, 0, 0, 0⟩
/-- What is true of a run all along: so many words and lines, entries of lines, a few of everything. -/
structure CacheV.Ok (n : Nat) (s : CacheV) : Prop where
  ws : s.ws.length = 64
  cs : s.cs.length = 64
  ds : s.ds.length = 16
  cont : s.cont.length = n
  lines : ∀ x ∈ s.cont, -1 ≤ x ∧ x < 16
theorem outV_length (ws cs : List Int) (ds : List Bool) (l : Int) : (outV ws cs ds l).2.1.length = ws.length ∧ (outV ws cs ds l).2.2.length = ds.length ∧ 0 ≤ (outV ws cs ds l).1 ∧ (outV ws cs ds l).1 ≤ 4 := by
  unfold outV
  split
  · exact ⟨rfl, rfl, by simp, by simp⟩
  · split
    · exact ⟨copyN_length _ _ _ _, List.length_set, by simp, by simp⟩
    · exact ⟨rfl, rfl, by simp, by simp⟩
theorem start_ok (n : Nat) : (startC n).Ok n := ⟨by simp [startC], by simp [startC], by simp [startC], by simp [startC], fun x hx => by
  have : x = -1 := List.eq_of_mem_replicate hx
  omega⟩
theorem stepV_mem {hit : List (List Int)} {miss c : List Int} {x : Int} (hok : okStep hit miss c x = true) : ∀ y ∈ (stepV hit miss c x).1, y = x ∨ y ∈ c := by
  intro y hy
  simp only [okStep, Bool.and_eq_true, decide_eq_true_eq, List.all_eq_true] at hok
  obtain ⟨⟨h1, h2⟩, h3, h4, h5⟩ := hok
  simp only [stepV, List.mem_map] at hy
  obtain ⟨j, hj, rfl⟩ := hy
  obtain ⟨j0, j1⟩ := h5 j hj
  have hm : rd (stepOld c x) j ∈ stepOld c x := by
    show (stepOld c x).getD j.toNat 0 ∈ stepOld c x
    rw [getD_lt _ _ _ (by rw [stepOld_length]; omega)]
    exact List.getElem_mem _
  unfold stepOld at hm ⊢
  split at hm
  · rename_i hh
    rw [if_pos hh]
    exact .inr hm
  · rename_i hh
    rw [if_neg hh]
    exact (List.mem_or_eq_of_mem_set hm).symm
section
variable {hit : List (List Int)} {miss : List Int} {n : Nat} (hok : ∀ (c : List Int) (x : Int), c.length = n → okStep hit miss c x = true) (hlen : ∀ (c : List Int) (x : Int), c.length = n → (stepV hit miss c x).1.length = n)
include hok hlen
omit hlen in
theorem step_lines {c : List Int} (hc : c.length = n) (hl : ∀ x ∈ c, -1 ≤ x ∧ x < 16) (x : Nat) (hx : x < 16) : ∀ y ∈ (stepV hit miss c (x : Int)).1, -1 ≤ y ∧ y < 16 := by
  intro y hy
  rcases stepV_mem (hok c x hc) y hy with rfl | h
  · omega
  · exact hl y h
theorem fillC_ok {s : CacheV} (h : s.Ok n) {line : Nat} (hx : line < 16) : (fillC hit miss line s).Ok n := by
  obtain ⟨o1, o2, _⟩ := outV_length s.ws s.cs s.ds (s.cont.getD (s.cont.length - 1) 0)
  exact ⟨o1.trans h.ws, (copyN_length _ _ _ _).trans h.cs, o2.trans h.ds, hlen _ _ h.cont, step_lines hok h.cont h.lines line hx⟩
theorem enterC_ok {s : CacheV} (h : s.Ok n) {line : Nat} (hx : line < 16) : (enterC hit miss line s).Ok n := by
  unfold enterC
  split
  · exact ⟨h.ws, h.cs, h.ds, hlen _ _ h.cont, step_lines hok h.cont h.lines line hx⟩
  · exact fillC_ok hok hlen (s := { s with m := s.m + 1 }) ⟨h.ws, h.cs, h.ds, h.cont, h.lines⟩ hx
omit hok hlen in
theorem writeC_ok {s : CacheV} (h : s.Ok n) (back : Bool) (k a : Nat) : (writeC back k a s).Ok n := by
  unfold writeC
  split
  · exact ⟨h.ws, List.length_set.trans h.cs, List.length_set.trans h.ds, h.cont, h.lines⟩
  · exact ⟨List.length_set.trans h.ws, List.length_set.trans h.cs, h.ds, h.cont, h.lines⟩
theorem accessC_ok {s : CacheV} (h : s.Ok n) (back alloc : Bool) (k : Nat) (kind : Int) {a : Nat} (ha : a < 64) : (accessC hit miss back alloc k kind a s).Ok n := by
  have he := enterC_ok hok hlen h (show a / 4 < 16 by omega)
  unfold accessC
  split
  · exact ⟨List.length_set.trans h.ws, h.cs, h.ds, h.cont, h.lines⟩
  · split
    · exact writeC_ok he back k a
    · exact ⟨he.ws, he.cs, he.ds, he.cont, he.lines⟩
end
/-- What one access adds to the traffic. -/
structure Few (s s' : CacheV) : Prop where
  h : s.h ≤ s'.h ∧ s'.h ≤ s.h + 1
  m : s.m ≤ s'.m ∧ s'.m ≤ s.m + 1
  i : s.i ≤ s'.i ∧ s'.i ≤ s.i + 4
  o : s.o ≤ s'.o ∧ s'.o ≤ s.o + 4
theorem enterC_few (hit : List (List Int)) (miss : List Int) (line : Nat) (s : CacheV) : Few s (enterC hit miss line s) := by
  unfold enterC
  split
  · exact ⟨⟨by show s.h ≤ s.h + 1; omega, Int.le_refl _⟩, ⟨Int.le_refl _, by show s.m ≤ s.m + 1; omega⟩, ⟨Int.le_refl _, by show s.i ≤ s.i + 4; omega⟩, ⟨Int.le_refl _, by show s.o ≤ s.o + 4; omega⟩⟩
  · obtain ⟨_, _, o3, o4⟩ := outV_length s.ws s.cs s.ds (s.cont.getD (s.cont.length - 1) 0)
    refine ⟨⟨Int.le_refl _, by show s.h ≤ s.h + 1; omega⟩, ⟨by show s.m ≤ s.m + 1; omega, Int.le_refl _⟩, ⟨by show s.i ≤ s.i + 4; omega, Int.le_refl _⟩, ⟨?_, ?_⟩⟩
    · show s.o ≤ s.o + (outV s.ws s.cs s.ds (s.cont.getD (s.cont.length - 1) 0)).1
      omega
    · show s.o + (outV s.ws s.cs s.ds (s.cont.getD (s.cont.length - 1) 0)).1 ≤ s.o + 4
      omega
theorem accessC_few (hit : List (List Int)) (miss : List Int) (back alloc : Bool) (k : Nat) (kind : Int) (a : Nat) (s : CacheV) :
    (s.h ≤ (accessC hit miss back alloc k kind a s).h ∧ (accessC hit miss back alloc k kind a s).h ≤ s.h + 1) ∧ (s.m ≤ (accessC hit miss back alloc k kind a s).m ∧ (accessC hit miss back alloc k kind a s).m ≤ s.m + 1) ∧ (s.i ≤ (accessC hit miss back alloc k kind a s).i ∧ (accessC hit miss back alloc k kind a s).i ≤ s.i + 4) ∧ (s.o ≤ (accessC hit miss back alloc k kind a s).o ∧ (accessC hit miss back alloc k kind a s).o ≤ s.o + 5) := by
  obtain ⟨h1, h2, h3, h4⟩ := enterC_few hit miss (a / 4) s
  unfold accessC
  split
  · exact ⟨⟨Int.le_refl _, by show s.h ≤ s.h + 1; omega⟩, ⟨by show s.m ≤ s.m + 1; omega, Int.le_refl _⟩, ⟨Int.le_refl _, by show s.i ≤ s.i + 4; omega⟩, ⟨by show s.o ≤ s.o + 1; omega, by show s.o + 1 ≤ s.o + 5; omega⟩⟩
  · split
    · unfold writeC
      split
      · exact ⟨h1, h2, h3, h4.1, by show (enterC hit miss (a / 4) s).o ≤ s.o + 5; omega⟩
      · exact ⟨h1, h2, h3, by show s.o ≤ (enterC hit miss (a / 4) s).o + 1; omega, by show (enterC hit miss (a / 4) s).o + 1 ≤ s.o + 5; omega⟩
    · exact ⟨h1, h2, h3, h4.1, by show (enterC hit miss (a / 4) s).o ≤ s.o + 5; omega⟩
/-- What a run has reckoned behind k accesses. -/
structure CacheV.Bnd (k : Nat) (s : CacheV) : Prop where
  h : 0 ≤ s.h ∧ s.h ≤ 5 * k
  m : 0 ≤ s.m ∧ s.m ≤ 5 * k
  i : 0 ≤ s.i ∧ s.i ≤ 5 * k
  o : 0 ≤ s.o ∧ s.o ≤ 5 * k
  rd : s.rd.length ≤ k
theorem start_bnd (n : Nat) : (startC n).Bnd 0 := ⟨by simp [startC], by simp [startC], by simp [startC], by simp [startC], by simp [startC]⟩
theorem enterC_rd (hit : List (List Int)) (miss : List Int) (line : Nat) (s : CacheV) : (enterC hit miss line s).rd = s.rd := by
  unfold enterC
  split <;> rfl
theorem access_bnd (hit : List (List Int)) (miss : List Int) (back alloc : Bool) (k : Nat) (kind : Int) (a : Nat) {s : CacheV} (h : s.Bnd k) : (accessC hit miss back alloc k kind a s).Bnd (k + 1) := by
  obtain ⟨f1, f2, f3, f4⟩ := accessC_few hit miss back alloc k kind a s
  obtain ⟨h1, h2, h3, h4, h5⟩ := h
  refine ⟨by omega, by omega, by omega, by omega, ?_⟩
  have hr := enterC_rd hit miss (a / 4) s
  unfold accessC
  split
  · show s.rd.length ≤ k + 1
    omega
  · split
    · unfold writeC
      split
      · show (enterC hit miss (a / 4) s).rd.length ≤ k + 1
        rw [hr]; omega
      · show (enterC hit miss (a / 4) s).rd.length ≤ k + 1
        rw [hr]; omega
    · show ((enterC hit miss (a / 4) s).rd ++ [_]).length ≤ k + 1
      rw [hr, List.length_append, List.length_singleton]; omega
/-- The lines that are dirty, and what putting out a list of lines costs. -/
def leftC (ds : List Bool) : Nat → List Int
  | 0 => []
  | k + 1 => leftC ds k ++ if ds.getD k false = true then [(k : Int)] else []
def flushC (cs : List Int) : List Int → Int → List Int → List Bool → Int × List Int × List Bool
  | [], f, ws, ds => (f, ws, ds)
  | x :: r, f, ws, ds => flushC cs r (f + (outV ws cs ds x).1) (outV ws cs ds x).2.1 (outV ws cs ds x).2.2
theorem leftC_length (ds : List Bool) : ∀ k, (leftC ds k).length ≤ k
  | 0 => Nat.le_refl _
  | k + 1 => by
    have := leftC_length ds k
    rw [leftC, List.length_append]
    split <;> simp <;> omega
/-- The object behind the trace: its block, and the rows that it leads to. -/
def SpecEnd (w0 w : World) (g bw cw lw hw bc cc lc hc bd cd ld hd n : Nat) (s : CacheV) (left : List Int) (fl : Int) : Prop :=
  ∃ (bk kc lk hk : Nat) (V : Option Addr) (vc lv hv : Nat) (F : Option Addr) (fc lf hf : Nat), Hold w0 w [(boxT #[.slice (some ⟨bw, 0, none⟩) 64 cw, .slice (some ⟨bc, 0, none⟩) 64 cc, .slice (some ⟨bd, 0, none⟩) 16 cd, .slice (some ⟨bk, 0, none⟩) n kc, .slice V s.rd.length vc, .slice F left.length fc, .int .i64 s.h, .int .i64 s.m, .int .i64 s.i, .int .i64 s.o, .int .i64 fl] 53, g, g + 1),
    (flat (Kd.int .i64) 2 (.slice (some ⟨bw, 0, none⟩) 64 cw) s.ws, lw, hw), (flat (Kd.int .i64) 2 (.slice (some ⟨bc, 0, none⟩) 64 cc) s.cs, lc, hc), (flat Kd.bool 4 (.slice (some ⟨bd, 0, none⟩) 16 cd) s.ds, ld, hd),
    (flat (Kd.int .i64) 2 (.slice (some ⟨bk, 0, none⟩) n kc) s.cont, lk, hk), (flat (Kd.int .i64) 2 (.slice V s.rd.length vc) s.rd, lv, hv), (flat (Kd.int .i64) 2 (.slice F left.length fc) left, lf, hf)]
theorem flush_step (cs : List Int) (l : List Int) (k : Nat) (hk : k < l.length) (f : Int) (ws : List Int) (ds : List Bool) : flushC cs (l.drop k) f ws ds = flushC cs (l.drop (k + 1)) (f + (outV ws cs ds (l.getD k 0)).1) (outV ws cs ds (l.getD k 0)).2.1 (outV ws cs ds (l.getD k 0)).2.2 := by
  rw [List.drop_eq_getElem_cons hk, getD_lt l k 0 hk]
  rfl
/-- The run's object: its block, and the rows that it leads to (left is empty as yet). -/
def SpecAt (w0 w : World) (g bw cw lw hw bc cc lc hc bd cd ld hd : Nat) (AF : Option Addr) (fc lf hf n : Nat) (s : CacheV) : Prop :=
  ∃ (bk kc lk hk : Nat) (V : Option Addr) (vc lv hv : Nat), Hold w0 w [(boxT #[.slice (some ⟨bw, 0, none⟩) 64 cw, .slice (some ⟨bc, 0, none⟩) 64 cc, .slice (some ⟨bd, 0, none⟩) 16 cd, .slice (some ⟨bk, 0, none⟩) n kc, .slice V s.rd.length vc, .slice AF 0 fc, .int .i64 s.h, .int .i64 s.m, .int .i64 s.i, .int .i64 s.o, .int .i64 0] 53, g, g + 1),
    (flat (Kd.int .i64) 2 (.slice (some ⟨bw, 0, none⟩) 64 cw) s.ws, lw, hw), (flat (Kd.int .i64) 2 (.slice (some ⟨bc, 0, none⟩) 64 cc) s.cs, lc, hc), (flat Kd.bool 4 (.slice (some ⟨bd, 0, none⟩) 16 cd) s.ds, ld, hd),
    (flat (Kd.int .i64) 2 (.slice (some ⟨bk, 0, none⟩) n kc) s.cont, lk, hk), (flat (Kd.int .i64) 2 (.slice V s.rd.length vc) s.rd, lv, hv), (flat (Kd.int .i64) 2 (.slice AF 0 fc) [], lf, hf)]
/-- An access as a kind and a place. -/
def pairA (x : S58) : Int × Nat := (x.f0, x.f1.toNat)
theorem runC_drop (hit : List (List Int)) (miss : List Int) (back alloc : Bool) {t : List S58} {k : Nat} (h : k < t.length) {x : S58} (hx : x = rd_T58 t (k : Int)) {a : Nat} (ha : x.f1 = (a : Int)) (s : CacheV) :
    runC hit miss back alloc k ((t.drop k).map pairA) s = runC hit miss back alloc (k + 1) ((t.drop (k + 1)).map pairA) (accessC hit miss back alloc k x.f0 a s) := by
  have e : t.drop k = x :: t.drop (k + 1) := by
    rw [List.drop_eq_getElem_cons h, hx]
    congr 1
    show _ = t.getD ((k : Int)).toNat _
    rw [Int.toNat_natCast, getD_lt t k _ h]
  rw [e, List.map_cons]
  show runC hit miss back alloc (k + 1) _ (accessC hit miss back alloc k x.f0 x.f1.toNat s) = _
  rw [ha, Int.toNat_natCast]
section
variable {hit : List (List Int)} {miss : List Int} {back alloc : Bool} {k a n : Nat} {q : Int} {s : CacheV}
theorem enter_hit (h : (s.cont.any fun y => decide (y = (n : Int))) = true) : enterC hit miss n s = { s with h := s.h + 1, cont := (stepV hit miss s.cont n).1 } := by
  unfold enterC
  rw [if_pos h]
theorem enter_miss (h : (s.cont.any fun y => decide (y = (n : Int))) = false) : enterC hit miss n s = fillC hit miss n { s with m := s.m + 1 } := by
  unfold enterC
  rw [if_neg (by rw [h]; exact Bool.false_ne_true)]
theorem acc_around (hn : n = a / 4) (h : (s.cont.any fun y => decide (y = (n : Int))) = false) (hq : (q == 1) = true) (ha : alloc = false) : accessC hit miss back alloc k q a s = { s with m := s.m + 1, ws := s.ws.set a ((k : Int) + 1), o := s.o + 1 } := by
  subst hn
  unfold accessC
  rw [if_pos ⟨h, eq_of_beq hq, ha⟩]
theorem acc_read (hn : n = a / 4) (hq : (q == 1) = false) {s2 : CacheV} (hs : s2 = enterC hit miss n s) : accessC hit miss back alloc k q a s = { s2 with rd := s2.rd ++ [s2.cs.getD a 0] } := by
  subst hn hs
  have hq' : q ≠ 1 := fun e => by rw [e] at hq; exact absurd hq (by decide)
  unfold accessC
  rw [if_neg (fun e => hq' e.2.1), if_neg hq']
theorem acc_write (hn : n = a / 4) (hq : (q == 1) = true) (h : (s.cont.any fun y => decide (y = (n : Int))) = true ∨ alloc = true) {s2 : CacheV} (hs : s2 = enterC hit miss n s) : accessC hit miss back alloc k q a s = writeC back k a s2 := by
  subst hn hs
  unfold accessC
  rw [if_neg ?_, if_pos (eq_of_beq hq)]
  rintro ⟨e1, _, e2⟩
  rcases h with h | h
  · rw [h] at e1; cases e1
  · rw [h] at e2; cases e2
end
theorem sum_w {a b : Int} (h : 0 ≤ a ∧ a ≤ 1048576) (k : 0 ≤ b ∧ b ≤ 4) : wrap64 (a + b) = a + b := wrap_id (by omega) (by omega)
theorem pre_w {m : Nat} (h0 : 1 ≤ m) (h1 : m ≤ 6) : wrap64 ((m : Int) - 1) = ((m - 1 : Nat) : Int) ∧ (((m - 1 : Nat) : Int) < (m : Int)) ∧ ((0 : Int) ≤ ((m - 1 : Nat) : Int)) :=
  ⟨by rw [wrap_id (by omega) (by omega)]; omega, by omega, by omega⟩
set_option maxHeartbeats 1600000 in
set_option maxRecDepth 100000 in
theorem fill_calls {w0 w : World} {R : List (Thing × Nat × Nat)} {g bw cw lw hw bc cc lc hc bd cd ld hd bk kc lk hk m : Nat} {v4 v5 : Value} {a0 a1 a2 a3 a4 : Int} {ws cs cont : List Int} {ds : List Bool} (g0 : Nat) (A0 : Option Addr) (c0 : Nat) (l0 : List (List Int)) (A1 : Option Addr) (c1 : Nat) (l1 : List Int) (pcs : Array Value) (pty : TypeId) (po : Nat) (hcs0 : pcs[po]? = some (.slice A0 l0.length c0)) (hcs1 : pcs[po + 1]? = some (.slice A1 l1.length c1)) (hb0 : w0.heap[g0]? = some (.cells pcs pty (0, 0))) (hr0 : Kd.C (Kd.slice 2 (Kd.int .i64)) w0 A0 l0.length l0) (hc0 : l0.length ≤ c0) (hr1 : Kd.C (Kd.int .i64) w0 A1 l1.length l1) (hc1 : l1.length ≤ c1) {n : Nat} (hn : n < 16) (hm0 : 1 ≤ m) (hm1 : m ≤ 6) {gone o : Int} (hgone : cont.getD (m - 1) 0 = gone) (hgl : gone < 16) {ws' : List Int} {ds' : List Bool} (ho : outV ws cs ds gone = (o, ws', ds')) (hok : okStep l0 l1 cont n = true) (hsl : (stepV l0 l1 cont n).1.length = m) (ho4 : 0 ≤ o ∧ o ≤ 4) (h2 : 0 ≤ a2 ∧ a2 ≤ 1048576) (h3 : 0 ≤ a3 ∧ a3 ≤ 1048576) (h : Hold w0 w ((boxT #[.slice (some ⟨bw, 0, none⟩) 64 cw, .slice (some ⟨bc, 0, none⟩) 64 cc, .slice (some ⟨bd, 0, none⟩) 16 cd, .slice (some ⟨bk, 0, none⟩) m kc, v4, v5, .int .i64 a0, .int .i64 a1, .int .i64 (a2), .int .i64 (a3), .int .i64 a4] 53, g, g + 1) :: (flat (Kd.int .i64) 2 (.slice (some ⟨bw, 0, none⟩) 64 cw) ws, lw, hw) :: (flat (Kd.int .i64) 2 (.slice (some ⟨bc, 0, none⟩) 64 cc) cs, lc, hc) :: (flat Kd.bool 4 (.slice (some ⟨bd, 0, none⟩) 16 cd) ds, ld, hd) :: (flat (Kd.int .i64) 2 (.slice (some ⟨bk, 0, none⟩) m kc) cont, lk, hk) :: R)) :
    Calls Tryz.prog 45 #[.pointer (some ⟨g, 0, none⟩), .pointer (some ⟨g0, po, none⟩), .int .i64 n] w fun e w' => e = .returned (.tuple #[]) ∧ ∃ bk' kc' lk' hk', Hold w0 w' ((boxT #[.slice (some ⟨bw, 0, none⟩) 64 cw, .slice (some ⟨bc, 0, none⟩) 64 cc, .slice (some ⟨bd, 0, none⟩) 16 cd, .slice (some ⟨bk', 0, none⟩) m kc', v4, v5, .int .i64 a0, .int .i64 a1, .int .i64 (a2 + 4), .int .i64 (a3 + o), .int .i64 a4] 53, g, g + 1) :: (flat (Kd.int .i64) 2 (.slice (some ⟨bw, 0, none⟩) 64 cw) (ws'), lw, hw) :: (flat (Kd.int .i64) 2 (.slice (some ⟨bc, 0, none⟩) 64 cc) (copyN cs ws' (n * 4) 4), lc, hc) :: (flat Kd.bool 4 (.slice (some ⟨bd, 0, none⟩) 16 cd) (ds'), ld, hd) :: (flat (Kd.int .i64) 2 (.slice (some ⟨bk', 0, none⟩) m kc') ((stepV l0 l1 cont n).1), lk', hk') :: R) := by
  have HS := h
  clear h
  have HB0 := Aside0.mk hb0
  have HR0 := Aside0.mk hr0
  have HC0 := Aside0.mk hc0
  have HR1 := Aside0.mk hr1
  have HC1 := Aside0.mk hc1
  have HN := Aside0.mk hn
  have HM0 := Aside0.mk hm0
  have HM1 := Aside0.mk hm1
  have HG := Aside0.mk hgone
  have HGL := Aside0.mk hgl
  have HO := Aside0.mk ho
  have HOK := Aside0.mk hok
  have HSL := Aside0.mk hsl
  have HO4 := Aside0.mk ho4
  have H2 := Aside0.mk h2
  have H3 := Aside0.mk h3
  have HP0 := Aside0.mk hcs0
  have HP1 := Aside0.mk hcs1
  have HL := Aside0.mk (HS.reads' (List.mem_cons_of_mem _ (List.mem_cons_of_mem _ (List.mem_cons_of_mem _ (List.mem_cons_of_mem _ List.mem_cons_self))))).1
  have q9 := (HS.cellI (List.mem_cons_of_mem _ (List.mem_cons_of_mem _ (List.mem_cons_of_mem _ (List.mem_cons_of_mem _ List.mem_cons_self)))) ((m - 1 : Nat) : Int) (Int.natCast_nonneg _) (by have := HL.out; have := HM0.out; omega)).1
  rw [Int.toNat_natCast, hgone] at q9
  have HQ9 := Aside0.mk q9
  clear q9
  obtain ⟨w1, ba', bb'⟩ := pre_w hm0 hm1
  have ba := eq_true ba'
  have bb := eq_true bb'
  clear ba' bb'
  have w2 := sum_w h3 ho4
  clear hb0 hr0 hc0 hr1 hc1 hn hm0 hm1 hgone hgl ho hok hsl ho4 h2 h3 hcs0 hcs1
  go_enter Tryz.func45, Tryz.ntmps45
  go_wp2_with fail
  have HD := Hold.drew HS
  refine start_ (n := 24) (S := fun w' => w'.cell? ⟨g, 9, none⟩ = some (.int .i64 (a3)) ∧ w'.cell? ⟨g, 3, none⟩ = some (.slice (some ⟨bk, 0, none⟩) m kc) ∧ w'.cell? ⟨bk, m - 1, none⟩ = some (.int .i64 gone)) (ds := [23]) #[false, false, false, false, false, false, false, false, false, false, false, false, false, false, false, false, false, false, false, false, false, false, false, false] (by kernel_rfl) rfl rfl ⟨(HD.cell List.mem_cons_self 9 _ rfl), (HD.cell List.mem_cons_self 3 _ rfl), (by have := (HD.cellI (List.mem_cons_of_mem _ (List.mem_cons_of_mem _ (List.mem_cons_of_mem _ (List.mem_cons_of_mem _ List.mem_cons_self)))) ((m - 1 : Nat) : Int) (Int.natCast_nonneg _) (by have := HL.out; have := HM0.out; omega)).1; rwa [Int.toNat_natCast, HG.out] at this)⟩ (fun hHeld => ?_)
  generalize w.drew = wd at HD hHeld ⊢
  refine pure_ (i := 0) (N := some 7) (v := ?_) (a' := ?_) #[true, false, false, false, false, false, false, false, false, false, false, false, false, false, false, false, false, false, false, false, false, false, false, false] rfl rfl (by kernel_rfl) (fun _ _ _ h => h) (Or.inl ⟨by rfl, ?_⟩) ?_ ?_
  rotate_left
  · intro w'
    go_simp
    with_reducible rfl
  rotate_left
  · simp only [Act.put, List.setIfInBounds_toArray, List.set_cons_zero, List.set_cons_succ, i64_w, i32_w]
    rfl
  refine pure_ (i := 1) (N := some 8) (v := ?_) (a' := ?_) #[true, true, false, false, false, false, false, false, false, false, false, false, false, false, false, false, false, false, false, false, false, false, false, false] rfl rfl (by kernel_rfl) (fun _ _ _ h => h) (Or.inl ⟨by rfl, ?_⟩) ?_ ?_
  rotate_left
  · intro w'
    go_simp
    with_reducible rfl
  rotate_left
  · simp only [Act.put, List.setIfInBounds_toArray, List.set_cons_zero, List.set_cons_succ, i64_w, i32_w]
    rfl
  refine pure_ (i := 2) (N := some 9) (v := ?_) (a' := ?_) #[true, true, true, false, false, false, false, false, false, false, false, false, false, false, false, false, false, false, false, false, false, false, false, false] rfl rfl (by kernel_rfl) (fun _ _ _ h => h) (Or.inl ⟨by rfl, ?_⟩) ?_ ?_
  rotate_left
  · intro w'
    go_simp
    with_reducible rfl
  rotate_left
  · simp only [Act.put, List.setIfInBounds_toArray, List.set_cons_zero, List.set_cons_succ, i64_w, i32_w]
    rfl
  refine pure_ (i := 3) (N := some 10) (v := ?_) (a' := ?_) #[true, true, true, true, false, false, false, false, false, false, false, false, false, false, false, false, false, false, false, false, false, false, false, false] rfl rfl (by kernel_rfl) (fun _ _ _ h => h) (Or.inl ⟨by rfl, ?_⟩) ?_ ?_
  rotate_left
  · intro w'
    go_simp
    with_reducible rfl
  rotate_left
  · simp only [Act.put, List.setIfInBounds_toArray, List.set_cons_zero, List.set_cons_succ, i64_w, i32_w]
    rfl
  refine pure_ (i := 5) (N := some 12) (v := ?_) (a' := ?_) #[true, true, true, true, false, true, false, false, false, false, false, false, false, false, false, false, false, false, false, false, false, false, false, false] rfl rfl (by kernel_rfl) (fun _ _ _ h => h) (Or.inl ⟨by rfl, ?_⟩) ?_ ?_
  rotate_left
  · intro w'
    go_simp
    with_reducible rfl
  rotate_left
  · simp only [Act.put, List.setIfInBounds_toArray, List.set_cons_zero, List.set_cons_succ, i64_w, i32_w]
    rfl
  refine pure_ (i := 6) (N := some 13) (v := ?_) (a' := ?_) #[true, true, true, true, false, true, true, false, false, false, false, false, false, false, false, false, false, false, false, false, false, false, false, false] rfl rfl (by kernel_rfl) (fun _ _ _ h => h) (Or.inl ⟨by rfl, ?_⟩) ?_ ?_
  rotate_left
  · intro w'
    go_simp
    with_reducible rfl
  rotate_left
  · simp only [Act.put, List.setIfInBounds_toArray, List.set_cons_zero, List.set_cons_succ, i64_w, i32_w]
    rfl
  refine pure_ (i := 7) (N := some 14) (v := ?_) (a' := ?_) #[true, true, true, true, false, true, true, true, false, false, false, false, false, false, false, false, false, false, false, false, false, false, false, false] rfl rfl (by kernel_rfl) (fun _ _ _ h => h) (Or.inl ⟨by rfl, ?_⟩) ?_ ?_
  rotate_left
  · intro w'
    go_simp
    with_reducible rfl
  rotate_left
  · simp only [Act.put, List.setIfInBounds_toArray, List.set_cons_zero, List.set_cons_succ, i64_w, i32_w]
    rfl
  refine pure_ (i := 8) (N := some 15) (v := ?_) (a' := ?_) #[true, true, true, true, false, true, true, true, true, false, false, false, false, false, false, false, false, false, false, false, false, false, false, false] rfl rfl (by kernel_rfl) (fun _ _ _ h => h) (Or.inl ⟨by rfl, ?_⟩) ?_ ?_
  rotate_left
  · intro w'
    go_simp
    with_reducible rfl
  rotate_left
  · simp only [Act.put, List.setIfInBounds_toArray, List.set_cons_zero, List.set_cons_succ, i64_w, i32_w]
    rfl
  refine pure_ (i := 10) (N := some 17) (v := ?_) (a' := ?_) #[true, true, true, true, false, true, true, true, true, false, true, false, false, false, false, false, false, false, false, false, false, false, false, false] rfl rfl (by kernel_rfl) (fun _ _ _ h => h) (Or.inl ⟨by rfl, ?_⟩) ?_ ?_
  rotate_left
  · intro w'
    go_simp
    with_reducible rfl
  rotate_left
  · simp only [Act.put, List.setIfInBounds_toArray, List.set_cons_zero, List.set_cons_succ, i64_w, i32_w]
    rfl
  refine pure_ (i := 11) (N := some 18) (v := ?_) (a' := ?_) #[true, true, true, true, false, true, true, true, true, false, true, true, false, false, false, false, false, false, false, false, false, false, false, false] rfl rfl (by kernel_rfl) (fun _ _ _ h => h) (Or.inl ⟨by rfl, ?_⟩) ?_ ?_
  rotate_left
  · intro w'
    go_simp
    with_reducible rfl
  rotate_left
  · simp only [Act.put, List.setIfInBounds_toArray, List.set_cons_zero, List.set_cons_succ, i64_w, i32_w]
    rfl
  refine pure_ (i := 12) (N := some 19) (v := ?_) (a' := ?_) #[true, true, true, true, false, true, true, true, true, false, true, true, true, false, false, false, false, false, false, false, false, false, false, false] rfl rfl (by kernel_rfl) (fun _ _ _ h => h) (Or.inl ⟨by rfl, ?_⟩) ?_ ?_
  rotate_left
  · intro w'
    go_simp
    with_reducible rfl
  rotate_left
  · simp only [Act.put, List.setIfInBounds_toArray, List.set_cons_zero, List.set_cons_succ, i64_w, i32_w]
    rfl
  refine take_ (i := 4) (N := some 11) (v := ?_) (a' := ?_) #[true, true, true, true, true, true, true, true, true, false, true, true, true, false, false, false, false, false, false, false, false, false, false, false] rfl rfl (by kernel_rfl) (fun _ _ _ h => h) (Or.inl ⟨by rfl, ?_⟩) hHeld ?_ ?_
  rotate_left
  · rintro w' ⟨s0, s1, s2⟩
    go_simp
    with_reducible rfl
  rotate_left
  · simp only [Act.put, List.setIfInBounds_toArray, List.set_cons_zero, List.set_cons_succ, i64_w, i32_w]
    rfl
  refine take_ (i := 9) (N := some 16) (v := ?_) (a' := ?_) #[true, true, true, true, true, true, true, true, true, true, true, true, true, false, false, false, false, false, false, false, false, false, false, false] rfl rfl (by kernel_rfl) (fun _ _ _ h => h) (Or.inl ⟨by rfl, ?_⟩) hHeld ?_ ?_
  rotate_left
  · rintro w' ⟨s0, s1, s2⟩
    go_simp
    with_reducible rfl
  rotate_left
  · simp only [Act.put, List.setIfInBounds_toArray, List.set_cons_zero, List.set_cons_succ, i64_w, i32_w]
    rfl
  refine take_ (i := 13) (N := some 20) (v := ?_) (a' := ?_) #[true, true, true, true, true, true, true, true, true, true, true, true, true, true, false, false, false, false, false, false, false, false, false, false] rfl rfl (by kernel_rfl) (fun _ _ _ h => h) (Or.inl ⟨by rfl, ?_⟩) hHeld ?_ ?_
  rotate_left
  · rintro w' ⟨s0, s1, s2⟩
    go_simp
    with_reducible rfl
  rotate_left
  · simp only [Act.put, List.setIfInBounds_toArray, List.set_cons_zero, List.set_cons_succ, i64_w, i32_w]
    rfl
  refine pure_ (i := 14) (N := some 21) (v := ?_) (a' := ?_) #[true, true, true, true, true, true, true, true, true, true, true, true, true, true, true, false, false, false, false, false, false, false, false, false] rfl rfl (by kernel_rfl) (fun _ _ _ h => h) (Or.inl ⟨by rfl, ?_⟩) ?_ ?_
  rotate_left
  · intro w'
    go_simp
    with_reducible rfl
  rotate_left
  · simp only [Act.put, List.setIfInBounds_toArray, List.set_cons_zero, List.set_cons_succ, i64_w, i32_w]
    rfl
  refine pure_ (i := 15) (N := some 22) (v := ?_) (a' := ?_) #[true, true, true, true, true, true, true, true, true, true, true, true, true, true, true, true, false, false, false, false, false, false, false, false] rfl rfl (by kernel_rfl) (fun _ _ _ h => h) (Or.inl ⟨by rfl, ?_⟩) ?_ ?_
  rotate_left
  · intro w'
    go_simp
    with_reducible rfl
  rotate_left
  · simp only [Act.put, List.setIfInBounds_toArray, List.set_cons_zero, List.set_cons_succ, i64_w, i32_w]
    rfl
  refine pure_ (i := 16) (N := some 23) (v := ?_) (a' := ?_) #[true, true, true, true, true, true, true, true, true, true, true, true, true, true, true, true, true, false, false, false, false, false, false, false] rfl rfl (by kernel_rfl) (fun _ _ _ h => h) (Or.inl ⟨by rfl, ?_⟩) ?_ ?_
  rotate_left
  · intro w'
    go_simp
    with_reducible rfl
  rotate_left
  · simp only [Act.put, List.setIfInBounds_toArray, List.set_cons_zero, List.set_cons_succ, i64_w, i32_w]
    rfl
  refine take_ (i := 17) (N := some 24) (v := ?_) (a' := ?_) #[true, true, true, true, true, true, true, true, true, true, true, true, true, true, true, true, true, true, false, false, false, false, false, false] rfl rfl (by kernel_rfl) (fun _ _ _ h => h) (Or.inl ⟨by rfl, ?_⟩) hHeld ?_ ?_
  rotate_left
  · rintro w' ⟨s0, s1, s2⟩
    go_simp
    with_reducible rfl
  rotate_left
  · simp only [Act.put, List.setIfInBounds_toArray, List.set_cons_zero, List.set_cons_succ, i64_w, i32_w]
    rfl
  refine one_ (i := 18) (N := some 25) #[true, true, true, true, true, true, true, true, true, true, true, true, true, true, true, true, true, true, true, false, false, false, false, false] rfl rfl (by kernel_rfl) (by decide) (fun K hK => ?_)
  refine goes_ Tryz.func46 (by kernel_rfl) rfl #[.pointer (some ⟨g, 0, none⟩), .int .i64 gone] (by rfl) rfl rfl (by simp only [List.map_toArray, List.map_cons, List.map_nil]; rfl) ?_
  with_reducible refine (out_calls HD HGL.out HO.out).mono ?_
  rintro e w7 ⟨rfl, HQ⟩
  refine ⟨_, rfl, ?_⟩
  replace HD := HQ
  clear HQ
  have s0_ : w7.cell? ⟨g, 9, none⟩ = some (.int .i64 (a3)) := HD.cell List.mem_cons_self 9 _ rfl
  have s1_ : w7.cell? ⟨g, 3, none⟩ = some (.slice (some ⟨bk, 0, none⟩) m kc) := HD.cell List.mem_cons_self 3 _ rfl
  have s2_ : w7.cell? ⟨bk, m - 1, none⟩ = some (.int .i64 gone) := (by have := (HD.cellI (List.mem_cons_of_mem _ (List.mem_cons_of_mem _ (List.mem_cons_of_mem _ (List.mem_cons_of_mem _ List.mem_cons_self)))) ((m - 1 : Nat) : Int) (Int.natCast_nonneg _) (by have := HL.out; have := HM0.out; omega)).1; rwa [Int.toNat_natCast, HG.out] at this)
  have fz_ : ∀ j, w7.frozen? ⟨g, j, none⟩ = false := HD.thaw List.mem_cons_self
  refine hK.out _ _ ⟨s0_, s1_, s2_⟩ (fun hHeld => ?_)
  clear hK K
  refine norm_ (a' := ?_) ?_ ?_
  rotate_left
  · show Act.put _ (some 25) _ = _
    simp only [Act.put, List.setIfInBounds_toArray, List.set_cons_zero, List.set_cons_succ, i64_w, i32_w]
    rfl
  refine pure_ (i := 19) (N := some 26) (v := ?_) (a' := ?_) #[true, true, true, true, true, true, true, true, true, true, true, true, true, true, true, true, true, true, true, true, false, false, false, false] rfl rfl (by kernel_rfl) (fun _ _ _ h => h) (Or.inl ⟨by rfl, ?_⟩) ?_ ?_
  rotate_left
  · intro w'
    go_simp
    with_reducible rfl
  rotate_left
  · simp only [Act.put, List.setIfInBounds_toArray, List.set_cons_zero, List.set_cons_succ, i64_w, i32_w]
    rfl
  refine pure_ (i := 20) (N := some 27) (v := ?_) (a' := ?_) #[true, true, true, true, true, true, true, true, true, true, true, true, true, true, true, true, true, true, true, true, true, false, false, false] rfl rfl (by kernel_rfl) (fun _ _ _ h => h) (Or.inl ⟨by rfl, ?_⟩) ?_ ?_
  rotate_left
  · intro w'
    go_simp
    with_reducible rfl
  rotate_left
  · simp only [Act.put, List.setIfInBounds_toArray, List.set_cons_zero, List.set_cons_succ, i64_w, i32_w]
    rfl
  refine pure_ (i := 21) (N := some 28) (v := ?_) (a' := ?_) #[true, true, true, true, true, true, true, true, true, true, true, true, true, true, true, true, true, true, true, true, true, true, false, false] rfl rfl (by kernel_rfl) (fun _ _ _ h => h) (Or.inl ⟨by rfl, ?_⟩) ?_ ?_
  rotate_left
  · intro w'
    go_simp
    with_reducible rfl
  rotate_left
  · simp only [Act.put, List.setIfInBounds_toArray, List.set_cons_zero, List.set_cons_succ, i64_w, i32_w]
    rfl
  refine pure_ (i := 22) (N := some 29) (v := ?_) (a' := ?_) #[true, true, true, true, true, true, true, true, true, true, true, true, true, true, true, true, true, true, true, true, true, true, true, false] rfl rfl (by kernel_rfl) (fun _ _ _ h => h) (Or.inl ⟨by rfl, ?_⟩) ?_ ?_
  rotate_left
  · intro w'
    go_simp
    with_reducible rfl
  rotate_left
  · simp only [Act.put, List.setIfInBounds_toArray, List.set_cons_zero, List.set_cons_succ, i64_w, i32_w]
    rfl
  refine last_ (i := 23) (N := none) #[true, true, true, true, true, true, true, true, true, true, true, true, true, true, true, true, true, true, true, true, true, true, true, true] rfl rfl (by kernel_rfl) (by decide) (fun K hK => ?_)
  refine skip_ (w1 := ?_) (by rfl) rfl ?_ ?_
  rotate_left
  · go_simp
    rfl
  refine hK.out _ _ ?_
  clear hK K
  refine done_ (by kernel_rfl) ?_
  clear hHeld s0_ s1_ s2_ fz_
  replace HS := HD
  clear HD
  replace HS := HS.setBox 9 (.int .i64 (a3 + o)) .here
  simp only [List.setIfInBounds_toArray, List.set_cons_zero, List.set_cons_succ] at HS
  generalize w7.setCell ⟨g, 9, none⟩ (.int .i64 (a3 + o)) = w7b at HS ⊢
  clear w1 w2 ba bb
  have b2 : (0 : Int) ≤ n := Int.natCast_nonneg n
  have b3 : (n : Int) < 16 := Int.ofNat_lt.2 HN.out
  have HW := Aside0.mk (HS.reads' (List.mem_cons_of_mem _ List.mem_cons_self)).1
  have HC := Aside0.mk (HS.reads' (List.mem_cons_of_mem _ (List.mem_cons_of_mem _ List.mem_cons_self))).1
  have H0 : Aside0 (Hold w0 w7b _) := ⟨HS⟩
  clear HS
  go_wp2_with fail
  go_loopg [6] 4 (fun gg s6 wr => ∃ kk : Nat, kk ≤ 4 ∧ 4 - kk ≤ gg ∧ s6 = .int .i64 ((n * 4 + kk : Nat) : Int) ∧ Aside0 (Hold w0 wr ((boxT #[.slice (some ⟨bw, 0, none⟩) 64 cw, .slice (some ⟨bc, 0, none⟩) 64 cc, .slice (some ⟨bd, 0, none⟩) 16 cd, .slice (some ⟨bk, 0, none⟩) m kc, v4, v5, .int .i64 a0, .int .i64 a1, .int .i64 (a2), .int .i64 (a3 + o), .int .i64 a4] 53, g, g + 1) :: (flat (Kd.int .i64) 2 (.slice (some ⟨bw, 0, none⟩) 64 cw) (ws'), lw, hw) :: (flat (Kd.int .i64) 2 (.slice (some ⟨bc, 0, none⟩) 64 cc) (copyN cs ws' (n * 4) kk), lc, hc) :: (flat Kd.bool 4 (.slice (some ⟨bd, 0, none⟩) 16 cd) (ds'), ld, hd) :: (flat (Kd.int .i64) 2 (.slice (some ⟨bk, 0, none⟩) m kc) cont, lk, hk) :: R)))
  case atStart => exact ⟨0, Nat.zero_le _, Nat.le_refl _, by simp, H0⟩
  case round =>
    clear H0
    obtain ⟨kk, hkk, hg_, rfl, HSS⟩ := hrel
    have HS := HSS.out
    clear HSS
    have hn := HN.out
    by_cases hlt : kk < 4
    · have hltz : ((n * 4 + kk : Nat) : Int) < ((n : Int) + 1) * 4 := by omega
      have hp : n * 4 + kk < 64 := by omega
      have w9 : wrap64 (((n * 4 + kk : Nat) : Int) + 1) = ((n * 4 + (kk + 1) : Nat) : Int) := by rw [wrap_id (by omega) (by omega)]; omega
      obtain ⟨p, hpe⟩ : ∃ p, p = n * 4 + kk := ⟨_, rfl⟩
      have HPE := Aside0.mk hpe
      rw [← hpe] at hltz hp w9 ⊢
      clear hpe
      have bpa : ((p : Int) < 64) = True := by clear w9; simp only [eq_iff_iff, iff_true]; omega
      have bpb : ((0 : Int) ≤ p) = True := by simp only [eq_iff_iff, iff_true]; omega
      go_wp2_with fail
      have HD := Hold.drew HS
      refine start_ (n := 14) (S := fun w' => w'.cell? ⟨g, 1, none⟩ = some (.slice (some ⟨bc, 0, none⟩) 64 cc) ∧ w'.cell? ⟨g, 0, none⟩ = some (.slice (some ⟨bw, 0, none⟩) 64 cw) ∧ w'.cell? ⟨bw, p, none⟩ = some (.int .i64 (ws'.getD p 0))) (ds := [13]) #[false, false, false, false, false, false, false, false, false, false, false, false, false, false] (by kernel_rfl) rfl rfl ⟨(HD.cell List.mem_cons_self 1 _ rfl), (HD.cell List.mem_cons_self 0 _ rfl), (by have := (HD.cellI (List.mem_cons_of_mem _ List.mem_cons_self) (p : Int) (Int.natCast_nonneg p) (by have := HW.out; omega)).1; rwa [Int.toNat_natCast] at this)⟩ (fun hHeld => ?_)
      generalize wr.drew = wd at HD hHeld ⊢
      have st_ := (by have := HD.cellI (List.mem_cons_of_mem _ (List.mem_cons_of_mem _ List.mem_cons_self)) (p : Int) (Int.natCast_nonneg p) (by rw [copyN_length]; have := HC.out; omega); rw [Int.toNat_natCast] at this; exact this)
      refine pure_ (i := 0) (N := some 39) (v := ?_) (a' := ?_) #[true, false, false, false, false, false, false, false, false, false, false, false, false, false] rfl rfl (by kernel_rfl) (fun _ _ _ h => h) (Or.inl ⟨by rfl, ?_⟩) ?_ ?_
      rotate_left
      · intro w'
        go_simp
        with_reducible rfl
      rotate_left
      · simp only [Act.put, List.setIfInBounds_toArray, List.set_cons_zero, List.set_cons_succ, i64_w, i32_w]
        rfl
      refine pure_ (i := 1) (N := some 40) (v := ?_) (a' := ?_) #[true, true, false, false, false, false, false, false, false, false, false, false, false, false] rfl rfl (by kernel_rfl) (fun _ _ _ h => h) (Or.inl ⟨by rfl, ?_⟩) ?_ ?_
      rotate_left
      · intro w'
        go_simp
        with_reducible rfl
      rotate_left
      · simp only [Act.put, List.setIfInBounds_toArray, List.set_cons_zero, List.set_cons_succ, i64_w, i32_w]
        rfl
      refine pure_ (i := 2) (N := some 41) (v := ?_) (a' := ?_) #[true, true, true, false, false, false, false, false, false, false, false, false, false, false] rfl rfl (by kernel_rfl) (fun _ _ _ h => h) (Or.inl ⟨by rfl, ?_⟩) ?_ ?_
      rotate_left
      · intro w'
        go_simp
        with_reducible rfl
      rotate_left
      · simp only [Act.put, List.setIfInBounds_toArray, List.set_cons_zero, List.set_cons_succ, i64_w, i32_w]
        rfl
      refine pure_ (i := 4) (N := some 43) (v := ?_) (a' := ?_) #[true, true, true, false, true, false, false, false, false, false, false, false, false, false] rfl rfl (by kernel_rfl) (fun _ _ _ h => h) (Or.inl ⟨by rfl, ?_⟩) ?_ ?_
      rotate_left
      · intro w'
        go_simp
        with_reducible rfl
      rotate_left
      · simp only [Act.put, List.setIfInBounds_toArray, List.set_cons_zero, List.set_cons_succ, i64_w, i32_w]
        rfl
      refine pure_ (i := 5) (N := some 44) (v := ?_) (a' := ?_) #[true, true, true, false, true, true, false, false, false, false, false, false, false, false] rfl rfl (by kernel_rfl) (fun _ _ _ h => h) (Or.inl ⟨by rfl, ?_⟩) ?_ ?_
      rotate_left
      · intro w'
        go_simp
        with_reducible rfl
      rotate_left
      · simp only [Act.put, List.setIfInBounds_toArray, List.set_cons_zero, List.set_cons_succ, i64_w, i32_w]
        rfl
      refine pure_ (i := 6) (N := some 45) (v := ?_) (a' := ?_) #[true, true, true, false, true, true, true, false, false, false, false, false, false, false] rfl rfl (by kernel_rfl) (fun _ _ _ h => h) (Or.inl ⟨by rfl, ?_⟩) ?_ ?_
      rotate_left
      · intro w'
        go_simp
        with_reducible rfl
      rotate_left
      · simp only [Act.put, List.setIfInBounds_toArray, List.set_cons_zero, List.set_cons_succ, i64_w, i32_w]
        rfl
      refine pure_ (i := 7) (N := some 46) (v := ?_) (a' := ?_) #[true, true, true, false, true, true, true, true, false, false, false, false, false, false] rfl rfl (by kernel_rfl) (fun _ _ _ h => h) (Or.inl ⟨by rfl, ?_⟩) ?_ ?_
      rotate_left
      · intro w'
        go_simp
        with_reducible rfl
      rotate_left
      · simp only [Act.put, List.setIfInBounds_toArray, List.set_cons_zero, List.set_cons_succ, i64_w, i32_w]
        rfl
      refine pure_ (i := 9) (N := some 48) (v := ?_) (a' := ?_) #[true, true, true, false, true, true, true, true, false, true, false, false, false, false] rfl rfl (by kernel_rfl) (fun _ _ _ h => h) (Or.inl ⟨by rfl, ?_⟩) ?_ ?_
      rotate_left
      · intro w'
        go_simp
        with_reducible rfl
      rotate_left
      · simp only [Act.put, List.setIfInBounds_toArray, List.set_cons_zero, List.set_cons_succ, i64_w, i32_w]
        rfl
      refine take_ (i := 3) (N := some 42) (v := ?_) (a' := ?_) #[true, true, true, true, true, true, true, true, false, true, false, false, false, false] rfl rfl (by kernel_rfl) (fun _ _ _ h => h) (Or.inl ⟨by rfl, ?_⟩) hHeld ?_ ?_
      rotate_left
      · rintro w' ⟨s0, s1, s2⟩
        go_simp
        with_reducible rfl
      rotate_left
      · simp only [Act.put, List.setIfInBounds_toArray, List.set_cons_zero, List.set_cons_succ, i64_w, i32_w]
        rfl
      refine take_ (i := 8) (N := some 47) (v := ?_) (a' := ?_) #[true, true, true, true, true, true, true, true, true, true, false, false, false, false] rfl rfl (by kernel_rfl) (fun _ _ _ h => h) (Or.inl ⟨by rfl, ?_⟩) hHeld ?_ ?_
      rotate_left
      · rintro w' ⟨s0, s1, s2⟩
        go_simp
        with_reducible rfl
      rotate_left
      · simp only [Act.put, List.setIfInBounds_toArray, List.set_cons_zero, List.set_cons_succ, i64_w, i32_w]
        rfl
      refine pure_ (i := 10) (N := some 49) (v := ?_) (a' := ?_) #[true, true, true, true, true, true, true, true, true, true, true, false, false, false] rfl rfl (by kernel_rfl) (fun _ _ _ h => h) (Or.inl ⟨by rfl, ?_⟩) ?_ ?_
      rotate_left
      · intro w'
        go_simp
        with_reducible rfl
      rotate_left
      · simp only [Act.put, List.setIfInBounds_toArray, List.set_cons_zero, List.set_cons_succ, i64_w, i32_w]
        rfl
      refine take_ (i := 11) (N := some 50) (v := ?_) (a' := ?_) #[true, true, true, true, true, true, true, true, true, true, true, true, false, false] rfl rfl (by kernel_rfl) (fun _ _ _ h => h) (Or.inl ⟨by rfl, ?_⟩) hHeld ?_ ?_
      rotate_left
      · rintro w' ⟨s0, s1, s2⟩
        go_simp
        with_reducible rfl
      rotate_left
      · simp only [Act.put, List.setIfInBounds_toArray, List.set_cons_zero, List.set_cons_succ, i64_w, i32_w]
        rfl
      refine pure_ (i := 12) (N := some 51) (v := ?_) (a' := ?_) #[true, true, true, true, true, true, true, true, true, true, true, true, true, false] rfl rfl (by kernel_rfl) (fun _ _ _ h => h) (Or.inl ⟨by rfl, ?_⟩) ?_ ?_
      rotate_left
      · intro w'
        go_simp
        with_reducible rfl
      rotate_left
      · simp only [Act.put, List.setIfInBounds_toArray, List.set_cons_zero, List.set_cons_succ, i64_w, i32_w]
        rfl
      refine last_ (i := 13) (N := none) #[true, true, true, true, true, true, true, true, true, true, true, true, true, true] rfl rfl (by kernel_rfl) (by decide) (fun K hK => ?_)
      refine skip_ (w1 := ?_) (by rfl) rfl ?_ ?_
      rotate_left
      · go_simp
        rfl
      refine hK.out _ _ ?_
      clear hK K
      refine done_ (by kernel_rfl) ?_
      clear hHeld
      have H5 := HD.setI (p : Int) (ws'.getD p 0) ((.there (.there .here)))
      rw [Int.toNat_natCast] at H5
      simp only [List.getD_eq_getElem?_getD] at H5
      clear st_ HD HS
      have H6 := Aside0.mk H5
      clear H5
      go_wp2_with fail
      go_roundg (4 - (kk + 1))
      case measure => omega
      case rel => exact ⟨kk + 1, by omega, by omega, by have := HPE.out; congr 1; omega, ⟨by have hpe := HPE.out; subst hpe; exact H6.out⟩⟩
    · obtain rfl : kk = 4 := by omega
      have hltz : ¬ ((n * 4 + 4 : Nat) : Int) < ((n : Int) + 1) * 4 := by omega
      clear hlt hg_ hkk
      have b4 := H2.out.1
      have b5 := H2.out.2
      have q3 : wr.cell? ⟨g, 3, none⟩ = some (.slice (some ⟨bk, 0, none⟩) m kc) := HS.cell List.mem_cons_self 3 _ rfl
      have q8 : wr.cell? ⟨g, 8, none⟩ = some (.int .i64 (a2)) := HS.cell List.mem_cons_self 8 _ rfl
      have fzq : ∀ j, wr.frozen? ⟨g, j, none⟩ = false := HS.thaw List.mem_cons_self
      go_wp2_with fail
      clear q3 q8 fzq
      replace HS := HS.setBox 8 (.int .i64 (a2 + 4)) .here
      simp only [List.setIfInBounds_toArray, List.set_cons_zero, List.set_cons_succ] at HS
      generalize wr.setCell ⟨g, 8, none⟩ (.int .i64 (a2 + 4)) = w8 at HS ⊢
      obtain ⟨hm, hkc, hC⟩ := HS.reads' (List.mem_cons_of_mem _ (List.mem_cons_of_mem _ (List.mem_cons_of_mem _ (List.mem_cons_of_mem _ List.mem_cons_self))))
      have HM := Aside0.mk hm
      have HKC := Aside0.mk hkc
      have HCC := Aside0.mk hC
      clear hm hkc hC
      refine (show Calls _ _ #[.pointer (some ⟨g0, po, none⟩), .slice (some ⟨bk, 0, none⟩) m kc, .int .i64 n] _ _ from HM.out ▸ (spec_l03Step.gen g0 A0 c0 l0 A1 c1 l1 (some ⟨bk, 0, none⟩) kc cont n _ pcs pty po HP0.out HP1.out (blk_below HB0.out HS.below) (Kd.C_below HR0.out HS.below) HC0.out (Kd.C_below HR1.out HS.below) HC1.out HCC.out HKC.out HOK.out)).mono ?_
      rintro e w9 ⟨v_, rfl, hr, hb⟩
      replace HS := HS.made hb hr
      clear hb hr
      obtain ⟨bk', kc', rfl, _, _⟩ := HS.row_form List.mem_cons_self (by rw [HSL.out]; have := HM0.out; omega)
      rw [HSL.out] at HS ⊢
      have q3 : w9.cell? ⟨g, 3, none⟩ = some (.slice (some ⟨bk, 0, none⟩) m kc) := HS.cell (List.mem_cons_of_mem _ List.mem_cons_self) 3 _ rfl
      have fzq : ∀ j, w9.frozen? ⟨g, j, none⟩ = false := HS.thaw (List.mem_cons_of_mem _ List.mem_cons_self)
      go_wp2_with fail
      replace HS := HS.setBox 3 (.slice (some ⟨bk', 0, none⟩) m kc') (.there .here)
      simp only [List.setIfInBounds_toArray, List.set_cons_zero, List.set_cons_succ] at HS
      generalize w9.setCell ⟨g, 3, none⟩ (.slice (some ⟨bk', 0, none⟩) m kc') = wz at HS ⊢
      replace HS := HS.pick (.there (.there (.there (.there (.there .here)))))
      replace HS := HS.tail
      replace HS := HS.pick (.there (.there (.there (.there .here))))
      replace HS := HS.pick (.there (.there (.there (.there .here))))
      replace HS := HS.pick (.there (.there (.there (.there .here))))
      replace HS := HS.pick (.there (.there (.there (.there .here))))
      (try simp only [Exit.inBlock, Exit.then]); first | refine bodyPost_ret (results_none rfl _ _ _) rfl ?_ | refine bodyPost_end (results_none rfl _ _ _) rfl ?_
      exact ⟨rfl, bk', kc', _, _, HS⟩
theorem getD_mem' {α : Type} (l : List α) (i : Nat) (z : α) (h : i < l.length) : l.getD i z ∈ l := by rw [getD_lt l i z h]; exact List.getElem_mem h
set_option maxHeartbeats 1600000 in
set_option maxRecDepth 100000 in
theorem do_start {w : World} (g0 : Nat) (A0 : Option Addr) (c0 : Nat) (l0 : List (List Int)) (A1 : Option Addr) (c1 : Nat) (l1 : List Int) (pcs : Array Value) (pty : TypeId) (hcs0 : pcs[0]? = some (.slice A0 l0.length c0)) (hcs1 : pcs[0 + 1]? = some (.slice A1 l1.length c1)) (hty : pty ≠ 2) (hb0 : w.heap[g0]? = some (.cells pcs pty (0, 0))) (hr0 : Kd.C (Kd.slice 2 (Kd.int .i64)) w A0 l0.length l0) (hc0 : l0.length ≤ c0) (hr1 : Kd.C (Kd.int .i64) w A1 l1.length l1) (hc1 : l1.length ≤ c1) {l : List Int} (he : Ev (fun k => spec_l03Empty.f k l0 l1) l) (AT : Option Addr) (cT m : Nat) (t : List S58) (back al : Bool) {fin : CacheV} (hT : Kd.C k58 w AT t.length t) (hV : ∀ x ∈ t, ∃ a : Nat, x.f1 = (a : Int) ∧ a < 64 ∧ (x.f0 = 0 ∨ x.f0 = 1)) (hbk : pcs[2]? = some (.bool back)) (hal : pcs[3]? = some (.bool al)) (hok : ∀ (c : List Int) (x : Int), c.length = m → okStep l0 l1 c x = true) (hlen : ∀ (c : List Int) (x : Int), c.length = m → (stepV l0 l1 c x).1.length = m) (ht60 : t.length ≤ 60) (hln : l.length = m ∧ 1 ≤ m ∧ m ≤ 6) (hlr : l = List.replicate m (-1)) (hfin : runC l0 l1 back al 0 (t.map pairA) (startC m) = fin) :
    Calls Tryz.prog 25 #[.pointer (some ⟨g0, 0, none⟩), .slice AT t.length cT] w fun e w' => ∃ g, e = .returned (.pointer (some ⟨g, 0, none⟩)) ∧ ∃ bw cw lw hw bc cc lc hc bd cd ld hd, SpecEnd w w' g bw cw lw hw bc cc lc hc bd cd ld hd m { fin with ws := (flushC fin.cs fin.cont 0 fin.ws fin.ds).2.1, ds := (flushC fin.cs fin.cont 0 fin.ws fin.ds).2.2 } (leftC fin.ds 16) (flushC fin.cs fin.cont 0 fin.ws fin.ds).1 := by
  have HT := Aside0.mk hT
  have HV := Aside0.mk hV
  clear hT hV
  have HLN := Aside0.mk hln
  have HLR := Aside0.mk hlr
  have HF := Aside0.mk hfin
  clear hln hlr hfin
  have HE := Aside0.mk he
  have HB0 := Aside0.mk hb0
  have HP0 := Aside0.mk hcs0
  have HP1 := Aside0.mk hcs1
  have HTY := Aside0.mk hty
  have HR0 := Aside0.mk hr0
  have HC0 := Aside0.mk hc0
  have HR1 := Aside0.mk hr1
  have HC1 := Aside0.mk hc1
  have HBK := Aside0.mk hbk
  have HAL := Aside0.mk hal
  have HOK := Aside0.mk hok
  have HLEN := Aside0.mk hlen
  have HT60 := Aside0.mk ht60
  clear hbk hal hok hlen ht60
  clear he hb0 hcs0 hcs1 hty hr0 hc0 hr1 hc1
  have HS := Hold.start w
  go_enter Tryz.func25, Tryz.ntmps25
  go_wp2_with fail
  have HD := Hold.drew HS
  refine start_ (n := 12) (S := fun _ => True) (ds := []) #[false, false, false, false, false, false, false, false, false, false, false, false] (by kernel_rfl) rfl rfl trivial (fun hHeld => ?_)
  clear hHeld
  generalize w.drew = wd at HD ⊢
  refine pure_ (i := 3) (N := some 15) (v := ?_) (a' := ?_) #[false, false, false, true, false, false, false, false, false, false, false, false] rfl rfl (by kernel_rfl) (fun _ _ _ h => h) (Or.inl ⟨by rfl, ?_⟩) ?_ ?_
  rotate_left
  · intro w'
    go_simp
    with_reducible rfl
  rotate_left
  · simp only [Act.put, List.setIfInBounds_toArray, List.set_cons_zero, List.set_cons_succ, i64_w, i32_w]
    rfl
  refine pure_ (i := 4) (N := some 16) (v := ?_) (a' := ?_) #[false, false, false, true, true, false, false, false, false, false, false, false] rfl rfl (by kernel_rfl) (fun _ _ _ h => h) (Or.inl ⟨by rfl, ?_⟩) ?_ ?_
  rotate_left
  · intro w'
    go_simp
    with_reducible rfl
  rotate_left
  · simp only [Act.put, List.setIfInBounds_toArray, List.set_cons_zero, List.set_cons_succ, i64_w, i32_w]
    rfl
  refine pure_ (i := 5) (N := some 17) (v := ?_) (a' := ?_) #[false, false, false, true, true, true, false, false, false, false, false, false] rfl rfl (by kernel_rfl) (fun _ _ _ h => h) (Or.inl ⟨by rfl, ?_⟩) ?_ ?_
  rotate_left
  · intro w'
    go_simp
    with_reducible rfl
  rotate_left
  · simp only [Act.put, List.setIfInBounds_toArray, List.set_cons_zero, List.set_cons_succ, i64_w, i32_w]
    rfl
  refine makers2_ (M := [0, 1, 2, 6, 7, 8]) (fuel := 3) (fun i => if i = 0 then 12 else if i = 1 then 13 else if i = 2 then 14 else if i = 6 then 18 else if i = 7 then 19 else 20) (fun U => #[!U.contains 0, !U.contains 1, !U.contains 2, true, true, true, !U.contains 6, !U.contains 7, !U.contains 8, false, false, false]) (fun i v => if i = 0 then flat (Kd.int .i64) 2 v (List.replicate 64 (0 : Int)) else if i = 1 then flat (Kd.int .i64) 2 v (List.replicate 64 (0 : Int)) else if i = 2 then flat Kd.bool 4 v (List.replicate 16 false) else if i = 6 then flat (Kd.int .i64) 2 v l else if i = 7 then flat (Kd.int .i64) 2 v [] else flat (Kd.int .i64) 2 v []) (by rfl) (by rfl) (by rfl) (by kernel_rfl) (fun _ _ _ _ => trivial) ?_ HD ?_
  · intro i hi
    simp only [List.mem_cons, List.not_mem_nil, or_false] at hi
    rcases hi with rfl | rfl | rfl | rfl | rfl | rfl
    · exact Makes.slice (Kd.int .i64) 2 23 64 (.int .i64 0) 8 (0 : Int) rfl (fun xs v => fillA_put (i := 0) (by decide) (by decide) xs v _) (fun _ => rfl) rfl rfl Tryz.underlying23 (by first | exact svInfo | rfl | kernel_rfl) rfl Nat.one_pos (by decide) (fun _ _ => rfl) (by decide) (by decide) (fun _ => rfl)
    · exact Makes.slice (Kd.int .i64) 2 23 64 (.int .i64 0) 8 (0 : Int) rfl (fun xs v => fillA_put (i := 1) (by decide) (by decide) xs v _) (fun _ => rfl) rfl rfl Tryz.underlying23 (by first | exact svInfo | rfl | kernel_rfl) rfl Nat.one_pos (by decide) (fun _ _ => rfl) (by decide) (by decide) (fun _ => rfl)
    · exact Makes.slice Kd.bool 4 49 16 (.bool false) 1 false rfl (fun xs v => fillA_put (i := 2) (by decide) (by decide) xs v _) (fun _ => rfl) rfl rfl Tryz.underlying49 (by first | exact svInfo | rfl | kernel_rfl) rfl Nat.one_pos (by decide) (fun _ _ => rfl) (by decide) (by decide) (fun _ => rfl)
    · exact Makes.call (Kd.int .i64) 2 #[.pointer (some ⟨g0, 0, none⟩)] l rfl (fun xs v => fillA_put (i := 6) (by decide) (by decide) xs v _) (fun _ => rfl) Tryz.func42 (by kernel_rfl) rfl rfl (fun xs => by rw [List.map_toArray, List.map_cons, List.map_nil, fillA_eval _ _ _ _ _ (by decide)]; rfl) (fun _ => rfl) (fun W L hW _ => (spec_l03Empty.gen HE.out.num g0 A0 c0 l0 A1 c1 l1 l W pcs pty 0 HP0.out HP1.out HTY.out (blk_below HB0.out hW.below) (Kd.C_below HR0.out hW.below) HC0.out (Kd.C_below HR1.out hW.below) HC1.out HE.out.is).mono (by rintro e w' ⟨v, rfl, hr, hb⟩; exact ⟨v, rfl, hr, hb⟩))
    · exact Makes.nil (Kd.int .i64) 2 rfl (fun xs v => fillA_put (i := 7) (by decide) (by decide) xs v _) (fun _ => rfl) (fun xs W => by go_simp) (fun _ => rfl)
    · exact Makes.nil (Kd.int .i64) 2 rfl (fun xs v => fillA_put (i := 8) (by decide) (by decide) xs v _) (fun _ => rfl) (fun xs W => by go_simp) (fun _ => rfl)
  intro xs lo hi W' HD
  change Hold w W' [(flat (Kd.int .i64) 2 (xs 0) (List.replicate 64 (0 : Int)), lo 0, hi 0), (flat (Kd.int .i64) 2 (xs 1) (List.replicate 64 (0 : Int)), lo 1, hi 1), (flat Kd.bool 4 (xs 2) (List.replicate 16 false), lo 2, hi 2), (flat (Kd.int .i64) 2 (xs 6) l, lo 6, hi 6), (flat (Kd.int .i64) 2 (xs 7) [], lo 7, hi 7), (flat (Kd.int .i64) 2 (xs 8) [], lo 8, hi 8)] at HD
  generalize lo 0 = lo0 at HD
  generalize hi 0 = hi0 at HD
  generalize lo 1 = lo1 at HD
  generalize hi 1 = hi1 at HD
  generalize lo 2 = lo2 at HD
  generalize hi 2 = hi2 at HD
  generalize lo 6 = lo6 at HD
  generalize hi 6 = hi6 at HD
  generalize lo 7 = lo7 at HD
  generalize hi 7 = hi7 at HD
  generalize lo 8 = lo8 at HD
  generalize hi 8 = hi8 at HD
  show wpAnyLast _ _ _ _ _ _ 3 #[true, true, true, true, true, true, true, true, true, false, false, false] _ _
  refine norm_ (a' := ?_) ?_ ?_
  rotate_left
  · dsimp only [fillA, Act.put]
    simp only [List.setIfInBounds_toArray, List.set_cons_zero, List.set_cons_succ, ↓reduceIte, Nat.reduceEqDiff]
    rfl
  generalize xs 0 = x0 at HD ⊢
  generalize xs 1 = x1 at HD ⊢
  generalize xs 2 = x2 at HD ⊢
  generalize xs 6 = x6 at HD ⊢
  generalize xs 7 = x7 at HD ⊢
  generalize xs 8 = x8 at HD ⊢
  obtain ⟨bw, cw, rfl, _, _⟩ := HD.row_form List.mem_cons_self (by rw [List.length_replicate]; decide)
  obtain ⟨bc, cc, rfl, _, _⟩ := HD.row_form (List.mem_cons_of_mem _ List.mem_cons_self) (by rw [List.length_replicate]; decide)
  obtain ⟨bd, cd, rfl, _, _⟩ := HD.row_form (List.mem_cons_of_mem _ (List.mem_cons_of_mem _ List.mem_cons_self)) (by rw [List.length_replicate]; decide)
  obtain ⟨AK, kc, rfl, _, _⟩ := HD.reads (List.mem_cons_of_mem _ (List.mem_cons_of_mem _ (List.mem_cons_of_mem _ List.mem_cons_self)))
  obtain ⟨AV, vc, rfl, _, _⟩ := HD.reads (List.mem_cons_of_mem _ (List.mem_cons_of_mem _ (List.mem_cons_of_mem _ (List.mem_cons_of_mem _ List.mem_cons_self))))
  obtain ⟨AF, fc, rfl, _, _⟩ := HD.reads (List.mem_cons_of_mem _ (List.mem_cons_of_mem _ (List.mem_cons_of_mem _ (List.mem_cons_of_mem _ (List.mem_cons_of_mem _ List.mem_cons_self)))))
  simp only [List.length_replicate, List.length_nil] at HD ⊢
  refine pure_ (i := 9) (N := some 21) (v := ?_) (a' := ?_) #[true, true, true, true, true, true, true, true, true, true, false, false] rfl rfl (by kernel_rfl) (fun _ _ _ h => h) (Or.inl ⟨by rfl, ?_⟩) ?_ ?_
  rotate_left
  · intro w'
    go_simp
    with_reducible rfl
  rotate_left
  · simp only [Act.put, List.setIfInBounds_toArray, List.set_cons_zero, List.set_cons_succ, i64_w, i32_w]
    rfl
  refine one_ (i := 10) (N := some 22) #[true, true, true, true, true, true, true, true, true, true, true, false] rfl rfl (by kernel_rfl) (by decide) (fun K hK => ?_)
  refine value_ (w1 := ?_) (v := ?_) (by rfl) rfl ?_ ?_
  rotate_left 2
  · go_simp
    constructor
    · rfl
    · rfl
  replace HD := HD.box #[.slice (some ⟨bw, 0, none⟩) 64 cw, .slice (some ⟨bc, 0, none⟩) 64 cc, .slice (some ⟨bd, 0, none⟩) 16 cd, .slice AK l.length kc, .slice AV 0 vc, .slice AF 0 fc, .int .i64 0, .int .i64 0, .int .i64 0, .int .i64 0, .int .i64 0] 53
  refine hK.out _ _ trivial (fun _ => ?_)
  clear hK K
  refine norm_ (a' := ?_) ?_ ?_
  rotate_left
  · simp only [Act.put, List.setIfInBounds_toArray, List.set_cons_zero, List.set_cons_succ, i64_w, i32_w]
    rfl
  refine pure_ (i := 11) (N := some 5) (v := ?_) (a' := ?_) #[true, true, true, true, true, true, true, true, true, true, true, true] rfl rfl (by kernel_rfl) (fun _ _ _ h => h) (Or.inl ⟨by rfl, ?_⟩) ?_ ?_
  rotate_left
  · intro w'
    go_simp
    with_reducible rfl
  rotate_left
  · simp only [Act.put, List.setIfInBounds_toArray, List.set_cons_zero, List.set_cons_succ, i64_w, i32_w]
    rfl
  refine done_ (by kernel_rfl) ?_
  replace HS := HD
  clear HD
  generalize W'.alloc (.cells #[.slice (some ⟨bw, 0, none⟩) 64 cw, .slice (some ⟨bc, 0, none⟩) 64 cc, .slice (some ⟨bd, 0, none⟩) 16 cd, .slice AK l.length kc, .slice AV 0 vc, .slice AF 0 fc, .int .i64 0, .int .i64 0, .int .i64 0, .int .i64 0, .int .i64 0] 53) = w2 at HS ⊢
  generalize W'.heap.size = g at HS ⊢
  obtain ⟨bk, kd, e_, _, _⟩ := HS.row_form (List.mem_cons_of_mem _ (List.mem_cons_of_mem _ (List.mem_cons_of_mem _ (List.mem_cons_of_mem _ List.mem_cons_self)))) (by have := HLN.out; omega)
  injection e_ with e1 _ e3
  subst e1 e3
  rw [HLN.out.1] at HS ⊢
  have H0 : Aside0 (SpecAt w w2 g bw cw lo0 hi0 bc cc lo1 hi1 bd cd lo2 hi2 AF fc lo8 hi8 m (startC m)) := ⟨⟨_, _, _, _, _, _, _, _, by rw [HLR.out] at HS; exact HS⟩⟩
  clear HS
  go_wp2_with fail
  go_loopg [6] t.length (fun gg s6 wr => ∃ (kk : Nat) (s : CacheV), kk ≤ t.length ∧ t.length - kk ≤ gg ∧ s6 = .int .i64 kk ∧ Aside0 (runC l0 l1 back al kk ((t.drop kk).map pairA) s = fin) ∧ Aside0 (s.Ok m) ∧ Aside0 (s.Bnd kk) ∧ Aside0 (SpecAt w wr g bw cw lo0 hi0 bc cc lo1 hi1 bd cd lo2 hi2 AF fc lo8 hi8 m s))
  case atStart => exact ⟨0, startC m, Nat.zero_le _, by omega, rfl, ⟨by simpa using HF.out⟩, ⟨start_ok m⟩, ⟨start_bnd m⟩, H0⟩
  case round =>
    clear H0 HLR HF
    obtain ⟨kk, s, hkk, hg, rfl, HRUN, HOKS, HBND, HSS⟩ := hrel
    by_cases hlt : kk < t.length
    · have hltz : (kk : Int) < (t.length : Int) := by omega
      have HS := HSS.out
      clear HSS
      obtain ⟨bk2, kc2, lk2, hk2, V, vc, lv, hv, HS⟩ := HS
      obtain ⟨ad, e, hx0, hx1⟩ := at_T58 (Kd.C_below HT.out HS.below) (kk : Int) (by omega) hltz
      subst e
      obtain ⟨x, hx⟩ : ∃ x, x = rd_T58 t (kk : Int) := ⟨_, rfl⟩
      simp only [Int.toNat_natCast] at hx0 hx1
      rw [← hx] at hx0 hx1
      obtain ⟨a, ha, hal, hk01⟩ : ∃ a : Nat, x.f1 = (a : Int) ∧ a < 64 ∧ (x.f0 = 0 ∨ x.f0 = 1) := HV.out x (by rw [hx]; exact getD_mem' t kk _ hlt)
      rw [ha] at hx1
      have HX := Aside0.mk hx
      have HA := Aside0.mk ha
      clear hx
      obtain ⟨n, hn⟩ : ∃ n, n = a / 4 := ⟨_, rfl⟩
      have HN := Aside0.mk hn
      have hn0 : (0 : Int) ≤ n := Int.natCast_nonneg n
      have hn1 : (n : Int) < 16 := by omega
      have ha0 : (0 : Int) ≤ a := Int.natCast_nonneg a
      have hal0 : (a : Int) < 64 := by omega
      have hdv : (a : Int) / 4 = (n : Int) := by omega
      clear hn
      obtain ⟨e0, he0⟩ : ∃ e0, (x.f0 == 1) = e0 := ⟨_, rfl⟩
      have HE0 := Aside0.mk he0
      obtain ⟨bb, hbb⟩ : ∃ bb, (s.cont.any fun y => decide (y = (n : Int))) = bb := ⟨_, rfl⟩
      have HBB := Aside0.mk hbb
      clear hbb ha hk01
      have HCL := Aside0.mk (HS.reads' (List.mem_cons_of_mem _ (List.mem_cons_of_mem _ (List.mem_cons_of_mem _ (List.mem_cons_of_mem _ List.mem_cons_self))))).1
      have EV := Aside0.mk (specHas_ev s.cont (n : Int) (by have := HCL.out; have := HLN.out; omega))
      rw [HBB.out] at EV
      have q3 : wr.cell? ⟨g, 3, none⟩ = some (.slice (some ⟨bk2, 0, none⟩) m kc2) := HS.cell List.mem_cons_self 3 _ rfl
      have fzq : ∀ j, wr.frozen? ⟨g, j, none⟩ = false := HS.thaw List.mem_cons_self
      go_wp2_with fail
      clear q3 fzq
      refine (show Calls _ _ #[.slice (some ⟨bk2, 0, none⟩) m kc2, .int .i64 n] _ _ from HCL.out ▸ spec_l00Has.calls (Ev.num EV.out) _ kc2 s.cont n bb _ (HS.reads' (List.mem_cons_of_mem _ (List.mem_cons_of_mem _ (List.mem_cons_of_mem _ (List.mem_cons_of_mem _ List.mem_cons_self))))).2.2 (HS.reads' (List.mem_cons_of_mem _ (List.mem_cons_of_mem _ (List.mem_cons_of_mem _ (List.mem_cons_of_mem _ List.mem_cons_self))))).2.1 (Ev.is EV.out)).mono ?_
      rintro e w3 ⟨rfl, hb⟩
      clear EV
      replace HS := HS.step (by first | exact hb | exact hb.below)
      clear hb
      have b1 := HBND.out.h.1
      have b2 : s.h ≤ 1000000 := by have := HBND.out.h.2; have := HT60.out; omega
      have b3 := HBND.out.m.1
      have b4 : s.m ≤ 1000000 := by have := HBND.out.m.2; have := HT60.out; omega
      have b5 : 0 ≤ s.i ∧ s.i ≤ 1048576 := by have := HBND.out.i; have := HT60.out; omega
      have b6 : 0 ≤ s.o ∧ s.o ≤ 1048576 := by have := HBND.out.o; have := HT60.out; omega
      have B5 := Aside0.mk b5
      have B6 := Aside0.mk b6
      clear b5 b6
      have HM0 := Aside0.mk HLN.out.2
      have HSL := Aside0.mk (HLEN.out s.cont (n : Int) HOKS.out.cont)
      have HOK1 := Aside0.mk (HOK.out s.cont (n : Int) HOKS.out.cont)
      have HK64 := Aside0.mk HOKS.out.ws
      have HGL : Aside0 (s.cont.getD (s.cont.length - 1) 0 < 16) := ⟨(HOKS.out.lines _ (getD_mem' s.cont _ 0 (by have := HOKS.out.cont; have := HM0.out; omega))).2⟩
      go_upto_if 47 with fail
      go_cut [] (fun wc => Aside0 (SpecAt w wc g bw cw lo0 hi0 bc cc lo1 hi1 bd cd lo2 hi2 AF fc lo8 hi8 m  (enterC l0 l1 n s)) ∧ Aside0 (bb = true ∨ e0 = false ∨ al = true))
      case first =>
        cases bb
        · cases e0
          · have q7 : w3.cell? ⟨g, 7, none⟩ = some (.int .i64 s.m) := HS.cell List.mem_cons_self 7 _ rfl
            have fzq : ∀ j, w3.frozen? ⟨g, j, none⟩ = false := HS.thaw List.mem_cons_self
            go_upto_region 12 with fail
            clear q7 fzq
            replace HS := HS.setBox 7 (.int .i64 (s.m + 1)) .here
            simp only [List.setIfInBounds_toArray, List.set_cons_zero, List.set_cons_succ] at HS
            generalize w3.setCell ⟨g, 7, none⟩ (.int .i64 (s.m + 1)) = w4 at HS ⊢
            have r3 : w4.cell? ⟨g0, 3, none⟩ = some (.bool al) := (blk_cell (blk_below HB0.out HS.below) 3).trans HAL.out
            have fr3 : w4.frozen? ⟨g0, 3, none⟩ = false := blk_frozen (blk_below HB0.out HS.below) 3
            go_wp2_with fail
            clear r3 fr3
            refine (fill_calls g0 A0 c0 l0 A1 c1 l1 pcs pty 0 HP0.out HP1.out HB0.out HR0.out HC0.out HR1.out HC1.out (Int.ofNat_lt.1 hn1) HM0.out.1 HM0.out.2 (gone := (s.cont.getD (s.cont.length - 1) 0)) (by rw [show m - 1 = s.cont.length - 1 from congrArg (· - 1) HCL.out]) HGL.out (o := (outV s.ws s.cs s.ds (s.cont.getD (s.cont.length - 1) 0)).1) (ws' := (outV s.ws s.cs s.ds (s.cont.getD (s.cont.length - 1) 0)).2.1) (ds' := (outV s.ws s.cs s.ds (s.cont.getD (s.cont.length - 1) 0)).2.2) rfl HOK1.out (HSL.out) (outV_length s.ws s.cs s.ds (s.cont.getD (s.cont.length - 1) 0)).2.2 B5.out B6.out HS).mono ?_
            clear HS
            rintro e w5 ⟨rfl, bk3, kc3, lk3, hk3, HS⟩
            go_wp2_with fail
            go_meet
            exact ⟨⟨by rw [enter_miss HBB.out]; exact ⟨bk3, kc3, _, _, V, vc, lv, hv, HS⟩⟩, ⟨by simp⟩⟩
          · cases al
            · have q7 : w3.cell? ⟨g, 7, none⟩ = some (.int .i64 s.m) := HS.cell List.mem_cons_self 7 _ rfl
              have fzq : ∀ j, w3.frozen? ⟨g, j, none⟩ = false := HS.thaw List.mem_cons_self
              go_upto_region 12 with fail
              clear q7 fzq
              replace HS := HS.setBox 7 (.int .i64 (s.m + 1)) .here
              simp only [List.setIfInBounds_toArray, List.set_cons_zero, List.set_cons_succ] at HS
              generalize w3.setCell ⟨g, 7, none⟩ (.int .i64 (s.m + 1)) = w4 at HS ⊢
              have r3 : w4.cell? ⟨g0, 3, none⟩ = some (.bool false) := (blk_cell (blk_below HB0.out HS.below) 3).trans HAL.out
              have fr3 : w4.frozen? ⟨g0, 3, none⟩ = false := blk_frozen (blk_below HB0.out HS.below) 3
              have q0 : w4.cell? ⟨g, 0, none⟩ = some (.slice (some ⟨bw, 0, none⟩) 64 cw) := HS.cell List.mem_cons_self 0 _ rfl
              have fzq : ∀ j, w4.frozen? ⟨g, j, none⟩ = false := HS.thaw List.mem_cons_self
              have qa := HS.cellI (List.mem_cons_of_mem _ List.mem_cons_self) (a : Int) ha0 (by rw [HK64.out]; exact hal0)
              rw [Int.toNat_natCast] at qa
              have qa1 := qa.1
              have qa2 := qa.2
              clear qa
              have bk60 : (kk : Int) < 60 := by have := HT60.out; omega
              go_upto_region 14 with fail
              clear r3 fr3 qa1 qa2 q0 fzq
              have H5 := HS.setI (a : Int) ((kk : Int) + 1) (.there .here)
              rw [Int.toNat_natCast] at H5
              generalize w4.setCell ⟨bw, a, none⟩ (.int .i64 ((kk : Int) + 1)) = w6 at H5 ⊢
              have HS := H5
              clear H5
              have b5 := B6.out.1
              have b6 := B6.out.2
              have q9 : w6.cell? ⟨g, 9, none⟩ = some (.int .i64 s.o) := HS.cell List.mem_cons_self 9 _ rfl
              have fzq : ∀ j, w6.frozen? ⟨g, j, none⟩ = false := HS.thaw List.mem_cons_self
              go_wp2_with fail
              clear q9 fzq
              replace HS := HS.setBox 9 (.int .i64 (s.o + 1)) .here
              simp only [List.setIfInBounds_toArray, List.set_cons_zero, List.set_cons_succ] at HS
              generalize w6.setCell ⟨g, 9, none⟩ (.int .i64 (s.o + 1)) = w7 at HS ⊢
              have HAC : Aside0 ((accessC l0 l1 back false kk x.f0 a s) = { s with m := s.m + 1, ws := s.ws.set a ((kk : Int) + 1), o := s.o + 1 }) := ⟨acc_around HN.out HBB.out HE0.out rfl⟩
              have HR2 : Aside0 (runC l0 l1 back false (kk + 1) ((t.drop (kk + 1)).map pairA) (accessC l0 l1 back false kk x.f0 a s) = fin) := ⟨(runC_drop l0 l1 back false hlt HX.out HA.out s).symm.trans HRUN.out⟩
              have HO2 : Aside0 ((accessC l0 l1 back false kk x.f0 a s).Ok m) := ⟨accessC_ok HOK.out HLEN.out HOKS.out back false kk x.f0 hal⟩
              have HB2 : Aside0 ((accessC l0 l1 back false kk x.f0 a s).Bnd (kk + 1)) := ⟨access_bnd l0 l1 back false kk x.f0 a HBND.out⟩
              have HS2_ : Aside0 (SpecAt w w7 g bw cw lo0 hi0 bc cc lo1 hi1 bd cd lo2 hi2 AF fc lo8 hi8 m  (accessC l0 l1 back false kk x.f0 a s)) := ⟨by rw [HAC.out]; exact ⟨bk2, kc2, lk2, hk2, V, vc, lv, hv, HS⟩⟩
              clear HS HAC
              go_roundg (t.length - (kk + 1))
              case measure => omega
              case rel => exact ⟨kk + 1, (accessC l0 l1 back false kk x.f0 a s), hlt, Nat.le_refl _, rfl, HR2, HO2, HB2, HS2_⟩
            · have q7 : w3.cell? ⟨g, 7, none⟩ = some (.int .i64 s.m) := HS.cell List.mem_cons_self 7 _ rfl
              have fzq : ∀ j, w3.frozen? ⟨g, j, none⟩ = false := HS.thaw List.mem_cons_self
              go_upto_region 12 with fail
              clear q7 fzq
              replace HS := HS.setBox 7 (.int .i64 (s.m + 1)) .here
              simp only [List.setIfInBounds_toArray, List.set_cons_zero, List.set_cons_succ] at HS
              generalize w3.setCell ⟨g, 7, none⟩ (.int .i64 (s.m + 1)) = w4 at HS ⊢
              have r3 : w4.cell? ⟨g0, 3, none⟩ = some (.bool true) := (blk_cell (blk_below HB0.out HS.below) 3).trans HAL.out
              have fr3 : w4.frozen? ⟨g0, 3, none⟩ = false := blk_frozen (blk_below HB0.out HS.below) 3
              go_wp2_with fail
              clear r3 fr3
              refine (fill_calls g0 A0 c0 l0 A1 c1 l1 pcs pty 0 HP0.out HP1.out HB0.out HR0.out HC0.out HR1.out HC1.out (Int.ofNat_lt.1 hn1) HM0.out.1 HM0.out.2 (gone := (s.cont.getD (s.cont.length - 1) 0)) (by rw [show m - 1 = s.cont.length - 1 from congrArg (· - 1) HCL.out]) HGL.out (o := (outV s.ws s.cs s.ds (s.cont.getD (s.cont.length - 1) 0)).1) (ws' := (outV s.ws s.cs s.ds (s.cont.getD (s.cont.length - 1) 0)).2.1) (ds' := (outV s.ws s.cs s.ds (s.cont.getD (s.cont.length - 1) 0)).2.2) rfl HOK1.out (HSL.out) (outV_length s.ws s.cs s.ds (s.cont.getD (s.cont.length - 1) 0)).2.2 B5.out B6.out HS).mono ?_
              clear HS
              rintro e w5 ⟨rfl, bk3, kc3, lk3, hk3, HS⟩
              go_wp2_with fail
              go_meet
              exact ⟨⟨by rw [enter_miss HBB.out]; exact ⟨bk3, kc3, _, _, V, vc, lv, hv, HS⟩⟩, ⟨by simp⟩⟩
        · have q6 : w3.cell? ⟨g, 6, none⟩ = some (.int .i64 s.h) := HS.cell List.mem_cons_self 6 _ rfl
          have fzq : ∀ j, w3.frozen? ⟨g, j, none⟩ = false := HS.thaw List.mem_cons_self
          go_wp2_with fail
          clear q6 fzq
          replace HS := HS.setBox 6 (.int .i64 (s.h + 1)) .here
          simp only [List.setIfInBounds_toArray, List.set_cons_zero, List.set_cons_succ] at HS
          generalize w3.setCell ⟨g, 6, none⟩ (.int .i64 (s.h + 1)) = w4 at HS ⊢
          have HD := Hold.drew HS
          refine start_ (n := 16) (S := fun w' => w'.cell? ⟨g, 3, none⟩ = some (.slice (some ⟨bk2, 0, none⟩) m kc2)) (ds := [15]) #[false, false, false, false, false, false, false, false, false, false, false, false, false, false, false, false] (by kernel_rfl) rfl rfl ((HD.cell List.mem_cons_self 3 _ rfl)) (fun hHeld => ?_)
          generalize w4.drew = wd at HD hHeld ⊢
          refine pure_ (i := 0) (N := some 58) (v := ?_) (a' := ?_) #[true, false, false, false, false, false, false, false, false, false, false, false, false, false, false, false] rfl rfl (by kernel_rfl) (fun _ _ _ h => h) (Or.inl ⟨by rfl, ?_⟩) ?_ ?_
          rotate_left
          · intro w'
            go_simp
            with_reducible rfl
          rotate_left
          · simp only [Act.put, List.setIfInBounds_toArray, List.set_cons_zero, List.set_cons_succ, i64_w, i32_w]
            rfl
          refine pure_ (i := 1) (N := some 59) (v := ?_) (a' := ?_) #[true, true, false, false, false, false, false, false, false, false, false, false, false, false, false, false] rfl rfl (by kernel_rfl) (fun _ _ _ h => h) (Or.inl ⟨by rfl, ?_⟩) ?_ ?_
          rotate_left
          · intro w'
            go_simp
            with_reducible rfl
          rotate_left
          · simp only [Act.put, List.setIfInBounds_toArray, List.set_cons_zero, List.set_cons_succ, i64_w, i32_w]
            rfl
          refine pure_ (i := 2) (N := some 60) (v := ?_) (a' := ?_) #[true, true, true, false, false, false, false, false, false, false, false, false, false, false, false, false] rfl rfl (by kernel_rfl) (fun _ _ _ h => h) (Or.inl ⟨by rfl, ?_⟩) ?_ ?_
          rotate_left
          · intro w'
            go_simp
            with_reducible rfl
          rotate_left
          · simp only [Act.put, List.setIfInBounds_toArray, List.set_cons_zero, List.set_cons_succ, i64_w, i32_w]
            rfl
          refine pure_ (i := 3) (N := some 61) (v := ?_) (a' := ?_) #[true, true, true, true, false, false, false, false, false, false, false, false, false, false, false, false] rfl rfl (by kernel_rfl) (fun _ _ _ h => h) (Or.inl ⟨by rfl, ?_⟩) ?_ ?_
          rotate_left
          · intro w'
            go_simp
            with_reducible rfl
          rotate_left
          · simp only [Act.put, List.setIfInBounds_toArray, List.set_cons_zero, List.set_cons_succ, i64_w, i32_w]
            rfl
          refine pure_ (i := 4) (N := some 62) (v := ?_) (a' := ?_) #[true, true, true, true, true, false, false, false, false, false, false, false, false, false, false, false] rfl rfl (by kernel_rfl) (fun _ _ _ h => h) (Or.inl ⟨by rfl, ?_⟩) ?_ ?_
          rotate_left
          · intro w'
            go_simp
            with_reducible rfl
          rotate_left
          · simp only [Act.put, List.setIfInBounds_toArray, List.set_cons_zero, List.set_cons_succ, i64_w, i32_w]
            rfl
          refine pure_ (i := 5) (N := some 63) (v := ?_) (a' := ?_) #[true, true, true, true, true, true, false, false, false, false, false, false, false, false, false, false] rfl rfl (by kernel_rfl) (fun _ _ _ h => h) (Or.inl ⟨by rfl, ?_⟩) ?_ ?_
          rotate_left
          · intro w'
            go_simp
            with_reducible rfl
          rotate_left
          · simp only [Act.put, List.setIfInBounds_toArray, List.set_cons_zero, List.set_cons_succ, i64_w, i32_w]
            rfl
          refine pure_ (i := 6) (N := some 64) (v := ?_) (a' := ?_) #[true, true, true, true, true, true, true, false, false, false, false, false, false, false, false, false] rfl rfl (by kernel_rfl) (fun _ _ _ h => h) (Or.inl ⟨by rfl, ?_⟩) ?_ ?_
          rotate_left
          · intro w'
            go_simp
            with_reducible rfl
          rotate_left
          · simp only [Act.put, List.setIfInBounds_toArray, List.set_cons_zero, List.set_cons_succ, i64_w, i32_w]
            rfl
          refine pure_ (i := 8) (N := some 66) (v := ?_) (a' := ?_) #[true, true, true, true, true, true, true, false, true, false, false, false, false, false, false, false] rfl rfl (by kernel_rfl) (fun _ _ _ h => h) (Or.inl ⟨by rfl, ?_⟩) ?_ ?_
          rotate_left
          · intro w'
            go_simp
            with_reducible rfl
          rotate_left
          · simp only [Act.put, List.setIfInBounds_toArray, List.set_cons_zero, List.set_cons_succ, i64_w, i32_w]
            rfl
          refine take_ (i := 7) (N := some 65) (v := ?_) (a' := ?_) #[true, true, true, true, true, true, true, true, true, false, false, false, false, false, false, false] rfl rfl (by kernel_rfl) (fun _ _ _ h => h) (Or.inl ⟨by rfl, ?_⟩) hHeld ?_ ?_
          rotate_left
          · intro w' s0
            go_simp
            with_reducible rfl
          rotate_left
          · simp only [Act.put, List.setIfInBounds_toArray, List.set_cons_zero, List.set_cons_succ, i64_w, i32_w]
            rfl
          refine one_ (i := 9) (N := some 67) #[true, true, true, true, true, true, true, true, true, true, false, false, false, false, false, false] rfl rfl (by kernel_rfl) (by decide) (fun K hK => ?_)
          refine goes_ Tryz.func44 (by kernel_rfl) rfl #[.pointer (some ⟨g0, 0, none⟩), .slice (some ⟨bk2, 0, none⟩) m kc2, .int .i64 n] (by rfl) rfl rfl (by simp only [List.map_toArray, List.map_cons, List.map_nil]; rfl) ?_
          with_reducible refine (show Calls _ _ #[.pointer (some ⟨g0, 0, none⟩), .slice (some ⟨bk2, 0, none⟩) m kc2, .int .i64 n] _ _ from HCL.out ▸ spec_l03Step.gen g0 A0 c0 l0 A1 c1 l1 (some ⟨bk2, 0, none⟩) kc2 s.cont n _ pcs pty 0 HP0.out HP1.out (blk_below HB0.out HD.below) (Kd.C_below HR0.out HD.below) HC0.out (Kd.C_below HR1.out HD.below) HC1.out (HD.reads' (List.mem_cons_of_mem _ (List.mem_cons_of_mem _ (List.mem_cons_of_mem _ (List.mem_cons_of_mem _ List.mem_cons_self))))).2.2 (HD.reads' (List.mem_cons_of_mem _ (List.mem_cons_of_mem _ (List.mem_cons_of_mem _ (List.mem_cons_of_mem _ List.mem_cons_self))))).2.1 HOK1.out).mono ?_
          rintro e w5 ⟨v_, rfl, hr, hb⟩
          refine ⟨_, rfl, ?_⟩
          replace HD := HD.made hb hr
          clear hb hr
          obtain ⟨bk3, kc3, rfl, _, _⟩ := HD.row_form List.mem_cons_self (by rw [HSL.out]; have := HM0.out; omega)
          rw [HSL.out] at HD ⊢
          have s0_ : w5.cell? ⟨g, 3, none⟩ = some (.slice (some ⟨bk2, 0, none⟩) m kc2) := HD.cell (List.mem_cons_of_mem _ List.mem_cons_self) 3 _ rfl
          have fz_ : ∀ j, w5.frozen? ⟨g, j, none⟩ = false := HD.thaw (List.mem_cons_of_mem _ List.mem_cons_self)
          refine hK.out _ _ (s0_) (fun hHeld => ?_)
          clear hK K
          refine norm_ (a' := ?_) ?_ ?_
          rotate_left
          · show Act.put _ (some 67) _ = _
            simp only [Act.put, List.setIfInBounds_toArray, List.set_cons_zero, List.set_cons_succ, i64_w, i32_w]
            rfl
          refine pure_ (i := 10) (N := some 57) (v := ?_) (a' := ?_) #[true, true, true, true, true, true, true, true, true, true, true, false, false, false, false, false] rfl rfl (by kernel_rfl) (fun _ _ _ h => h) (Or.inl ⟨by rfl, ?_⟩) ?_ ?_
          rotate_left
          · intro w'
            go_simp
            with_reducible rfl
          rotate_left
          · simp only [Act.put, List.setIfInBounds_toArray, List.set_cons_zero, List.set_cons_succ, i64_w, i32_w]
            rfl
          refine pure_ (i := 11) (N := some 68) (v := ?_) (a' := ?_) #[true, true, true, true, true, true, true, true, true, true, true, true, false, false, false, false] rfl rfl (by kernel_rfl) (fun _ _ _ h => h) (Or.inl ⟨by rfl, ?_⟩) ?_ ?_
          rotate_left
          · intro w'
            go_simp
            with_reducible rfl
          rotate_left
          · simp only [Act.put, List.setIfInBounds_toArray, List.set_cons_zero, List.set_cons_succ, i64_w, i32_w]
            rfl
          refine pure_ (i := 12) (N := some 69) (v := ?_) (a' := ?_) #[true, true, true, true, true, true, true, true, true, true, true, true, true, false, false, false] rfl rfl (by kernel_rfl) (fun _ _ _ h => h) (Or.inl ⟨by rfl, ?_⟩) ?_ ?_
          rotate_left
          · intro w'
            go_simp
            with_reducible rfl
          rotate_left
          · simp only [Act.put, List.setIfInBounds_toArray, List.set_cons_zero, List.set_cons_succ, i64_w, i32_w]
            rfl
          refine pure_ (i := 13) (N := some 70) (v := ?_) (a' := ?_) #[true, true, true, true, true, true, true, true, true, true, true, true, true, true, false, false] rfl rfl (by kernel_rfl) (fun _ _ _ h => h) (Or.inl ⟨by rfl, ?_⟩) ?_ ?_
          rotate_left
          · intro w'
            go_simp
            with_reducible rfl
          rotate_left
          · simp only [Act.put, List.setIfInBounds_toArray, List.set_cons_zero, List.set_cons_succ, i64_w, i32_w]
            rfl
          refine pure_ (i := 14) (N := some 71) (v := ?_) (a' := ?_) #[true, true, true, true, true, true, true, true, true, true, true, true, true, true, true, false] rfl rfl (by kernel_rfl) (fun _ _ _ h => h) (Or.inl ⟨by rfl, ?_⟩) ?_ ?_
          rotate_left
          · intro w'
            go_simp
            with_reducible rfl
          rotate_left
          · simp only [Act.put, List.setIfInBounds_toArray, List.set_cons_zero, List.set_cons_succ, i64_w, i32_w]
            rfl
          refine last_ (i := 15) (N := none) #[true, true, true, true, true, true, true, true, true, true, true, true, true, true, true, true] rfl rfl (by kernel_rfl) (by decide) (fun K hK => ?_)
          refine skip_ (w1 := ?_) (by rfl) rfl ?_ ?_
          rotate_left
          · go_simp
            rfl
          refine hK.out _ _ ?_
          clear hK K
          refine done_ (by kernel_rfl) ?_
          clear hHeld s0_ fz_
          replace HS := HD
          clear HD
          replace HS := HS.setBox 3 (.slice (some ⟨bk3, 0, none⟩) m kc3) (.there .here)
          simp only [List.setIfInBounds_toArray, List.set_cons_zero, List.set_cons_succ] at HS
          generalize w5.setCell ⟨g, 3, none⟩ (.slice (some ⟨bk3, 0, none⟩) m kc3) = w5b at HS ⊢
          replace HS := HS.pick (.there (.there (.there (.there (.there .here)))))
          replace HS := HS.tail
          replace HS := HS.pick (.there (.there (.there (.there (.there (.there .here))))))
          replace HS := HS.pick (.there (.there (.there (.there (.there (.there .here))))))
          replace HS := HS.pick (.there (.there .here))
          replace HS := HS.pick (.there (.there (.there (.there (.there (.there .here))))))
          replace HS := HS.pick (.there (.there (.there (.there (.there (.there .here))))))
          replace HS := HS.pick (.there (.there (.there (.there (.there (.there .here))))))
          replace HS := HS.pick (.there (.there (.there (.there (.there (.there .here))))))
          go_wp2_with fail
          go_meet
          exact ⟨⟨by rw [enter_hit HBB.out]; exact ⟨bk3, kc3, _, _, V, vc, lv, hv, HS⟩⟩, ⟨by simp⟩⟩
      case rest =>
        skip
        obtain ⟨HSS2, HDJ⟩ := hcut
        obtain ⟨s2, hs2⟩ : ∃ s2, s2 = enterC l0 l1 n s := ⟨_, rfl⟩
        have HS2 := Aside0.mk hs2
        rw [← hs2] at HSS2
        clear hs2
        have HOK2 : Aside0 (s2.Ok m) := ⟨by rw [HS2.out]; exact enterC_ok HOK.out HLEN.out HOKS.out (Int.ofNat_lt.1 hn1)⟩
        clear b1 b2 b3 b4 HS
        have b5 : 0 ≤ s2.o := by have := enterC_few l0 l1 n s; rw [← HS2.out] at this; have := this.o; have := B6.out; omega
        have b6 : s2.o ≤ 1048580 := by have := enterC_few l0 l1 n s; rw [← HS2.out] at this; have := this.o; have := B6.out; omega
        have HRL : Aside0 (s2.rd.length ≤ 60) := ⟨by rw [HS2.out, enterC_rd]; have := HBND.out.rd; have := HT60.out; omega⟩
        obtain ⟨bk4, kc4, lk4, hk4, V4, vc4, lv4, hv4, HS⟩ := HSS2.out
        clear HSS2
        obtain ⟨wb, rfl⟩ : ∃ x, x = wc := ⟨_, rfl⟩
        have bk60 : (kk : Int) < 60 := by have := HT60.out; omega
        cases e0
        · clear b5 b6
          go_wp2_with fail
          have HD := Hold.drew HS
          refine start_ (n := 17) (S := fun w' => w'.cell? ⟨g, 4, none⟩ = some (.slice V4 s2.rd.length vc4) ∧ w'.cell? ⟨g, 1, none⟩ = some (.slice (some ⟨bc, 0, none⟩) 64 cc) ∧ w'.cell? ⟨bc, a, none⟩ = some (.int .i64 (s2.cs.getD a 0))) (ds := [16]) #[false, false, false, false, false, false, false, false, false, false, false, false, false, false, false, false, false] (by kernel_rfl) rfl rfl ⟨(HD.cell List.mem_cons_self 4 _ rfl), (HD.cell List.mem_cons_self 1 _ rfl), (by have := (HD.cellI (List.mem_cons_of_mem _ (List.mem_cons_of_mem _ List.mem_cons_self)) (a : Int) ha0 (by rw [HOK2.out.cs]; exact hal0)).1; rwa [Int.toNat_natCast] at this)⟩ (fun hHeld => ?_)
          generalize wb.drew = wd at HD hHeld ⊢
          refine pure_ (i := 0) (N := some 114) (v := ?_) (a' := ?_) #[true, false, false, false, false, false, false, false, false, false, false, false, false, false, false, false, false] rfl rfl (by kernel_rfl) (fun _ _ _ h => h) (Or.inl ⟨by rfl, ?_⟩) ?_ ?_
          rotate_left
          · intro w'
            go_simp
            with_reducible rfl
          rotate_left
          · simp only [Act.put, List.setIfInBounds_toArray, List.set_cons_zero, List.set_cons_succ, i64_w, i32_w]
            rfl
          refine pure_ (i := 1) (N := some 115) (v := ?_) (a' := ?_) #[true, true, false, false, false, false, false, false, false, false, false, false, false, false, false, false, false] rfl rfl (by kernel_rfl) (fun _ _ _ h => h) (Or.inl ⟨by rfl, ?_⟩) ?_ ?_
          rotate_left
          · intro w'
            go_simp
            with_reducible rfl
          rotate_left
          · simp only [Act.put, List.setIfInBounds_toArray, List.set_cons_zero, List.set_cons_succ, i64_w, i32_w]
            rfl
          refine pure_ (i := 2) (N := some 116) (v := ?_) (a' := ?_) #[true, true, true, false, false, false, false, false, false, false, false, false, false, false, false, false, false] rfl rfl (by kernel_rfl) (fun _ _ _ h => h) (Or.inl ⟨by rfl, ?_⟩) ?_ ?_
          rotate_left
          · intro w'
            go_simp
            with_reducible rfl
          rotate_left
          · simp only [Act.put, List.setIfInBounds_toArray, List.set_cons_zero, List.set_cons_succ, i64_w, i32_w]
            rfl
          refine pure_ (i := 3) (N := some 117) (v := ?_) (a' := ?_) #[true, true, true, true, false, false, false, false, false, false, false, false, false, false, false, false, false] rfl rfl (by kernel_rfl) (fun _ _ _ h => h) (Or.inl ⟨by rfl, ?_⟩) ?_ ?_
          rotate_left
          · intro w'
            go_simp
            with_reducible rfl
          rotate_left
          · simp only [Act.put, List.setIfInBounds_toArray, List.set_cons_zero, List.set_cons_succ, i64_w, i32_w]
            rfl
          refine pure_ (i := 5) (N := some 119) (v := ?_) (a' := ?_) #[true, true, true, true, false, true, false, false, false, false, false, false, false, false, false, false, false] rfl rfl (by kernel_rfl) (fun _ _ _ h => h) (Or.inl ⟨by rfl, ?_⟩) ?_ ?_
          rotate_left
          · intro w'
            go_simp
            with_reducible rfl
          rotate_left
          · simp only [Act.put, List.setIfInBounds_toArray, List.set_cons_zero, List.set_cons_succ, i64_w, i32_w]
            rfl
          refine pure_ (i := 6) (N := some 120) (v := ?_) (a' := ?_) #[true, true, true, true, false, true, true, false, false, false, false, false, false, false, false, false, false] rfl rfl (by kernel_rfl) (fun _ _ _ h => h) (Or.inl ⟨by rfl, ?_⟩) ?_ ?_
          rotate_left
          · intro w'
            go_simp
            with_reducible rfl
          rotate_left
          · simp only [Act.put, List.setIfInBounds_toArray, List.set_cons_zero, List.set_cons_succ, i64_w, i32_w]
            rfl
          refine pure_ (i := 7) (N := some 121) (v := ?_) (a' := ?_) #[true, true, true, true, false, true, true, true, false, false, false, false, false, false, false, false, false] rfl rfl (by kernel_rfl) (fun _ _ _ h => h) (Or.inl ⟨by rfl, ?_⟩) ?_ ?_
          rotate_left
          · intro w'
            go_simp
            with_reducible rfl
          rotate_left
          · simp only [Act.put, List.setIfInBounds_toArray, List.set_cons_zero, List.set_cons_succ, i64_w, i32_w]
            rfl
          refine pure_ (i := 9) (N := some 123) (v := ?_) (a' := ?_) #[true, true, true, true, false, true, true, true, false, true, false, false, false, false, false, false, false] rfl rfl (by kernel_rfl) (fun _ _ _ h => h) (Or.inl ⟨by rfl, ?_⟩) ?_ ?_
          rotate_left
          · intro w'
            go_simp
            with_reducible rfl
          rotate_left
          · simp only [Act.put, List.setIfInBounds_toArray, List.set_cons_zero, List.set_cons_succ, i64_w, i32_w]
            rfl
          refine take_ (i := 4) (N := some 118) (v := ?_) (a' := ?_) #[true, true, true, true, true, true, true, true, false, true, false, false, false, false, false, false, false] rfl rfl (by kernel_rfl) (fun _ _ _ h => h) (Or.inl ⟨by rfl, ?_⟩) hHeld ?_ ?_
          rotate_left
          · rintro w' ⟨s0, s1, s2⟩
            go_simp
            with_reducible rfl
          rotate_left
          · simp only [Act.put, List.setIfInBounds_toArray, List.set_cons_zero, List.set_cons_succ, i64_w, i32_w]
            rfl
          refine take_ (i := 8) (N := some 122) (v := ?_) (a' := ?_) #[true, true, true, true, true, true, true, true, true, true, false, false, false, false, false, false, false] rfl rfl (by kernel_rfl) (fun _ _ _ h => h) (Or.inl ⟨by rfl, ?_⟩) hHeld ?_ ?_
          rotate_left
          · rintro w' ⟨s0, s1, s2⟩
            go_simp
            with_reducible rfl
          rotate_left
          · simp only [Act.put, List.setIfInBounds_toArray, List.set_cons_zero, List.set_cons_succ, i64_w, i32_w]
            rfl
          refine pure_ (i := 10) (N := some 124) (v := ?_) (a' := ?_) #[true, true, true, true, true, true, true, true, true, true, true, false, false, false, false, false, false] rfl rfl (by kernel_rfl) (fun _ _ _ h => h) (Or.inl ⟨by rfl, ?_⟩) ?_ ?_
          rotate_left
          · intro w'
            go_simp
            with_reducible rfl
          rotate_left
          · simp only [Act.put, List.setIfInBounds_toArray, List.set_cons_zero, List.set_cons_succ, i64_w, i32_w]
            rfl
          refine take_ (i := 11) (N := some 125) (v := ?_) (a' := ?_) #[true, true, true, true, true, true, true, true, true, true, true, true, false, false, false, false, false] rfl rfl (by kernel_rfl) (fun _ _ _ h => h) (Or.inl ⟨by rfl, ?_⟩) hHeld ?_ ?_
          rotate_left
          · rintro w' ⟨s0, s1, s2⟩
            go_simp
            with_reducible rfl
          rotate_left
          · simp only [Act.put, List.setIfInBounds_toArray, List.set_cons_zero, List.set_cons_succ, i64_w, i32_w]
            rfl
          refine one_ (i := 12) (N := some 126) #[true, true, true, true, true, true, true, true, true, true, true, true, true, false, false, false, false] rfl rfl (by kernel_rfl) (by decide) (fun K hK => ?_)
          refine value_ (w1 := ?_) (v := ?_) (by rfl) rfl ?_ ?_
          rotate_left 2
          · go_simp
            constructor
            · rfl
            · rfl
          have HE_ := HD
          replace HD := HD.alloc (.cells #[.int .i64 (s2.cs.getD a 0)] 2)
          have s0_ : (wd.alloc (.cells #[.int .i64 (s2.cs.getD a 0)] 2)).cell? ⟨g, 4, none⟩ = some (.slice V4 s2.rd.length vc4) := HD.cell List.mem_cons_self 4 _ rfl
          have s1_ : (wd.alloc (.cells #[.int .i64 (s2.cs.getD a 0)] 2)).cell? ⟨g, 1, none⟩ = some (.slice (some ⟨bc, 0, none⟩) 64 cc) := HD.cell List.mem_cons_self 1 _ rfl
          have s2_ : (wd.alloc (.cells #[.int .i64 (s2.cs.getD a 0)] 2)).cell? ⟨bc, a, none⟩ = some (.int .i64 (s2.cs.getD a 0)) := (by have := (HD.cellI (List.mem_cons_of_mem _ (List.mem_cons_of_mem _ List.mem_cons_self)) (a : Int) ha0 (by rw [HOK2.out.cs]; exact hal0)).1; rwa [Int.toNat_natCast] at this)
          refine hK.out _ _ ⟨s0_, s1_, s2_⟩ (fun hHeld => ?_)
          clear hK K
          refine norm_ (a' := ?_) ?_ ?_
          rotate_left
          · show Act.put _ (some 126) _ = _
            simp only [Act.put, List.setIfInBounds_toArray, List.set_cons_zero, List.set_cons_succ, i64_w, i32_w]
            rfl
          refine one_ (i := 13) (N := some 127) #[true, true, true, true, true, true, true, true, true, true, true, true, true, true, false, false, false] rfl rfl (by kernel_rfl) (by decide) (fun K hK => ?_)
          clear s0_ s1_ s2_
          refine Hold.appendI_step HE_ (by rfl) (.tmp 118) (.tmp 126) 23 2 rfl Tryz.underlying23 svInfo (.slice V4 s2.rd.length vc4) s2.rd (s2.cs.getD a 0) rfl rfl (List.mem_cons_of_mem _ (List.mem_cons_of_mem _ (List.mem_cons_of_mem _ (List.mem_cons_of_mem _ (List.mem_cons_of_mem _ List.mem_cons_self))))) (by have := HRL.out; omega) ?_
          intro V5 vc5 lv5 hv5 w6 HQ
          replace HD := HQ _ (.there (.there (.there (.there (.there .here)))))
          clear HQ HE_
          have s0_ : w6.cell? ⟨g, 4, none⟩ = some (.slice V4 s2.rd.length vc4) := HD.cell List.mem_cons_self 4 _ rfl
          have s1_ : w6.cell? ⟨g, 1, none⟩ = some (.slice (some ⟨bc, 0, none⟩) 64 cc) := HD.cell List.mem_cons_self 1 _ rfl
          have s2_ : w6.cell? ⟨bc, a, none⟩ = some (.int .i64 (s2.cs.getD a 0)) := (by have := (HD.cellI (List.mem_cons_of_mem _ (List.mem_cons_of_mem _ List.mem_cons_self)) (a : Int) ha0 (by rw [HOK2.out.cs]; exact hal0)).1; rwa [Int.toNat_natCast] at this)
          have fz_ : ∀ j, w6.frozen? ⟨g, j, none⟩ = false := HD.thaw List.mem_cons_self
          refine hK.out _ _ ⟨s0_, s1_, s2_⟩ (fun hHeld => ?_)
          clear hK K
          refine norm_ (a' := ?_) ?_ ?_
          rotate_left
          · show Act.put _ (some 127) _ = _
            simp only [Act.put, List.setIfInBounds_toArray, List.set_cons_zero, List.set_cons_succ, i64_w, i32_w]
            rfl
          refine pure_ (i := 14) (N := some 128) (v := ?_) (a' := ?_) #[true, true, true, true, true, true, true, true, true, true, true, true, true, true, true, false, false] rfl rfl (by kernel_rfl) (fun _ _ _ h => h) (Or.inl ⟨by rfl, ?_⟩) ?_ ?_
          rotate_left
          · intro w'
            go_simp
            with_reducible rfl
          rotate_left
          · simp only [Act.put, List.setIfInBounds_toArray, List.set_cons_zero, List.set_cons_succ, i64_w, i32_w]
            rfl
          refine pure_ (i := 15) (N := some 129) (v := ?_) (a' := ?_) #[true, true, true, true, true, true, true, true, true, true, true, true, true, true, true, true, false] rfl rfl (by kernel_rfl) (fun _ _ _ h => h) (Or.inl ⟨by rfl, ?_⟩) ?_ ?_
          rotate_left
          · intro w'
            go_simp
            with_reducible rfl
          rotate_left
          · simp only [Act.put, List.setIfInBounds_toArray, List.set_cons_zero, List.set_cons_succ, i64_w, i32_w]
            rfl
          refine last_ (i := 16) (N := none) #[true, true, true, true, true, true, true, true, true, true, true, true, true, true, true, true, true] rfl rfl (by kernel_rfl) (by decide) (fun K hK => ?_)
          refine skip_ (w1 := ?_) (by rfl) rfl ?_ ?_
          rotate_left
          · go_simp
            rfl
          refine hK.out _ _ ?_
          clear hK K
          refine done_ (by kernel_rfl) ?_
          clear hHeld s0_ s1_ s2_ fz_
          replace HS := HD
          clear HD
          replace HS := HS.setBox 4 (.slice V5 (s2.rd.length + 1) vc5) .here
          simp only [List.setIfInBounds_toArray, List.set_cons_zero, List.set_cons_succ] at HS
          generalize w6.setCell ⟨g, 4, none⟩ (.slice V5 (s2.rd.length + 1) vc5) = w6b at HS ⊢
          go_wp2_with fail
          have HZ : s2.rd.length + 1 = (s2.rd ++ [(s2.cs.getD a 0)]).length := by simp
          rw [HZ] at HS
          have HAC : Aside0 ((accessC l0 l1 back al kk x.f0 a s) = { s2 with rd := s2.rd ++ [s2.cs.getD a 0] }) := ⟨acc_read HN.out HE0.out HS2.out⟩
          have HR2 : Aside0 (runC l0 l1 back al (kk + 1) ((t.drop (kk + 1)).map pairA) (accessC l0 l1 back al kk x.f0 a s) = fin) := ⟨(runC_drop l0 l1 back al hlt HX.out HA.out s).symm.trans HRUN.out⟩
          have HO2 : Aside0 ((accessC l0 l1 back al kk x.f0 a s).Ok m) := ⟨accessC_ok HOK.out HLEN.out HOKS.out back al kk x.f0 hal⟩
          have HB2 : Aside0 ((accessC l0 l1 back al kk x.f0 a s).Bnd (kk + 1)) := ⟨access_bnd l0 l1 back al kk x.f0 a HBND.out⟩
          have HS2_ : Aside0 (SpecAt w w6b g bw cw lo0 hi0 bc cc lo1 hi1 bd cd lo2 hi2 AF fc lo8 hi8 m  (accessC l0 l1 back al kk x.f0 a s)) := ⟨by rw [HAC.out]; exact ⟨bk4, kc4, lk4, hk4, V5, vc5, lv5, hv5, HS⟩⟩
          clear HS HAC
          go_roundg (t.length - (kk + 1))
          case measure => omega
          case rel => exact ⟨kk + 1, (accessC l0 l1 back al kk x.f0 a s), hlt, Nat.le_refl _, rfl, HR2, HO2, HB2, HS2_⟩
        · have q1 : wb.cell? ⟨g, 1, none⟩ = some (.slice (some ⟨bc, 0, none⟩) 64 cc) := HS.cell List.mem_cons_self 1 _ rfl
          have fzq : ∀ j, wb.frozen? ⟨g, j, none⟩ = false := HS.thaw List.mem_cons_self
          have qa := HS.cellI (List.mem_cons_of_mem _ (List.mem_cons_of_mem _ List.mem_cons_self)) (a : Int) ha0 (by rw [HOK2.out.cs]; exact hal0)
          rw [Int.toNat_natCast] at qa
          have qa1 := qa.1
          have qa2 := qa.2
          clear qa
          go_upto_region 19 with fail
          clear qa1 qa2 q1 fzq
          have H5 := HS.setI (a : Int) ((kk : Int) + 1) (.there (.there .here))
          rw [Int.toNat_natCast] at H5
          generalize wb.setCell ⟨bc, a, none⟩ (.int .i64 ((kk : Int) + 1)) = w7 at H5 ⊢
          clear HS
          have HS := H5
          clear H5
          cases back
          · have r2 : w7.cell? ⟨g0, 2, none⟩ = some (.bool false) := (blk_cell (blk_below HB0.out HS.below) 2).trans HBK.out
            have fr2 : w7.frozen? ⟨g0, 2, none⟩ = false := blk_frozen (blk_below HB0.out HS.below) 2
            have q0 : w7.cell? ⟨g, 0, none⟩ = some (.slice (some ⟨bw, 0, none⟩) 64 cw) := HS.cell List.mem_cons_self 0 _ rfl
            have fzq : ∀ j, w7.frozen? ⟨g, j, none⟩ = false := HS.thaw List.mem_cons_self
            have qa := HS.cellI (List.mem_cons_of_mem _ List.mem_cons_self) (a : Int) ha0 (by rw [HOK2.out.ws]; exact hal0)
            rw [Int.toNat_natCast] at qa
            have qa1 := qa.1
            have qa2 := qa.2
            clear qa
            go_upto_region 22 with fail
            clear qa1 qa2 r2 fr2 q0 fzq
            have H5 := HS.setI (a : Int) ((kk : Int) + 1) (.there .here)
            rw [Int.toNat_natCast] at H5
            generalize w7.setCell ⟨bw, a, none⟩ (.int .i64 ((kk : Int) + 1)) = w8 at H5 ⊢
            clear HS
            have HS := H5
            clear H5
            have q9 : w8.cell? ⟨g, 9, none⟩ = some (.int .i64 s2.o) := HS.cell List.mem_cons_self 9 _ rfl
            have fzq : ∀ j, w8.frozen? ⟨g, j, none⟩ = false := HS.thaw List.mem_cons_self
            go_wp2_with fail
            clear q9 fzq
            replace HS := HS.setBox 9 (.int .i64 (s2.o + 1)) .here
            simp only [List.setIfInBounds_toArray, List.set_cons_zero, List.set_cons_succ] at HS
            generalize w8.setCell ⟨g, 9, none⟩ (.int .i64 (s2.o + 1)) = w9 at HS ⊢
            have HAC : Aside0 ((accessC l0 l1 false al kk x.f0 a s) = writeC false kk a s2) := ⟨acc_write HN.out HE0.out (by rw [HBB.out]; simpa using HDJ.out) HS2.out⟩
            have HR2 : Aside0 (runC l0 l1 false al (kk + 1) ((t.drop (kk + 1)).map pairA) (accessC l0 l1 false al kk x.f0 a s) = fin) := ⟨(runC_drop l0 l1 false al hlt HX.out HA.out s).symm.trans HRUN.out⟩
            have HO2 : Aside0 ((accessC l0 l1 false al kk x.f0 a s).Ok m) := ⟨accessC_ok HOK.out HLEN.out HOKS.out false al kk x.f0 hal⟩
            have HB2 : Aside0 ((accessC l0 l1 false al kk x.f0 a s).Bnd (kk + 1)) := ⟨access_bnd l0 l1 false al kk x.f0 a HBND.out⟩
            have HS2_ : Aside0 (SpecAt w w9 g bw cw lo0 hi0 bc cc lo1 hi1 bd cd lo2 hi2 AF fc lo8 hi8 m  (accessC l0 l1 false al kk x.f0 a s)) := ⟨by rw [HAC.out]; exact ⟨bk4, kc4, lk4, hk4, V4, vc4, lv4, hv4, HS⟩⟩
            clear HS HAC
            go_roundg (t.length - (kk + 1))
            case measure => omega
            case rel => exact ⟨kk + 1, (accessC l0 l1 false al kk x.f0 a s), hlt, Nat.le_refl _, rfl, HR2, HO2, HB2, HS2_⟩
          · have r2 : w7.cell? ⟨g0, 2, none⟩ = some (.bool true) := (blk_cell (blk_below HB0.out HS.below) 2).trans HBK.out
            have fr2 : w7.frozen? ⟨g0, 2, none⟩ = false := blk_frozen (blk_below HB0.out HS.below) 2
            have q2 : w7.cell? ⟨g, 2, none⟩ = some (.slice (some ⟨bd, 0, none⟩) 16 cd) := HS.cell List.mem_cons_self 2 _ rfl
            have fzq : ∀ j, w7.frozen? ⟨g, j, none⟩ = false := HS.thaw List.mem_cons_self
            have qa := Hold.rowCell (enc := Value.bool) (h1 := fun _ => rfl) HS (List.mem_cons_of_mem _ (List.mem_cons_of_mem _ (List.mem_cons_of_mem _ List.mem_cons_self))) false (n : Int) hn0 (by rw [HOK2.out.ds]; exact hn1)
            rw [Int.toNat_natCast] at qa
            have qa1 := qa.1
            have qa2 := qa.2
            clear qa
            go_wp2_with fail
            clear qa1 qa2 r2 fr2 q2 fzq
            have H5 := Hold.setRow (enc := Value.bool) (h1 := fun _ => rfl) HS (n : Int) true ((.there (.there (.there .here))))
            rw [Int.toNat_natCast] at H5
            clear HS
            have HS := H5
            clear H5
            skip
            have HAC : Aside0 ((accessC l0 l1 true al kk x.f0 a s) = { s2 with cs := s2.cs.set a ((kk : Int) + 1), ds := s2.ds.set n true }) := ⟨(acc_write HN.out HE0.out (by rw [HBB.out]; simpa using HDJ.out) HS2.out).trans (by rw [HN.out]; rfl)⟩
            have HR2 : Aside0 (runC l0 l1 true al (kk + 1) ((t.drop (kk + 1)).map pairA) (accessC l0 l1 true al kk x.f0 a s) = fin) := ⟨(runC_drop l0 l1 true al hlt HX.out HA.out s).symm.trans HRUN.out⟩
            have HO2 : Aside0 ((accessC l0 l1 true al kk x.f0 a s).Ok m) := ⟨accessC_ok HOK.out HLEN.out HOKS.out true al kk x.f0 hal⟩
            have HB2 : Aside0 ((accessC l0 l1 true al kk x.f0 a s).Bnd (kk + 1)) := ⟨access_bnd l0 l1 true al kk x.f0 a HBND.out⟩
            have HS2_ : Aside0 (SpecAt w (w7.setCell ⟨bd, n, none⟩ (.bool true)) g bw cw lo0 hi0 bc cc lo1 hi1 bd cd lo2 hi2 AF fc lo8 hi8 m  (accessC l0 l1 true al kk x.f0 a s)) := ⟨by rw [HAC.out]; exact ⟨bk4, kc4, lk4, hk4, V4, vc4, lv4, hv4, HS⟩⟩
            clear HS HAC
            go_roundg (t.length - (kk + 1))
            case measure => omega
            case rel => exact ⟨kk + 1, (accessC l0 l1 true al kk x.f0 a s), hlt, Nat.le_refl _, rfl, HR2, HO2, HB2, HS2_⟩
    · have hltz : ¬ (kk : Int) < (t.length : Int) := by omega
      have hs : s = fin := by have := HRUN.out; rw [List.drop_eq_nil_of_le (by omega)] at this; exact this
      subst hs
      obtain ⟨bk2, kc2, lk2, hk2, V, vc, lv, hv, HS⟩ := HSS.out
      clear HSS HRUN
      have H1 : Aside0 (SpecEnd w wr g bw cw lo0 hi0 bc cc lo1 hi1 bd cd lo2 hi2 m s [] 0) := ⟨⟨bk2, kc2, lk2, hk2, V, vc, lv, hv, AF, fc, lo8, hi8, HS⟩⟩
      clear HS
      go_wp2_with fail
      clear hltz hlt hg
      go_loopg [10] 16 (fun gg s10 wq => ∃ q : Nat, q ≤ 16 ∧ 16 - q ≤ gg ∧ s10 = .int .i64 (q : Int) ∧ Aside0 (SpecEnd w wq g bw cw lo0 hi0 bc cc lo1 hi1 bd cd lo2 hi2 m s (leftC s.ds q) 0))
      case atStart => exact ⟨0, Nat.zero_le _, Nat.le_refl _, rfl, H1⟩
      case round =>
        clear H1
        obtain ⟨q, hq, hgq, rfl, HSS⟩ := hrel
        obtain ⟨bk5, kc5, lk5, hk5, V5, vc5, lv5, hv5, F, fc2, lf, hf, HS⟩ := HSS.out
        clear HSS
        by_cases hq16 : q < 16
        · have hqz : (q : Int) < 16 := by omega
          have hq0 : (0 : Int) ≤ q := Int.natCast_nonneg q
          obtain ⟨dv, hdv⟩ : ∃ dv, s.ds.getD q false = dv := ⟨_, rfl⟩
          have HDV := Aside0.mk hdv
          have qa := (Hold.rowCell (enc := Value.bool) (h1 := fun _ => rfl) HS (List.mem_cons_of_mem _ (List.mem_cons_of_mem _ (List.mem_cons_of_mem _ List.mem_cons_self))) false (q : Int) hq0 (by rw [HOKS.out.ds]; exact hqz)).1
          rw [Int.toNat_natCast, show rdOf false s.ds (q : Int) = dv from hdv] at qa
          clear hdv
          have q2 : wr.cell? ⟨g, 2, none⟩ = some (.slice (some ⟨bd, 0, none⟩) 16 cd) := HS.cell List.mem_cons_self 2 _ rfl
          have fzq : ∀ j, wr.frozen? ⟨g, j, none⟩ = false := HS.thaw List.mem_cons_self
          cases dv
          · go_wp2_with fail
            go_roundg (16 - (q + 1))
            case measure => omega
            case rel => exact ⟨q + 1, hq16, Nat.le_refl _, rfl, ⟨⟨bk5, kc5, lk5, hk5, V5, vc5, lv5, hv5, F, fc2, lf, hf, by rw [show leftC s.ds (q + 1) = leftC s.ds q from by rw [leftC, if_neg (by rw [HDV.out]; exact Bool.false_ne_true), List.append_nil]]; exact HS⟩⟩⟩
          · have r5 : wr.cell? ⟨g, 5, none⟩ = some (.slice F (leftC s.ds q).length fc2) := HS.cell List.mem_cons_self 5 _ rfl
            go_wp2_with ((with_reducible refine gate_builtin (b := .append) (xs := #[.tmp 180, .tmp 182]) rfl ?_); at_builtin; refine Hold.appendI HS rfl (.tmp 180) (.tmp 182) 23 2 rfl Tryz.underlying23 svInfo (.slice F (leftC s.ds q).length fc2) (leftC s.ds q) (q : Int) rfl rfl (List.mem_cons_of_mem _ (List.mem_cons_of_mem _ (List.mem_cons_of_mem _ (List.mem_cons_of_mem _ (List.mem_cons_of_mem _ (List.mem_cons_of_mem _ List.mem_cons_self)))))) (by have := leftC_length s.ds q; omega) ?_; intro F3 fc3 lf3 hf3 w3 HQ; clear q2 fzq qa r5; replace HS := HQ _ (.there (.there (.there (.there (.there (.there .here)))))); clear HQ; have r5 : w3.cell? ⟨g, 5, none⟩ = some (.slice F (leftC s.ds q).length fc2) := HS.cell List.mem_cons_self 5 _ rfl; have fzr : ∀ j, w3.frozen? ⟨g, j, none⟩ = false := HS.thaw List.mem_cons_self)
            clear r5 fzr
            replace HS := HS.setBox 5 (.slice F3 ((leftC s.ds q).length + 1) fc3) .here
            simp only [List.setIfInBounds_toArray, List.set_cons_zero, List.set_cons_succ] at HS
            have HZ : leftC s.ds (q + 1) = leftC s.ds q ++ [(q : Int)] := by rw [leftC, if_pos HDV.out]
            have HZ2 : (leftC s.ds q).length + 1 = (leftC s.ds (q + 1)).length := by rw [HZ]; simp
            rw [HZ2, ← HZ] at HS
            rw [HZ2]
            clear HZ HZ2
            go_roundg (16 - (q + 1))
            case measure => omega
            case rel => exact ⟨q + 1, hq16, Nat.le_refl _, rfl, ⟨⟨bk5, kc5, lk5, hk5, V5, vc5, lv5, hv5, F3, fc3, lf3, hf3, HS⟩⟩⟩
        · obtain rfl : q = 16 := by omega
          have hqz : ¬ ((16 : Nat) : Int) < 16 := by omega
          have H2 : Aside0 (SpecEnd w wr g bw cw lo0 hi0 bc cc lo1 hi1 bd cd lo2 hi2 m s (leftC s.ds 16) 0) := ⟨⟨bk5, kc5, lk5, hk5, V5, vc5, lv5, hv5, F, fc2, lf, hf, HS⟩⟩
          clear HS
          go_wp2_with fail
          clear hqz hq16 hgq hq
          have HFL := Aside0.mk (rfl : flushC s.cs s.cont 0 s.ws s.ds = flushC s.cs s.cont 0 s.ws s.ds)
          go_loopg [11] m (fun gg s11 wp => ∃ (q : Nat) (f : Int) (ws : List Int) (ds : List Bool), q ≤ m ∧ m - q ≤ gg ∧ s11 = .int .i64 (q : Int) ∧ Aside0 (flushC s.cs (s.cont.drop q) f ws ds = flushC s.cs s.cont 0 s.ws s.ds) ∧ Aside0 (0 ≤ f ∧ f ≤ 4 * q ∧ ws.length = 64 ∧ ds.length = 16) ∧ Aside0 (SpecEnd w wp g bw cw lo0 hi0 bc cc lo1 hi1 bd cd lo2 hi2 m { s with ws := ws, ds := ds } (leftC s.ds 16) f))
          case atStart => exact ⟨0, 0, s.ws, s.ds, Nat.zero_le _, Nat.le_refl _, rfl, HFL, ⟨⟨Int.le_refl _, by omega, HOKS.out.ws, HOKS.out.ds⟩⟩, H2⟩
          case round =>
            clear H2 HFL
            obtain ⟨q, f, ws, ds, hq, hgq, rfl, HFL, HBN, HSS⟩ := hrel
            obtain ⟨bk5, kc5, lk5, hk5, V5, vc5, lv5, hv5, F, fc2, lf, hf, HS⟩ := HSS.out
            clear HSS
            by_cases hqm : q < m
            · have hqz : (q : Int) < (m : Int) := by omega
              have hq0 : (0 : Int) ≤ q := Int.natCast_nonneg q
              have hqs : q < s.cont.length := by have := HOKS.out.cont; omega
              obtain ⟨y, hy⟩ : ∃ y, s.cont.getD q 0 = y := ⟨_, rfl⟩
              have HY := Aside0.mk hy
              have HY16 : Aside0 (y < 16) := ⟨by rw [← hy]; exact (HOKS.out.lines _ (getD_mem' s.cont q 0 hqs)).2⟩
              clear hy
              obtain ⟨o1, ws1, ds1, ho⟩ : ∃ o1 ws1 ds1, outV ws s.cs ds y = (o1, ws1, ds1) := ⟨_, _, _, rfl⟩
              have HO := Aside0.mk ho
              have HOL := outV_length ws s.cs ds y
              rw [ho] at HOL
              have HO4 := Aside0.mk HOL
              clear ho HOL
              have hm6 : (m : Int) ≤ 6 := by have := HLN.out.2.2; omega
              have b1 : 0 ≤ f := HBN.out.1
              have b2 : f ≤ 1000 := by have := HBN.out.2.1; omega
              have b3 : 0 ≤ o1 := HO4.out.2.2.1
              have b4 : o1 ≤ 4 := HO4.out.2.2.2
              have q3 : wr.cell? ⟨g, 3, none⟩ = some (.slice (some ⟨bk5, 0, none⟩) m kc5) := HS.cell List.mem_cons_self 3 _ rfl
              have fzq : ∀ j, wr.frozen? ⟨g, j, none⟩ = false := HS.thaw List.mem_cons_self
              go_wp2_with fail
              clear q3 fzq
              have w2 := sum_w (a := f) (b := o1) ⟨b1, by omega⟩ ⟨b3, b4⟩
              have HD := Hold.drew HS
              refine start_ (n := 19) (S := fun w' => w'.cell? ⟨g, 10, none⟩ = some (.int .i64 f) ∧ w'.cell? ⟨g, 3, none⟩ = some (.slice (some ⟨bk5, 0, none⟩) m kc5) ∧ w'.cell? ⟨bk5, q, none⟩ = some (.int .i64 y)) (ds := [18]) #[false, false, false, false, false, false, false, false, false, false, false, false, false, false, false, false, false, false, false] (by kernel_rfl) rfl rfl ⟨(HD.cell List.mem_cons_self 10 _ rfl), (HD.cell List.mem_cons_self 3 _ rfl), (by have := (HD.cellI (List.mem_cons_of_mem _ (List.mem_cons_of_mem _ (List.mem_cons_of_mem _ (List.mem_cons_of_mem _ List.mem_cons_self)))) (q : Int) hq0 (by exact Int.ofNat_lt.2 hqs)).1; rwa [Int.toNat_natCast, HY.out] at this)⟩ (fun hHeld => ?_)
              generalize wr.drew = wd at HD hHeld ⊢
              refine pure_ (i := 0) (N := some 195) (v := ?_) (a' := ?_) #[true, false, false, false, false, false, false, false, false, false, false, false, false, false, false, false, false, false, false] rfl rfl (by kernel_rfl) (fun _ _ _ h => h) (Or.inl ⟨by rfl, ?_⟩) ?_ ?_
              rotate_left
              · intro w'
                go_simp
                with_reducible rfl
              rotate_left
              · simp only [Act.put, List.setIfInBounds_toArray, List.set_cons_zero, List.set_cons_succ, i64_w, i32_w]
                rfl
              refine pure_ (i := 1) (N := some 196) (v := ?_) (a' := ?_) #[true, true, false, false, false, false, false, false, false, false, false, false, false, false, false, false, false, false, false] rfl rfl (by kernel_rfl) (fun _ _ _ h => h) (Or.inl ⟨by rfl, ?_⟩) ?_ ?_
              rotate_left
              · intro w'
                go_simp
                with_reducible rfl
              rotate_left
              · simp only [Act.put, List.setIfInBounds_toArray, List.set_cons_zero, List.set_cons_succ, i64_w, i32_w]
                rfl
              refine pure_ (i := 2) (N := some 197) (v := ?_) (a' := ?_) #[true, true, true, false, false, false, false, false, false, false, false, false, false, false, false, false, false, false, false] rfl rfl (by kernel_rfl) (fun _ _ _ h => h) (Or.inl ⟨by rfl, ?_⟩) ?_ ?_
              rotate_left
              · intro w'
                go_simp
                with_reducible rfl
              rotate_left
              · simp only [Act.put, List.setIfInBounds_toArray, List.set_cons_zero, List.set_cons_succ, i64_w, i32_w]
                rfl
              refine pure_ (i := 3) (N := some 198) (v := ?_) (a' := ?_) #[true, true, true, true, false, false, false, false, false, false, false, false, false, false, false, false, false, false, false] rfl rfl (by kernel_rfl) (fun _ _ _ h => h) (Or.inl ⟨by rfl, ?_⟩) ?_ ?_
              rotate_left
              · intro w'
                go_simp
                with_reducible rfl
              rotate_left
              · simp only [Act.put, List.setIfInBounds_toArray, List.set_cons_zero, List.set_cons_succ, i64_w, i32_w]
                rfl
              refine pure_ (i := 5) (N := some 200) (v := ?_) (a' := ?_) #[true, true, true, true, false, true, false, false, false, false, false, false, false, false, false, false, false, false, false] rfl rfl (by kernel_rfl) (fun _ _ _ h => h) (Or.inl ⟨by rfl, ?_⟩) ?_ ?_
              rotate_left
              · intro w'
                go_simp
                with_reducible rfl
              rotate_left
              · simp only [Act.put, List.setIfInBounds_toArray, List.set_cons_zero, List.set_cons_succ, i64_w, i32_w]
                rfl
              refine pure_ (i := 6) (N := some 201) (v := ?_) (a' := ?_) #[true, true, true, true, false, true, true, false, false, false, false, false, false, false, false, false, false, false, false] rfl rfl (by kernel_rfl) (fun _ _ _ h => h) (Or.inl ⟨by rfl, ?_⟩) ?_ ?_
              rotate_left
              · intro w'
                go_simp
                with_reducible rfl
              rotate_left
              · simp only [Act.put, List.setIfInBounds_toArray, List.set_cons_zero, List.set_cons_succ, i64_w, i32_w]
                rfl
              refine pure_ (i := 7) (N := some 202) (v := ?_) (a' := ?_) #[true, true, true, true, false, true, true, true, false, false, false, false, false, false, false, false, false, false, false] rfl rfl (by kernel_rfl) (fun _ _ _ h => h) (Or.inl ⟨by rfl, ?_⟩) ?_ ?_
              rotate_left
              · intro w'
                go_simp
                with_reducible rfl
              rotate_left
              · simp only [Act.put, List.setIfInBounds_toArray, List.set_cons_zero, List.set_cons_succ, i64_w, i32_w]
                rfl
              refine pure_ (i := 8) (N := some 203) (v := ?_) (a' := ?_) #[true, true, true, true, false, true, true, true, true, false, false, false, false, false, false, false, false, false, false] rfl rfl (by kernel_rfl) (fun _ _ _ h => h) (Or.inl ⟨by rfl, ?_⟩) ?_ ?_
              rotate_left
              · intro w'
                go_simp
                with_reducible rfl
              rotate_left
              · simp only [Act.put, List.setIfInBounds_toArray, List.set_cons_zero, List.set_cons_succ, i64_w, i32_w]
                rfl
              refine pure_ (i := 10) (N := some 205) (v := ?_) (a' := ?_) #[true, true, true, true, false, true, true, true, true, false, true, false, false, false, false, false, false, false, false] rfl rfl (by kernel_rfl) (fun _ _ _ h => h) (Or.inl ⟨by rfl, ?_⟩) ?_ ?_
              rotate_left
              · intro w'
                go_simp
                with_reducible rfl
              rotate_left
              · simp only [Act.put, List.setIfInBounds_toArray, List.set_cons_zero, List.set_cons_succ, i64_w, i32_w]
                rfl
              refine take_ (i := 4) (N := some 199) (v := ?_) (a' := ?_) #[true, true, true, true, true, true, true, true, true, false, true, false, false, false, false, false, false, false, false] rfl rfl (by kernel_rfl) (fun _ _ _ h => h) (Or.inl ⟨by rfl, ?_⟩) hHeld ?_ ?_
              rotate_left
              · rintro w' ⟨s0, s1, s2⟩
                go_simp
                with_reducible rfl
              rotate_left
              · simp only [Act.put, List.setIfInBounds_toArray, List.set_cons_zero, List.set_cons_succ, i64_w, i32_w]
                rfl
              refine take_ (i := 9) (N := some 204) (v := ?_) (a' := ?_) #[true, true, true, true, true, true, true, true, true, true, true, false, false, false, false, false, false, false, false] rfl rfl (by kernel_rfl) (fun _ _ _ h => h) (Or.inl ⟨by rfl, ?_⟩) hHeld ?_ ?_
              rotate_left
              · rintro w' ⟨s0, s1, s2⟩
                go_simp
                with_reducible rfl
              rotate_left
              · simp only [Act.put, List.setIfInBounds_toArray, List.set_cons_zero, List.set_cons_succ, i64_w, i32_w]
                rfl
              refine pure_ (i := 11) (N := some 206) (v := ?_) (a' := ?_) #[true, true, true, true, true, true, true, true, true, true, true, true, false, false, false, false, false, false, false] rfl rfl (by kernel_rfl) (fun _ _ _ h => h) (Or.inl ⟨by rfl, ?_⟩) ?_ ?_
              rotate_left
              · intro w'
                go_simp
                with_reducible rfl
              rotate_left
              · simp only [Act.put, List.setIfInBounds_toArray, List.set_cons_zero, List.set_cons_succ, i64_w, i32_w]
                rfl
              refine take_ (i := 12) (N := some 207) (v := ?_) (a' := ?_) #[true, true, true, true, true, true, true, true, true, true, true, true, true, false, false, false, false, false, false] rfl rfl (by kernel_rfl) (fun _ _ _ h => h) (Or.inl ⟨by rfl, ?_⟩) hHeld ?_ ?_
              rotate_left
              · rintro w' ⟨s0, s1, s2⟩
                go_simp
                with_reducible rfl
              rotate_left
              · simp only [Act.put, List.setIfInBounds_toArray, List.set_cons_zero, List.set_cons_succ, i64_w, i32_w]
                rfl
              refine one_ (i := 13) (N := some 208) #[true, true, true, true, true, true, true, true, true, true, true, true, true, true, false, false, false, false, false] rfl rfl (by kernel_rfl) (by decide) (fun K hK => ?_)
              refine goes_ Tryz.func46 (by kernel_rfl) rfl #[.pointer (some ⟨g, 0, none⟩), .int .i64 y] (by rfl) rfl rfl (by simp only [List.map_toArray, List.map_cons, List.map_nil]; rfl) ?_
              with_reducible refine (out_calls HD HY16.out HO.out).mono ?_
              rintro e w7 ⟨rfl, HQ⟩
              refine ⟨_, rfl, ?_⟩
              replace HD := HQ
              clear HQ
              have s0_ : w7.cell? ⟨g, 10, none⟩ = some (.int .i64 f) := HD.cell List.mem_cons_self 10 _ rfl
              have s1_ : w7.cell? ⟨g, 3, none⟩ = some (.slice (some ⟨bk5, 0, none⟩) m kc5) := HD.cell List.mem_cons_self 3 _ rfl
              have s2_ : w7.cell? ⟨bk5, q, none⟩ = some (.int .i64 y) := (by have := (HD.cellI (List.mem_cons_of_mem _ (List.mem_cons_of_mem _ (List.mem_cons_of_mem _ (List.mem_cons_of_mem _ List.mem_cons_self)))) (q : Int) hq0 (by exact Int.ofNat_lt.2 hqs)).1; rwa [Int.toNat_natCast, HY.out] at this)
              have fz_ : ∀ j, w7.frozen? ⟨g, j, none⟩ = false := HD.thaw List.mem_cons_self
              refine hK.out _ _ ⟨s0_, s1_, s2_⟩ (fun hHeld => ?_)
              clear hK K
              refine norm_ (a' := ?_) ?_ ?_
              rotate_left
              · show Act.put _ (some 208) _ = _
                simp only [Act.put, List.setIfInBounds_toArray, List.set_cons_zero, List.set_cons_succ, i64_w, i32_w]
                rfl
              refine pure_ (i := 14) (N := some 209) (v := ?_) (a' := ?_) #[true, true, true, true, true, true, true, true, true, true, true, true, true, true, true, false, false, false, false] rfl rfl (by kernel_rfl) (fun _ _ _ h => h) (Or.inl ⟨by rfl, ?_⟩) ?_ ?_
              rotate_left
              · intro w'
                go_simp
                with_reducible rfl
              rotate_left
              · simp only [Act.put, List.setIfInBounds_toArray, List.set_cons_zero, List.set_cons_succ, i64_w, i32_w]
                rfl
              refine pure_ (i := 15) (N := some 210) (v := ?_) (a' := ?_) #[true, true, true, true, true, true, true, true, true, true, true, true, true, true, true, true, false, false, false] rfl rfl (by kernel_rfl) (fun _ _ _ h => h) (Or.inl ⟨by rfl, ?_⟩) ?_ ?_
              rotate_left
              · intro w'
                go_simp
                with_reducible rfl
              rotate_left
              · simp only [Act.put, List.setIfInBounds_toArray, List.set_cons_zero, List.set_cons_succ, i64_w, i32_w]
                rfl
              refine pure_ (i := 16) (N := some 211) (v := ?_) (a' := ?_) #[true, true, true, true, true, true, true, true, true, true, true, true, true, true, true, true, true, false, false] rfl rfl (by kernel_rfl) (fun _ _ _ h => h) (Or.inl ⟨by rfl, ?_⟩) ?_ ?_
              rotate_left
              · intro w'
                go_simp
                with_reducible rfl
              rotate_left
              · simp only [Act.put, List.setIfInBounds_toArray, List.set_cons_zero, List.set_cons_succ, i64_w, i32_w]
                rfl
              refine pure_ (i := 17) (N := some 212) (v := ?_) (a' := ?_) #[true, true, true, true, true, true, true, true, true, true, true, true, true, true, true, true, true, true, false] rfl rfl (by kernel_rfl) (fun _ _ _ h => h) (Or.inl ⟨by rfl, ?_⟩) ?_ ?_
              rotate_left
              · intro w'
                go_simp
                with_reducible rfl
              rotate_left
              · simp only [Act.put, List.setIfInBounds_toArray, List.set_cons_zero, List.set_cons_succ, i64_w, i32_w]
                rfl
              refine last_ (i := 18) (N := none) #[true, true, true, true, true, true, true, true, true, true, true, true, true, true, true, true, true, true, true] rfl rfl (by kernel_rfl) (by decide) (fun K hK => ?_)
              refine skip_ (w1 := ?_) (by rfl) rfl ?_ ?_
              rotate_left
              · go_simp
                rfl
              refine hK.out _ _ ?_
              clear hK K
              refine done_ (by kernel_rfl) ?_
              clear hHeld s0_ s1_ s2_ fz_
              replace HS := HD
              clear HD
              replace HS := HS.setBox 10 (.int .i64 (f + o1)) .here
              simp only [List.setIfInBounds_toArray, List.set_cons_zero, List.set_cons_succ] at HS
              generalize w7.setCell ⟨g, 10, none⟩ (.int .i64 (f + o1)) = w7b at HS ⊢
              clear w2
              go_wp2_with fail
              go_roundg (m - (q + 1))
              case measure => omega
              case rel => exact ⟨q + 1, f + o1, ws1, ds1, hqm, Nat.le_refl _, rfl, ⟨by rw [← HFL.out, flush_step _ _ _ hqs, HY.out, HO.out]⟩, ⟨⟨by omega, by have := HBN.out.2.1; omega, HO4.out.1.trans HBN.out.2.2.1, HO4.out.2.1.trans HBN.out.2.2.2⟩⟩, ⟨⟨bk5, kc5, lk5, hk5, V5, vc5, lv5, hv5, F, fc2, lf, hf, HS⟩⟩⟩
            · obtain rfl : q = m := by omega
              have hqz : ¬ (q : Int) < (q : Int) := by omega
              have hfl : (f, ws, ds) = flushC s.cs s.cont 0 s.ws s.ds := by rw [← HFL.out, List.drop_eq_nil_of_le (by have := HOKS.out.cont; omega)]; rfl
              have HF2 := Aside0.mk hfl
              clear hfl
              have q3 : wr.cell? ⟨g, 3, none⟩ = some (.slice (some ⟨bk5, 0, none⟩) q kc5) := HS.cell List.mem_cons_self 3 _ rfl
              have fzq : ∀ j, wr.frozen? ⟨g, j, none⟩ = false := HS.thaw List.mem_cons_self
              go_wp2_with fail
              go_ret
              refine ⟨g, rfl, bw, cw, lo0, hi0, bc, cc, lo1, hi1, bd, cd, lo2, hi2, ?_⟩
              rw [← HF2.out]
              exact ⟨bk5, kc5, lk5, hk5, V5, vc5, lv5, hv5, F, fc2, lf, hf, HS⟩
theorem kind_f (v : Int) : spec_l02Kind.f v = some (decide (0 ≤ v) && decide (v ≤ 1)) := by
  unfold spec_l02Kind.f
  by_cases h : v = 0
  · subst h; rfl
  · rw [if_neg h]
    by_cases h1 : v = 1
    · subst h1; rfl
    · congr 1
      rw [show (v == 1) = false from beq_eq_false_iff_ne.2 h1]
      by_cases h2 : 0 ≤ v
      · rw [decide_eq_true h2, decide_eq_false (show ¬ v ≤ 1 by omega)]; rfl
      · rw [decide_eq_false h2]; rfl
theorem address_f (v : Int) : spec_l02Address.f v = some (decide (0 ≤ v) && decide (v ≤ 63)) := by
  unfold spec_l02Address.f
  rw [in_spec]
  rfl
def traceB (t : List S58) : Bool := decide (t.length ≤ 60) && !(t.any xpAccess)
theorem specTrace_ev (t : List S58) (h : t.length ≤ 1048576) : Ev (fun k => spec_l02Is.f k t) (traceB t) := by
  unfold spec_l02Is.f traceB
  have key : ∀ d i, t.length - i = d → i ≤ t.length → Ev (fun k => spec_l02Is.l0 k t (i : Int)) (decide (t.length ≤ 60) && !((t.drop i).any xpAccess)) := by
    intro d
    induction d with
    | zero =>
      intro i hd hi
      refine Ev.succ ?_
      simp only [spec_l02Is.l0]
      refine Ev.neg (by omega) (Ev.some ?_)
      rw [List.drop_eq_nil_of_le (by omega), List.any_nil, Bool.not_false, Bool.and_true]
      rw [show decide ((t.length : Int) ≤ 60) = decide (t.length ≤ 60) from decide_eq_decide.2 (by omega)]
    | succ d ih =>
      intro i hd hi
      refine Ev.succ ?_
      simp only [spec_l02Is.l0]
      have hrd : rd_T58 t (i : Int) = t.getD i z58 := rfl
      rw [drop_cons t i z58 (by omega), List.any_cons, hrd, wrap_succ (show i < t.length by omega) (by omega)]
      generalize t.getD i z58 = x
      refine Ev.pos (by omega) (Ev.pos (by omega) (Ev.bindc (kind_f _) ?_))
      cases hk : decide (0 ≤ x.f0) && decide (x.f0 ≤ 1) with
      | false =>
        refine Ev.neg (by simp) (Ev.some ?_)
        rw [show xpAccess x = true by unfold xpAccess; rw [hk]; rfl]
        simp
      | true =>
        refine Ev.pos rfl (Ev.bindc (address_f _) ?_)
        cases ha : decide (0 ≤ x.f1) && decide (x.f1 ≤ 63) with
        | false =>
          refine Ev.neg (by simp) (Ev.some ?_)
          rw [show xpAccess x = true by unfold xpAccess; rw [hk, ha]; rfl]
          simp
        | true =>
          refine Ev.pos rfl ?_
          rw [show xpAccess x = false by unfold xpAccess; rw [hk, ha]; rfl, Bool.false_or]
          exact ih (i + 1) (by omega) (by omega)
  have := key t.length 0 (by omega) (by omega)
  simpa using this
theorem trace_facts {t : List S58} (h : traceB t = true) : t.length ≤ 60 ∧ ∀ x ∈ t, ∃ a : Nat, x.f1 = (a : Int) ∧ a < 64 ∧ (x.f0 = 0 ∨ x.f0 = 1) := by
  unfold traceB at h
  rw [Bool.and_eq_true, decide_eq_true_eq] at h
  refine ⟨h.1, fun x hx => ?_⟩
  have h2 := h.2
  cases hp : xpAccess x with
  | true =>
    have : t.any xpAccess = true := List.any_eq_true.2 ⟨x, hx, hp⟩
    rw [this] at h2; cases h2
  | false =>
    unfold xpAccess at hp
    simp only [Bool.or_eq_false_iff, Bool.not_eq_false', Bool.and_eq_true, decide_eq_true_eq] at hp
    exact ⟨x.f1.toNat, by omega, by omega, by omega⟩
/-- The sizes of a policy are no more than a million. -/
def polLen (h : List (List Int)) (m : List Int) : Prop := h.length ≤ 1048576 ∧ (∀ x ∈ h, x.length ≤ 1048576) ∧ m.length ≤ 1048576
instance (h : List (List Int)) (m : List Int) : Decidable (polLen h m) := by unfold polLen; infer_instance
set_option maxHeartbeats 1600000 in
set_option maxRecDepth 100000 in
theorem both_calls {w : World} (g0 : Nat) (A0 : Option Addr) (c0 : Nat) (l0 : List (List Int)) (A1 : Option Addr) (c1 : Nat) (l1 : List Int) (pcs : Array Value) (pty : TypeId) (hcs0 : pcs[0]? = some (.slice A0 l0.length c0)) (hcs1 : pcs[0 + 1]? = some (.slice A1 l1.length c1)) (hb0 : w.heap[g0]? = some (.cells pcs pty (0, 0))) (hr0 : Kd.C (Kd.slice 2 (Kd.int .i64)) w A0 l0.length l0) (hc0 : l0.length ≤ c0) (hr1 : Kd.C (Kd.int .i64) w A1 l1.length l1) (hc1 : l1.length ≤ c1) (AT : Option Addr) (cT : Nat) (t : List S58) (hT : Kd.C k58 w AT t.length t) (hct : t.length ≤ cT) (hpl : polLen l0 l1) (htl : t.length ≤ 1048576) :
    Calls Tryz.prog 24 #[.pointer (some ⟨g0, 0, none⟩), .slice AT t.length cT] w fun e w' => e = .returned (.bool (validB l0 l1 && traceB t)) ∧ Below w.heap.size w w' := by
  have HP0 := Aside0.mk hcs0
  have HP1 := Aside0.mk hcs1
  have HB0 := Aside0.mk hb0
  have HR0 := Aside0.mk hr0
  have HC0 := Aside0.mk hc0
  have HR1 := Aside0.mk hr1
  have HC1 := Aside0.mk hc1
  have HT := Aside0.mk hT
  have HCT := Aside0.mk hct
  clear hcs0 hcs1 hb0 hr0 hc0 hr1 hc1 hT hct
  have EV := Aside0.mk (specIs_ev l0 l1 hpl.1 hpl.2.1 hpl.2.2)
  have ET := Aside0.mk (specTrace_ev t htl)
  obtain ⟨vb, hvb⟩ : ∃ vb, validB l0 l1 = vb := ⟨_, rfl⟩
  obtain ⟨tb, htb⟩ : ∃ tb, traceB t = tb := ⟨_, rfl⟩
  rw [hvb] at EV ⊢
  rw [htb] at ET ⊢
  clear hvb htb hpl htl
  go_enter Tryz.func24, Tryz.ntmps24
  go_wp2_with fail
  refine (spec_l03Is.gen (Ev.num EV.out) g0 A0 c0 l0 A1 c1 l1 vb _ pcs pty 0 HP0.out HP1.out HB0.out HR0.out HC0.out HR1.out HC1.out (Ev.is EV.out)).mono ?_
  rintro e w1 ⟨rfl, hb⟩
  have HB1 := Aside0.mk hb
  clear hb
  cases vb
  · go_wp2_with fail
    go_ret
    exact ⟨rfl, HB1.out⟩
  · go_wp2_with fail
    refine (spec_l02Is.calls (Ev.num ET.out) AT cT t tb _ (Kd.C_below HT.out HB1.out) HCT.out (Ev.is ET.out)).mono ?_
    rintro e w2 ⟨rfl, hb2⟩
    have HB2 := Aside0.mk hb2
    clear hb2
    go_wp2_with fail
    go_ret
    exact ⟨rfl, below_le HB1.out HB2.out.below⟩
/-- The run of a cache, whole; what puts out behind it; what each question answers. -/
def cacheEnd (l0 : List (List Int)) (l1 : List Int) (back al : Bool) (t : List S58) : CacheV := runC l0 l1 back al 0 (t.map pairA) (startC l1.length)
def cacheOk (l0 : List (List Int)) (l1 : List Int) (t : List S58) : Bool := validB l0 l1 && traceB t
def dirtyV (l0 : List (List Int)) (l1 : List Int) (back al : Bool) (t : List S58) : List Int × Bool := if cacheOk l0 l1 t = true then (leftC (cacheEnd l0 l1 back al t).ds 16, true) else ([], false)


end Go.Proofs.YtdkpdpdaggnmhaaGreat.PFnExactDirtyLines
