/- The statement FnExactFirstBreak over lists alone: both programs test the same conditions, and find the same first break. -/
import Derived.Test.YthahiogiafibmaaPFnExactFirstBreakx
import Derived.Test.YthahiogiafibmaaX2
import Derived.Test.YthahiogiafibmaaX7
namespace Go.Proofs.Ythahiogiafibmaa.Pure
open Go.RowKit Go.Proofs.YthahiogiafibmaaW.PrintWords Go.Proofs.Ythahiogiafibmaa.PFnExactFirstBreak
set_option linter.unusedVariables false
set_option linter.unusedSimpArgs false

theorem in_impl (a b c : Int) : impl_inRange.f a b c = some (decide (b ≤ a) && decide (a ≤ c)) := by
  unfold impl_inRange.f
  by_cases h : b ≤ a <;> simp [h]
theorem in_spec (a b c : Int) : spec_l00In.f a b c = some (decide (b ≤ a) && decide (a ≤ c)) := by
  unfold spec_l00In.f
  by_cases h : b ≤ a <;> simp [h]
def sumLen {α : Type} (l : List (List α)) : Nat := (l.map List.length).sum
theorem sumLen_cons {α : Type} (x : List α) (l : List (List α)) : sumLen (x :: l) = x.length + sumLen l := by simp [sumLen]
theorem sumLen_mem {α : Type} {l : List (List α)} {x : List α} (h : x ∈ l) : x.length ≤ sumLen l := by
  induction l with
  | nil => simp at h
  | cons y l ih =>
    rw [sumLen_cons]
    rcases List.mem_cons.1 h with rfl | h
    · omega
    · have := ih h; omega
theorem getD_mem {α : Type} (l : List α) (i : Nat) (z : α) (h : i < l.length) : l.getD i z ∈ l := by
  rw [getD_lt l i z h]; exact List.getElem_mem h
theorem sumLen_le {α : Type} (l : List (List α)) (m : Nat) (h : ∀ x ∈ l, x.length ≤ m) : sumLen l ≤ l.length * m := by
  induction l with
  | nil => simp [sumLen]
  | cons y l ih =>
    rw [sumLen_cons, List.length_cons, Nat.succ_mul]
    have h1 := h y List.mem_cons_self
    have h2 := ih (fun x hx => h x (List.mem_cons_of_mem _ hx))
    omega
theorem szInt64S_f (l : List Int) (a : Int) (h0 : 0 ≤ a) (h1 : a ≤ 1048576) (hl : l.length ≤ 9223372036854775807) : laws_szInt64S.f l a = some (if a < l.length then -1 else a - l.length) := by
  unfold laws_szInt64S.f
  rw [wrap_id (by omega) (by omega)]
  by_cases h : a < l.length
  · rw [if_pos (by omega), if_pos h]
  · rw [if_neg (by omega), if_neg h]
theorem szInt64SS_ev (l : List (List Int)) (a : Int) (h0 : 0 ≤ a) (h1 : a ≤ 1048576) (hl : l.length ≤ 9223372036854775807) (hi : ∀ x ∈ l, x.length ≤ 9223372036854775807) :
    Ev (fun k => laws_szInt64SS.f k l a) (if a < (l.length : Int) + (sumLen l : Int) then -1 else a - ((l.length : Int) + (sumLen l : Int))) := by
  unfold laws_szInt64SS.f
  rw [wrap_id (by omega) (by omega)]
  by_cases h : a < l.length
  · refine Ev.pos (by omega) (Ev.some ?_)
    rw [if_pos (by omega)]
  · refine Ev.neg (by omega) ?_
    have key : ∀ d i (b : Int), l.length - i = d → i ≤ l.length → 0 ≤ b → b ≤ 1048576 → Ev (fun k => laws_szInt64SS.l0 k l b (i : Int)) (if b < (sumLen (l.drop i) : Int) then -1 else b - (sumLen (l.drop i) : Int)) := by
      intro d
      induction d with
      | zero =>
        intro i b hd hi' hb0 hb1
        refine Ev.succ ?_
        simp only [laws_szInt64SS.l0]
        refine Ev.neg (by omega) (Ev.some ?_)
        rw [List.drop_eq_nil_of_le (by omega)]
        simp [sumLen]; omega
      | succ d ih =>
        intro i b hd hi' hb0 hb1
        refine Ev.succ ?_
        simp only [laws_szInt64SS.l0]
        have hx := hi _ (getD_mem l i [] (by omega))
        refine Ev.pos (by omega) (Ev.pos (by omega) (Ev.bindc (szInt64S_f (l.getD i []) b hb0 hb1 hx) ?_))
        rw [drop_cons l i [] (by omega), sumLen_cons]
        generalize l.getD i [] = x at hx ⊢
        by_cases hx2 : b < x.length
        · rw [if_pos hx2]
          refine Ev.pos (by omega) (Ev.some ?_)
          rw [if_pos (by omega)]
        · rw [if_neg hx2]
          refine Ev.neg (by omega) ?_
          rw [wrap_succ (show i < l.length by omega) (by omega)]
          have := ih (i + 1) (b - x.length) (by omega) (by omega) (by omega) (by omega)
          rw [show (if b < ((x.length + sumLen (l.drop (i + 1)) : Nat) : Int) then (-1 : Int) else b - ((x.length + sumLen (l.drop (i + 1)) : Nat) : Int)) = (if b - x.length < (sumLen (l.drop (i + 1)) : Int) then (-1 : Int) else b - x.length - (sumLen (l.drop (i + 1)) : Int)) by split <;> split <;> omega]
          exact this
    have := key l.length 0 (a - l.length) (by omega) (by omega) (by omega) (by omega)
    rw [List.drop_zero] at this
    rw [show (if a < (l.length : Int) + (sumLen l : Int) then (-1 : Int) else a - ((l.length : Int) + (sumLen l : Int))) = (if a - l.length < (sumLen l : Int) then (-1 : Int) else a - l.length - (sumLen l : Int)) by split <;> split <;> omega]
    exact this
theorem toInt64S_ev (l : List Int) (h : l.length ≤ 1048576) : Ev (fun k => laws_toInt64S.f k l) l := by
  unfold laws_toInt64S.f
  refine Ev.pos (by omega) (Ev.pos (by omega) ?_)
  refine Ev.upto (F := fun k s i => laws_toInt64S.l0 k l s i) (n := l.length) (r := l) (fun i s => s = (l.take i).map id ++ List.replicate (l.length - i) 0) ?_ ?_ 0 (Nat.zero_le _) _ (by simp)
  · intro i s hi hs ih
    have hsl : s.length = l.length := by rw [hs]; simp; omega
    refine Ev.succ ?_
    simp only [laws_toInt64S.l0]
    refine Ev.pos (by omega) (Ev.pos (by omega) (Ev.pos (by omega) ?_))
    rw [wrap_succ hi (by omega)]
    refine ih _ ?_
    rw [hs, Int.toNat_natCast]
    exact fill_next id l 0 0 i hi _ rfl
  · intro s hs
    refine Ev.succ ?_
    simp only [laws_toInt64S.l0]
    exact Ev.neg (by omega) (Ev.some (by rw [hs]; simp))
theorem toInt64SS_ev (l : List (List Int)) (h : l.length ≤ 1048576) (hi : ∀ x ∈ l, x.length ≤ 1048576) : Ev (fun k => laws_toInt64SS.f k l) (l.map id) := by
  unfold laws_toInt64SS.f
  refine Ev.pos (by omega) (Ev.pos (by omega) ?_)
  refine Ev.upto (F := fun k s i => laws_toInt64SS.l0 k l s i) (n := l.length) (r := l.map id) (fun i s => s = (l.take i).map id ++ List.replicate (l.length - i) []) ?_ ?_ 0 (Nat.zero_le _) _ (by simp)
  · intro i s hi' hs ih
    have hsl : s.length = l.length := by rw [hs]; simp; omega
    refine Ev.succ ?_
    simp only [laws_toInt64SS.l0]
    refine Ev.pos (by omega) (Ev.pos (by omega) (Ev.bind (toInt64S_ev (l.getD i []) (hi _ (getD_mem l i [] hi'))) (Ev.pos (by omega) ?_)))
    rw [wrap_succ hi' (by omega)]
    refine ih _ ?_
    rw [hs, Int.toNat_natCast]
    exact fill_next id l [] [] i hi' _ rfl
  · intro s hs
    refine Ev.succ ?_
    simp only [laws_toInt64SS.l0]
    exact Ev.neg (by omega) (Ev.some (by rw [hs]; simp))
theorem eqInt64S_ev (l : List Int) (h : l.length ≤ 1048576) : Ev (fun k => laws_eqInt64S.f k l l) true := by
  unfold laws_eqInt64S.f
  refine Ev.pos rfl ?_
  refine Ev.upto (F := fun k (_ : Unit) i => laws_eqInt64S.l0 k l l i) (n := l.length) (r := true) (fun _ _ => True) ?_ ?_ 0 (Nat.zero_le _) () trivial
  · intro i s hi _ ih
    refine Ev.succ ?_
    simp only [laws_eqInt64S.l0]
    refine Ev.pos (by omega) (Ev.pos (by omega) (Ev.pos (by omega) (Ev.pos (by simp) ?_)))
    rw [wrap_succ hi (by omega)]
    exact ih () trivial
  · intro s _
    refine Ev.succ ?_
    simp only [laws_eqInt64S.l0]
    exact Ev.neg (by omega) (Ev.some rfl)
theorem eqInt64SS_ev (l : List (List Int)) (h : l.length ≤ 1048576) (hi : ∀ x ∈ l, x.length ≤ 1048576) : Ev (fun k => laws_eqInt64SS.f k l l) true := by
  unfold laws_eqInt64SS.f
  refine Ev.pos rfl ?_
  refine Ev.upto (F := fun k (_ : Unit) i => laws_eqInt64SS.l0 k l l i) (n := l.length) (r := true) (fun _ _ => True) ?_ ?_ 0 (Nat.zero_le _) () trivial
  · intro i s hi' _ ih
    refine Ev.succ ?_
    simp only [laws_eqInt64SS.l0]
    refine Ev.pos (by omega) (Ev.pos (by omega) (Ev.pos (by omega) (Ev.bind (eqInt64S_ev (l.getD i []) (hi _ (getD_mem l i [] hi'))) (Ev.pos rfl ?_))))
    rw [wrap_succ hi' (by omega)]
    exact ih () trivial
  · intro s _
    refine Ev.succ ?_
    simp only [laws_eqInt64SS.l0]
    exact Ev.neg (by omega) (Ev.some rfl)
theorem specHas_ev (l : List Int) (x : Int) (h : l.length ≤ 1048576) : Ev (fun k => spec_l00Has.f k l x) (l.any fun y => decide (y = x)) := by
  unfold spec_l00Has.f
  have key : ∀ d i, l.length - i = d → i ≤ l.length → Ev (fun k => spec_l00Has.l0 k l x (i : Int)) ((l.drop i).any fun y => decide (y = x)) := by
    intro d
    induction d with
    | zero =>
      intro i hd hi
      refine Ev.succ ?_
      simp only [spec_l00Has.l0]
      refine Ev.neg (by omega) (Ev.some ?_)
      rw [List.drop_eq_nil_of_le (by omega)]
      rfl
    | succ d ih =>
      intro i hd hi
      refine Ev.succ ?_
      simp only [spec_l00Has.l0]
      refine Ev.pos (by omega) (Ev.pos (by omega) ?_)
      have hrd : rd l (i : Int) = l.getD i 0 := rfl
      rw [drop_cons l i 0 (by omega), List.any_cons, hrd, wrap_succ (show i < l.length by omega) (by omega)]
      by_cases hx : l.getD i 0 = x
      · exact Ev.pos hx (Ev.some (by rw [decide_eq_true hx]; rfl))
      · refine Ev.neg hx ?_
        have := ih (i + 1) (by omega) (by omega)
        rw [decide_eq_false hx, Bool.false_or]
        exact this
  have := key l.length 0 (by omega) (by omega)
  simpa using this
theorem rising_range : ∀ (s : List Int) (a : Int), s.Pairwise (· < ·) → (∀ x ∈ s, a ≤ x ∧ x ≤ a + s.length - 1) → s = (List.range s.length).map fun (j : Nat) => a + (j : Int)
  | [], _, _, _ => rfl
  | x :: t, a, hp, hb => by
    rw [List.pairwise_cons] at hp
    have hx := hb x List.mem_cons_self
    have ht : t = (List.range t.length).map fun (j : Nat) => (a + 1) + (j : Int) := by
      refine rising_range t (a + 1) hp.2 (fun y hy => ?_)
      have h1 := hp.1 y hy
      have h2 := hb y (List.mem_cons_of_mem _ hy)
      rw [List.length_cons] at h2
      omega
    have e : x = a := by
      by_cases h0 : t.length = 0
      · rw [List.length_cons] at hx; omega
      · have hm : (a + 1) ∈ t := by
          rw [ht]
          exact List.mem_map.2 ⟨0, by simp only [List.mem_range, List.length_map, List.length_range]; omega, by simp⟩
        have := hp.1 _ hm
        omega
    subst e
    rw [List.length_cons, List.range_succ_eq_map, List.map_cons, List.map_map]
    congr 1
    · simp
    · conv => lhs; rw [ht]
      refine List.map_congr_left (fun j _ => ?_)
      simp only [Function.comp_apply]
      omega
theorem orderB_iff (l : List Int) (n : Int) : orderB l n = true ↔ (l.length : Int) = n ∧ (∀ x ∈ l, 0 ≤ x ∧ x ≤ n - 1) ∧ l.Nodup := by
  unfold orderB
  rw [Bool.and_eq_true, decide_eq_true_eq, decide_eq_true_eq]
  constructor
  · rintro ⟨h1, h2⟩
    have hp := sortI_perm l
    refine ⟨h1, fun x hx => ?_, ?_⟩
    · have hx' := hp.mem_iff.2 hx
      rw [h2] at hx'
      obtain ⟨j, hj, rfl⟩ := List.mem_map.1 hx'
      rw [List.mem_range] at hj
      omega
    · refine hp.nodup_iff.1 ?_
      rw [h2]
      unfold List.Nodup
      rw [List.pairwise_map]
      exact List.Pairwise.imp (fun h => by omega) (List.pairwise_lt_range (n := l.length))
  · rintro ⟨h1, h2, h3⟩
    refine ⟨h1, ?_⟩
    have hp := sortI_perm l
    have hn : (sortI l).Nodup := hp.nodup_iff.2 h3
    have hlt : (sortI l).Pairwise (· < ·) := by
      have a := (sortI_le l)
      exact (List.Pairwise.and a hn).imp (fun h => by omega)
    have := rising_range (sortI l) 0 hlt (fun x hx => by
      have := h2 x (hp.mem_iff.1 hx)
      rw [sortI_length]; omega)
    rw [this, sortI_length]
    refine List.map_congr_left (fun j _ => ?_)
    omega
theorem specOrder_ev (l : List Int) (n : Int) (h : l.length ≤ 1048576) (h0 : 0 ≤ n) (h1 : n ≤ 1048576) : Ev (fun k => spec_l03Order.f k l n) (orderB l n) := by
  unfold spec_l03Order.f
  refine Ev.upto (F := fun k (_ : Unit) i => spec_l03Order.l0 k l n i) (n := l.length) (r := orderB l n) (fun i _ => (∀ x ∈ l.take i, 0 ≤ x ∧ x ≤ n - 1) ∧ (l.take i).Nodup) ?_ ?_ 0 (Nat.zero_le _) () (by simp)
  · intro i s hi ⟨hr, hd⟩ ih
    refine Ev.succ ?_
    simp only [spec_l03Order.l0]
    refine Ev.pos (by omega) (Ev.pos (by omega) (Ev.bindc (in_spec _ _ _) ?_))
    have hrd : rd l (i : Int) = l.getD i 0 := rfl
    have hm : l.getD i 0 ∈ l := getD_mem l i 0 hi
    rw [wrap_id (by omega) (by omega), hrd, Int.toNat_natCast]
    by_cases hin : 0 ≤ l.getD i 0 ∧ l.getD i 0 ≤ n - 1
    · refine Ev.pos (by simp only [decide_eq_true hin.1, decide_eq_true hin.2]; rfl) (Ev.pos (by omega) (Ev.bind (specHas_ev _ _ (by rw [List.length_take]; omega)) ?_))
      by_cases hh : ((l.take i).any fun y => decide (y = l.getD i 0)) = true
      · refine Ev.pos hh (Ev.some ?_)
        refine Eq.symm (Bool.eq_false_iff.2 (fun hc => ?_))
        have hd2 := ((orderB_iff l n).1 hc).2.2
        have hd3 : (l.take (i + 1)).Nodup := List.Nodup.sublist (List.take_sublist _ _) hd2
        rw [take_succ l i 0 hi] at hd3
        obtain ⟨y, hy, he⟩ := List.any_eq_true.1 hh
        have hdis := (List.nodup_append.1 hd3).2.2
        exact hdis y hy _ (List.mem_singleton_self _) (of_decide_eq_true he)
      · refine Ev.neg hh ?_
        rw [wrap_succ hi (by omega)]
        refine ih () ?_
        rw [take_succ l i 0 hi]
        constructor
        · intro x hx
          rcases List.mem_append.1 hx with hx | hx
          · exact hr x hx
          · rw [List.mem_singleton] at hx; subst hx; exact hin
        · rw [List.nodup_append]
          refine ⟨hd, by simp, fun a ha b hb => ?_⟩
          rw [List.mem_singleton] at hb
          subst hb
          intro e
          exact hh (List.any_eq_true.2 ⟨a, ha, decide_eq_true e⟩)
    · refine Ev.neg (by simpa using hin) (Ev.some ?_)
      refine Eq.symm (Bool.eq_false_iff.2 (fun hc => ?_))
      exact hin (((orderB_iff l n).1 hc).2.1 _ hm)
  · intro s ⟨hr, hd⟩
    refine Ev.succ ?_
    simp only [spec_l03Order.l0]
    refine Ev.neg (by omega) (Ev.some ?_)
    rw [List.take_length] at hr hd
    by_cases e : (l.length : Int) = n
    · rw [(orderB_iff l n).2 ⟨e, hr, hd⟩, beq_iff_eq.2 e]
    · have : orderB l n = false := Bool.eq_false_iff.2 (fun hc => e ((orderB_iff l n).1 hc).1)
      rw [this]
      simpa using e
theorem szPolicy_ev (h : List (List Int)) (m : List Int) (a : Int) (h0 : 0 ≤ a) (h1 : a ≤ 1048576) (hl : h.length ≤ 9223372036854775807) (hi : ∀ x ∈ h, x.length ≤ 9223372036854775807) (hm : m.length ≤ 9223372036854775807) :
    Ev (fun k => laws_szPolicy.f k h m a) (if a < (h.length : Int) + (sumLen h : Int) + m.length then -1 else a - ((h.length : Int) + (sumLen h : Int) + m.length)) := by
  unfold laws_szPolicy.f
  refine Ev.bind (szInt64SS_ev h a h0 h1 hl hi) ?_
  by_cases hb : a < (h.length : Int) + (sumLen h : Int)
  · rw [if_pos hb]
    exact Ev.pos (by omega) (Ev.some (by rw [if_pos (by omega)]))
  · rw [if_neg hb]
    refine Ev.neg (by omega) (Ev.bindc (szInt64S_f m _ (by omega) (by omega) hm) ?_)
    by_cases hc : a - ((h.length : Int) + (sumLen h : Int)) < m.length
    · rw [if_pos hc]
      exact Ev.pos (by omega) (Ev.some (by rw [if_pos (by omega)]))
    · rw [if_neg hc]
      exact Ev.neg (by omega) (Ev.some (by rw [if_neg (by omega)]; omega))
theorem toPolicy_ev (h : List (List Int)) (m : List Int) (hl : h.length ≤ 1048576) (hi : ∀ x ∈ h, x.length ≤ 1048576) (hm : m.length ≤ 1048576) : Ev (fun k => laws_toPolicy.f k h m) (h, m) := by
  unfold laws_toPolicy.f
  have e := toInt64SS_ev h hl hi
  rw [List.map_id] at e
  exact Ev.bind e (Ev.bind (toInt64S_ev m hm) (Ev.some rfl))
theorem eqPolicy_ev (h : List (List Int)) (m : List Int) (hl : h.length ≤ 1048576) (hi : ∀ x ∈ h, x.length ≤ 1048576) (hm : m.length ≤ 1048576) : Ev (fun k => laws_eqPolicy.f k h m h m) true := by
  unfold laws_eqPolicy.f
  exact Ev.bind (eqInt64SS_ev h hl hi) (Ev.pos rfl (Ev.bind (eqInt64S_ev m hm) (Ev.pos rfl (Ev.some rfl))))
theorem specIs_ev (h : List (List Int)) (m : List Int) (hl : h.length ≤ 1048576) (hi : ∀ x ∈ h, x.length ≤ 1048576) (hm : m.length ≤ 1048576) : Ev (fun k => spec_l03Is.f k h m) (validB h m) := by
  have j0t : ∀ n, Ev (fun k => spec_l03Is.j0 k n true h m) false := by
    intro n
    refine Ev.succ ?_
    simp only [spec_l03Is.j0]
    exact Ev.pos (by simp) (Ev.some rfl)
  have l0 : h.length = m.length → Ev (fun k => spec_l03Is.l0 k (m.length : Int) 0 h m) (!(h.any fun y => !orderB y (m.length : Int))) := by
    intro he
    have key : ∀ d i, h.length - i = d → i ≤ h.length → Ev (fun k => spec_l03Is.l0 k (m.length : Int) (i : Int) h m) (!((h.drop i).any fun y => !orderB y (m.length : Int))) := by
      intro d
      induction d with
      | zero =>
        intro i hd hi'
        refine Ev.succ ?_
        simp only [spec_l03Is.l0]
        refine Ev.neg (by omega) (Ev.some ?_)
        rw [List.drop_eq_nil_of_le (by omega)]
        rfl
      | succ d ih =>
        intro i hd hi'
        refine Ev.succ ?_
        simp only [spec_l03Is.l0]
        have hrd : rd_L1 h (i : Int) = h.getD i [] := rfl
        rw [hrd, drop_cons h i [] (by omega), List.any_cons, wrap_succ (show i < h.length by omega) (by omega)]
        refine Ev.pos (by omega) (Ev.pos (by omega) (Ev.pos (by omega) (Ev.bind (specOrder_ev _ _ (hi _ (getD_mem h i [] (by omega))) (by omega) (by omega)) ?_)))
        by_cases hx : orderB (h.getD i []) (m.length : Int) = true
        · refine Ev.pos hx ?_
          rw [hx, Bool.not_true, Bool.false_or]
          exact ih (i + 1) (by omega) (by omega)
        · refine Ev.neg hx (Ev.some ?_)
          rw [Bool.eq_false_iff.2 hx]
          rfl
    simpa using key h.length 0 (by omega) (by omega)
  unfold spec_l03Is.f
  by_cases h1 : (m.length : Int) < 1
  · refine Ev.pos h1 ?_
    have : validB h m = false := by unfold validB; rw [decide_eq_false (show ¬ (1 ≤ m.length) by omega)]; rfl
    rw [this]; exact j0t _
  refine Ev.neg h1 ?_
  by_cases h2 : (m.length : Int) > 6
  · refine Ev.pos h2 ?_
    have : validB h m = false := by unfold validB; rw [decide_eq_false (show ¬ (m.length ≤ 6) by omega), Bool.and_false]; rfl
    rw [this]; exact j0t _
  refine Ev.neg h2 ?_
  by_cases h3 : (h.length : Int) = (m.length : Int)
  · refine Ev.pos h3 (Ev.bind (specOrder_ev m _ hm (by omega) (by omega)) ?_)
    have e : validB h m = (orderB m (m.length : Int) && !(h.any fun y => !orderB y (m.length : Int))) := by
      unfold validB
      rw [decide_eq_true (show 1 ≤ m.length by omega), decide_eq_true (show m.length ≤ 6 by omega), decide_eq_true h3]
      rfl
    rw [e]
    by_cases h4 : orderB m (m.length : Int) = true
    · rw [h4]
      refine Ev.succ ?_
      simp only [spec_l03Is.j0]
      exact Ev.neg (by simp) (l0 (by omega))
    · rw [Bool.eq_false_iff.2 h4]
      exact j0t _
  · refine Ev.neg h3 ?_
    have : validB h m = false := by unfold validB; rw [decide_eq_false h3, Bool.false_and, Bool.and_false]
    rw [this]; exact j0t _
theorem valid_facts {h : List (List Int)} {m : List Int} (hv : validB h m = true) : 1 ≤ m.length ∧ m.length ≤ 6 ∧ h.length = m.length ∧ orderB m (m.length : Int) = true ∧ ∀ y ∈ h, orderB y (m.length : Int) = true := by
  unfold validB at hv
  simp only [Bool.and_eq_true, decide_eq_true_eq] at hv
  obtain ⟨⟨a, b⟩, c, d, e⟩ := hv
  refine ⟨a, b, by omega, d, fun y hy => ?_⟩
  cases hb : orderB y (m.length : Int)
  · have : (h.any fun y => !orderB y (m.length : Int)) = true := List.any_eq_true.2 ⟨y, hy, by rw [hb]; rfl⟩
    rw [this] at e; cases e
  · rfl
theorem age_lt (c : List Int) (a : Int) : ageOf c a = -1 ∨ 0 ≤ ageOf c a ∧ ageOf c a < c.length := by
  have := xIdx_ge (fun y => decide (y = a)) c 0
  unfold ageOf
  omega
theorem ord_order {h : List (List Int)} {m : List Int} (hv : validB h m = true) (c : List Int) (hc : c.length = m.length) (a : Int) : orderB (stepOrd h m c a) (c.length : Int) = true := by
  obtain ⟨h1, h2, h3, h4, h5⟩ := valid_facts hv
  unfold stepOrd
  rw [hc]
  split
  · refine h5 _ (getD_mem h _ [] ?_)
    have := age_lt c a
    omega
  · exact h4
theorem okStep_valid {h : List (List Int)} {m : List Int} (hv : validB h m = true) (c : List Int) (hc : c.length = m.length) (a : Int) : okStep h m c a = true := by
  obtain ⟨h1, h2, h3, h4, h5⟩ := valid_facts hv
  obtain ⟨o1, o2, o3⟩ := (orderB_iff _ _).1 (ord_order hv c hc a)
  have := age_lt c a
  unfold okStep
  simp only [Bool.and_eq_true, decide_eq_true_eq, List.all_eq_true]
  refine ⟨⟨by omega, by omega⟩, by omega, by omega, fun x hx => ?_⟩
  have := o2 x hx
  omega
theorem stepV_length {h : List (List Int)} {m : List Int} (hv : validB h m = true) (c : List Int) (hc : c.length = m.length) (a : Int) : (stepV h m c a).1.length = m.length := by
  obtain ⟨o1, o2, o3⟩ := (orderB_iff _ _).1 (ord_order hv c hc a)
  unfold stepV
  rw [List.length_map]
  omega
theorem specStep_f {h : List (List Int)} {m : List Int} (hv : validB h m = true) (c : List Int) (hc : c.length = m.length) (a : Int) : spec_l03Step.f h m c a = some (stepV h m c a) := by
  unfold spec_l03Step.f
  rw [if_pos (okStep_valid hv c hc a)]
theorem permuted_ev (l o : List Int) (hl : o.length ≤ 1048576) (ho : ∀ j ∈ o, 0 ≤ j ∧ j < (l.length : Int)) : Ev (fun k => impl_permuted.f k l o) (o.map fun j => rd l j) := by
  unfold impl_permuted.f
  refine Ev.upto (F := fun k s i => impl_permuted.l0 k l s o (o.length : Int) i) (n := o.length) (r := o.map fun j => rd l j) (fun i s => s = (o.take i).map fun j => rd l j) ?_ ?_ 0 (Nat.zero_le _) _ (by simp)
  · intro i s hi hs ih
    have hsl : s.length ≤ 1048576 := by rw [hs, List.length_map, List.length_take]; omega
    have hrd : rd o (i : Int) = o.getD i 0 := rfl
    have hj := ho _ (getD_mem o i 0 hi)
    refine Ev.succ ?_
    simp only [impl_permuted.l0]
    rw [hrd, wrap_succ hi (by omega)]
    refine Ev.pos (by omega) (Ev.pos (by omega) (Ev.pos (by omega) (Ev.pos hj.1 (Ev.pos hj.2 (Ev.pos (by omega) (ih _ ?_))))))
    rw [take_succ o i 0 hi, List.map_append, hs]
    rfl
  · intro s hs
    refine Ev.succ ?_
    simp only [impl_permuted.l0]
    exact Ev.neg (by omega) (Ev.some (by rw [hs, List.take_length]))
theorem implStep_ev {h : List (List Int)} {m : List Int} (hv : validB h m = true) (c : List Int) (hc : c.length = m.length) (a : Int) : ∃ d, Ev (fun k => impl_Policy_step.f k h m c a) ((stepV h m c a).1, d, (stepV h m c a).2) := by
  obtain ⟨h1, h2, h3, h4, h5⟩ := valid_facts hv
  obtain ⟨o1, o2, o3⟩ := (orderB_iff _ _).1 (ord_order hv c hc a)
  have hage := age_lt c a
  unfold impl_Policy_step.f
  have hix : Ev (fun k => slices_Index_int64_int64.f k c a) (ageOf c a) := xInIdx_ev c a (by omega)
  by_cases hp : 0 ≤ ageOf c a
  · refine ⟨-1, Ev.bind hix (Ev.pos hp (Ev.pos hp (Ev.pos (by omega) ?_)))⟩
    have e1 : stepOrd h m c a = rd_L1 h (ageOf c a) := by unfold stepOrd; rw [if_pos hp]; rfl
    have e2 : stepOld c a = c := by unfold stepOld; rw [if_pos hp]
    rw [← e1]
    refine Ev.bind (permuted_ev c _ (by omega) (fun j hj => by have := o2 j hj; omega)) (Ev.some ?_)
    unfold stepV
    rw [e2, decide_eq_true hp]
  · refine ⟨rd c ((c.length : Int) - 1), Ev.bind hix (Ev.neg hp (Ev.bindc (show slices_Clone_int64_int64.f c = some c by unfold slices_Clone_int64_int64.f; rw [if_pos (by omega)]) ?_))⟩
    rw [wrap_id (by omega) (by omega)]
    refine Ev.pos (by omega) (Ev.pos (by omega) ?_)
    have e1 : stepOrd h m c a = m := by unfold stepOrd; rw [if_neg hp]
    have e2 : stepOld c a = c.set ((c.length : Int) - 1).toNat a := by
      unfold stepOld; rw [if_neg hp]
      congr 1; omega
    rw [← e2]
    refine Ev.bind (permuted_ev _ m (by omega) (fun j hj => by rw [stepOld_length]; rw [e1] at o2; have := o2 j hj; omega)) (Ev.some ?_)
    unfold stepV
    rw [e1, decide_eq_false hp]
theorem implIs_f (h : List (List Int)) (m : List Int) (hi : ∀ x ∈ h, x.length ≤ 1048576) (hm : m.length ≤ 1048576) : impl_ValidPolicy.f h m = some (validB h m) := by
  unfold impl_ValidPolicy.f
  rw [if_pos ⟨hm, hi⟩]
theorem specEmpty_ev (h : List (List Int)) (m : List Int) (hm : m.length ≤ 1048576) : Ev (fun k => spec_l03Empty.f k h m) (List.replicate m.length (-1)) := by
  unfold spec_l03Empty.f
  refine Ev.upto (F := fun k s i => spec_l03Empty.l0 k s i h m) (n := m.length) (r := List.replicate m.length (-1)) (fun i s => s = List.replicate i (-1)) ?_ ?_ 0 (Nat.zero_le _) _ (by simp)
  · intro i s hi hs ih
    refine Ev.succ ?_
    simp only [spec_l03Empty.l0]
    rw [wrap_succ hi (by omega)]
    refine Ev.pos (by omega) (Ev.pos (by rw [hs, List.length_replicate]; omega) (ih _ ?_))
    rw [hs, List.replicate_succ']
  · intro s hs
    refine Ev.succ ?_
    simp only [spec_l03Empty.l0]
    exact Ev.neg (by omega) (Ev.some hs)
theorem implEmpty_f {h : List (List Int)} {m : List Int} (hv : validB h m = true) : impl_Policy_empty.f h m = some (List.replicate m.length (-1)) := by
  obtain ⟨h1, h2, -⟩ := valid_facts hv
  unfold impl_Policy_empty.f
  rw [if_pos ⟨h1, by omega⟩]
def usesB (l : List Int) : Bool := decide (l.length ≤ 60) && xAll l 0 63
theorem specAddress_f (a : Int) : spec_l02Address.f a = some (decide (0 ≤ a) && decide (a ≤ 63)) := by
  unfold spec_l02Address.f
  rw [in_spec]
  rfl
theorem specUses_ev (l : List Int) (hl : l.length ≤ 1048576) : Ev (fun k => spec_l02Uses.f k l) (usesB l) := by
  unfold spec_l02Uses.f
  refine Ev.upto (F := fun k (_ : Unit) i => spec_l02Uses.l0 k l i) (n := l.length) (r := usesB l) (fun i _ => ((l.take i).any fun n => !(decide (0 ≤ n) && decide (n ≤ 63))) = false) ?_ ?_ 0 (Nat.zero_le _) () (by simp)
  · intro i s hi hs ih
    refine Ev.succ ?_
    simp only [spec_l02Uses.l0]
    have hrd : rd l (i : Int) = l.getD i 0 := rfl
    rw [hrd, specAddress_f, wrap_succ hi (by omega)]
    refine Ev.pos (by omega) (Ev.pos (by omega) (Ev.bindc rfl ?_))
    by_cases hx : (decide (0 ≤ l.getD i 0) && decide (l.getD i 0 ≤ 63)) = true
    · refine Ev.pos hx (ih () ?_)
      rw [take_succ l i 0 hi, List.any_append, hs, List.any_cons, hx]
      rfl
    · refine Ev.neg hx (Ev.some ?_)
      have : (l.any fun n => !(decide (0 ≤ n) && decide (n ≤ 63))) = true := List.any_eq_true.2 ⟨_, getD_mem l i 0 hi, by rw [Bool.eq_false_iff.2 hx]; rfl⟩
      unfold usesB xAll
      rw [this, Bool.not_true, Bool.and_false]
  · intro s hs
    refine Ev.succ ?_
    simp only [spec_l02Uses.l0]
    refine Ev.neg (by omega) (Ev.some ?_)
    rw [List.take_length] at hs
    unfold usesB xAll
    rw [hs, Bool.not_false, Bool.and_true]
    exact decide_eq_decide.2 (by omega)
theorem implUses_f (l : List Int) : impl_ValidUses.f l = some (usesB l) := by
  unfold impl_ValidUses.f impl_allIn.f usesB
  by_cases h : l.length ≤ 60
  · rw [if_pos (by omega), decide_eq_true h]; rfl
  · rw [if_neg (by omega), decide_eq_false h]; rfl
theorem specInside_ev (p q : List Int) (hp : p.length ≤ 1048576) (hq : q.length ≤ 1048576) : Ev (fun k => spec_l04Inside.f k p q) (isInB p q) := by
  unfold spec_l04Inside.f
  have key : ∀ d i, p.length - i = d → i ≤ p.length → Ev (fun k => spec_l04Inside.l0 k p q (i : Int)) (isInB (p.drop i) q) := by
    intro d
    induction d with
    | zero =>
      intro i hd hi
      refine Ev.succ ?_
      simp only [spec_l04Inside.l0]
      refine Ev.neg (by omega) (Ev.some ?_)
      rw [List.drop_eq_nil_of_le (by omega)]
      rfl
    | succ d ih =>
      intro i hd hi
      refine Ev.succ ?_
      simp only [spec_l04Inside.l0]
      have hrd : rd p (i : Int) = p.getD i 0 := rfl
      have hn := ih (i + 1) (by omega) (by omega)
      rw [hrd, drop_cons p i 0 (by omega), wrap_succ (show i < p.length by omega) (by omega)]
      have e : isInB (p.getD i 0 :: p.drop (i + 1)) q = (!inB q (p.getD i 0) && isInB (p.drop (i + 1)) q) := by
        unfold isInB
        rw [List.any_cons, Bool.not_or]
      rw [e]
      refine Ev.pos (by omega) (Ev.pos (by omega) ?_)
      by_cases h0 : p.getD i 0 ≥ 0
      · refine Ev.pos h0 (Ev.bind (specHas_ev q _ hq) ?_)
        have e2 : inB q (p.getD i 0) = !(q.any fun y => decide (y = p.getD i 0)) := by
          unfold inB
          rw [decide_eq_true h0]; rfl
        rw [e2, Bool.not_not]
        by_cases hh : (q.any fun y => decide (y = p.getD i 0)) = true
        · refine Ev.pos hh ?_
          rw [hh]; exact hn
        · refine Ev.neg hh (Ev.some ?_)
          rw [Bool.eq_false_iff.2 hh]; rfl
      · refine Ev.neg h0 ?_
        have e2 : inB q (p.getD i 0) = false := by
          unfold inB
          rw [decide_eq_false h0]; rfl
        rw [e2]; exact hn
  simpa using key p.length 0 (by omega) (by omega)
theorem implIsIn_f (p q : List Int) (hq : q.length ≤ 1048576) : impl_isIn.f p q = some (isInB p q) := by
  unfold impl_isIn.f
  rw [if_pos hq]
theorem break_ev {h1 : List (List Int)} {m1 : List Int} {h2 : List (List Int)} {m2 : List Int} (u : List Int) (hv1 : validB h1 m1 = true) (hv2 : validB h2 m2 = true) (hu : u.length ≤ 1048576) :
    ∃ v : Int, -1 ≤ v ∧ Ev (fun k => spec_l04Break.f k h1 m1 h2 m2 u) v ∧ Ev (fun k => impl_firstBreak.f k h1 m1 h2 m2 u) v := by
  have f1 := valid_facts hv1
  have f2 := valid_facts hv2
  have key : ∀ d i c1 c2, u.length - i = d → i ≤ u.length → c1.length = m1.length → c2.length = m2.length →
      ∃ v : Int, -1 ≤ v ∧ Ev (fun k => spec_l04Break.l0 k u c1 c2 (i : Int) h1 m1 h2 m2) v ∧ Ev (fun k => impl_firstBreak.l0 k c1 c2 u (u.length : Int) (i : Int) h1 m1 h2 m2) v := by
    intro d
    induction d with
    | zero =>
      intro i c1 c2 hd hi hc1 hc2
      refine ⟨-1, by omega, ?_, ?_⟩
      · refine Ev.succ ?_
        simp only [spec_l04Break.l0]
        exact Ev.neg (by omega) (Ev.some rfl)
      · refine Ev.succ ?_
        simp only [impl_firstBreak.l0]
        exact Ev.neg (by omega) (Ev.some rfl)
    | succ d ih =>
      intro i c1 c2 hd hi hc1 hc2
      have hlt : i < u.length := by omega
      have g0 : (0 : Int) ≤ (i : Int) := Int.natCast_nonneg i
      have g1 : (i : Int) < (u.length : Int) := Int.ofNat_lt.2 hlt
      have hd' : u.length - (i + 1) = d := by omega
      have w := wrap_succ hlt (Nat.le_trans hu (by decide))
      have p1 : m1.length ≤ 1048576 := Nat.le_trans f1.2.1 (by decide)
      have p2 : m2.length ≤ 1048576 := Nat.le_trans f2.2.1 (by decide)
      have l1 := stepV_length hv1 c1 hc1 (rd u (i : Int))
      have l2 := stepV_length hv2 c2 hc2 (rd u (i : Int))
      obtain ⟨d1, s1⟩ := implStep_ev hv1 c1 hc1 (rd u (i : Int))
      obtain ⟨d2, s2⟩ := implStep_ev hv2 c2 hc2 (rd u (i : Int))
      have t1 := specStep_f hv1 c1 hc1 (rd u (i : Int))
      have t2 := specStep_f hv2 c2 hc2 (rd u (i : Int))
      generalize stepV h1 m1 c1 (rd u (i : Int)) = r1 at l1 s1 t1
      generalize stepV h2 m2 c2 (rd u (i : Int)) = r2 at l2 s2 t2
      obtain ⟨v, hv, n1, n2⟩ := ih (i + 1) r1.1 r2.1 hd' hlt l1 l2
      have q1 : r1.1.length ≤ 1048576 := l1 ▸ p1
      have q2 : r2.1.length ≤ 1048576 := l2 ▸ p2
      have si := specInside_ev r1.1 r2.1 q1 q2
      have ii := implIsIn_f r1.1 r2.1 q2
      by_cases hin : isInB r1.1 r2.1 = true
      · refine ⟨v, hv, ?_, ?_⟩
        · refine Ev.succ ?_
          simp only [spec_l04Break.l0]
          rw [w]
          refine Ev.pos g1 (Ev.pos g0 (Ev.bindc t1 (Ev.bindc t2 ?_)))
          refine Ev.bind si (Ev.pos hin ?_)
          exact n1
        · refine Ev.succ ?_
          simp only [impl_firstBreak.l0]
          rw [w]
          refine Ev.pos g1 (Ev.pos g0 (Ev.pos g1 (Ev.bind s1 (Ev.bind s2 ?_))))
          refine Ev.bindc ii (Ev.pos hin ?_)
          exact n2
      · refine ⟨i, Int.le_trans (by decide) g0, ?_, ?_⟩
        · refine Ev.succ ?_
          simp only [spec_l04Break.l0]
          refine Ev.pos g1 (Ev.pos g0 (Ev.bindc t1 (Ev.bindc t2 ?_)))
          exact Ev.bind si (Ev.neg hin (Ev.some rfl))
        · refine Ev.succ ?_
          simp only [impl_firstBreak.l0]
          refine Ev.pos g1 (Ev.pos g0 (Ev.pos g1 (Ev.bind s1 (Ev.bind s2 ?_))))
          exact Ev.bindc ii (Ev.neg hin (Ev.some rfl))
  obtain ⟨v, hv, a, b⟩ := key u.length 0 (List.replicate m1.length (-1)) (List.replicate m2.length (-1)) (by omega) (by omega) List.length_replicate List.length_replicate
  refine ⟨v, hv, ?_, ?_⟩
  · unfold spec_l04Break.f
    exact Ev.bind (specEmpty_ev h1 m1 (by omega)) (Ev.bind (specEmpty_ev h2 m2 (by omega)) a)
  · unfold impl_firstBreak.f
    exact Ev.bindc (implEmpty_f hv1) (Ev.bindc (implEmpty_f hv2) b)
def inclB (h1 : List (List Int)) (m1 : List Int) (h2 : List (List Int)) (m2 u : List Int) : Bool := validB h1 m1 && (validB h2 m2 && usesB u)
theorem isInclusion_f (h1 : List (List Int)) (m1 : List Int) (h2 : List (List Int)) (m2 u : List Int) (hi1 : ∀ x ∈ h1, x.length ≤ 1048576) (hm1 : m1.length ≤ 1048576) (hi2 : ∀ x ∈ h2, x.length ≤ 1048576) (hm2 : m2.length ≤ 1048576) : impl_isInclusion.f h1 m1 h2 m2 u = some (inclB h1 m1 h2 m2 u) := by
  unfold impl_isInclusion.f inclB
  rw [implIs_f h1 m1 hi1 hm1, implIs_f h2 m2 hi2 hm2, implUses_f]
  cases validB h1 m1 <;> cases validB h2 m2 <;> rfl

theorem both_ev (h1 : List (List Int)) (m1 : List Int) (h2 : List (List Int)) (m2 u : List Int) (hl1 : h1.length ≤ 1048576) (hi1 : ∀ x ∈ h1, x.length ≤ 1048576) (hm1 : m1.length ≤ 1048576) (hl2 : h2.length ≤ 1048576) (hi2 : ∀ x ∈ h2, x.length ≤ 1048576) (hm2 : m2.length ≤ 1048576) (hu : u.length ≤ 1048576) :
    ∃ v, Ev (fun k => spec_FirstBreak.f k h1 m1 h2 m2 u) v ∧ Ev (fun k => impl_FirstBreak.f k h1 m1 h2 m2 u) v := by
  have i0 := isInclusion_f h1 m1 h2 m2 u hi1 hm1 hi2 hm2
  have j0t : Ev (fun k => spec_FirstBreak.j0 k u true h1 m1 h2 m2) (0, false) := by
    refine Ev.succ ?_
    simp only [spec_FirstBreak.j0]
    exact Ev.pos (by simp) (Ev.some rfl)
  unfold spec_FirstBreak.f impl_FirstBreak.f
  by_cases v1 : validB h1 m1 = true
  · by_cases v2 : validB h2 m2 = true
    · by_cases v3 : usesB u = true
      · obtain ⟨v, hv, a, b⟩ := break_ev u v1 v2 hu
        have ii : inclB h1 m1 h2 m2 u = true := by unfold inclB; rw [v1, v2, v3]; rfl
        have sp : ∀ r : Int × Bool, Ev (fun k => (spec_l04Break.f k h1 m1 h2 m2 u).bind fun t187 => ((spec_l00Max.f t187 0).bind fun t188 => (some (t188, decide (t187 ≥ 0))))) r → Ev (fun k => (spec_l03Is.f k h1 m1).bind fun t184 => (if t184 = true then ((spec_l03Is.f k h2 m2).bind fun t185 => (if t185 = true then ((spec_l02Uses.f k u).bind fun t186 => (spec_FirstBreak.j0 k u (!t186) h1 m1 h2 m2)) else (spec_FirstBreak.j0 k u true h1 m1 h2 m2))) else (spec_FirstBreak.j0 k u true h1 m1 h2 m2))) r := by
          intro r hr
          refine Ev.bind (specIs_ev h1 m1 hl1 hi1 hm1) (Ev.pos v1 (Ev.bind (specIs_ev h2 m2 hl2 hi2 hm2) (Ev.pos v2 (Ev.bind (specUses_ev u hu) ?_))))
          rw [v3]
          refine Ev.succ ?_
          simp only [spec_FirstBreak.j0]
          exact Ev.neg (by simp) hr
        by_cases hn : v < 0
        · refine ⟨(0, false), sp _ (Ev.bind a (Ev.bindc (show spec_l00Max.f v 0 = some 0 by unfold spec_l00Max.f; simp; omega) (Ev.some ?_))), Ev.bindc i0 (Ev.pos ii (Ev.bind b (Ev.pos hn (Ev.some rfl))))⟩
          rw [decide_eq_false (by omega)]
        · refine ⟨(v, true), sp _ (Ev.bind a (Ev.bindc (show spec_l00Max.f v 0 = some v by unfold spec_l00Max.f; simp; omega) (Ev.some ?_))), Ev.bindc i0 (Ev.pos ii (Ev.bind b (Ev.neg hn (Ev.some rfl))))⟩
          rw [decide_eq_true (by omega)]
      · have v3' := Bool.eq_false_iff.2 v3
        exact ⟨(0, false), Ev.bind (specIs_ev h1 m1 hl1 hi1 hm1) (Ev.pos v1 (Ev.bind (specIs_ev h2 m2 hl2 hi2 hm2) (Ev.pos v2 (Ev.bind (specUses_ev u hu) (by rw [v3']; exact j0t))))), Ev.bindc i0 (Ev.neg (by unfold inclB; rw [v3']; simp) (Ev.some rfl))⟩
    · exact ⟨(0, false), Ev.bind (specIs_ev h1 m1 hl1 hi1 hm1) (Ev.pos v1 (Ev.bind (specIs_ev h2 m2 hl2 hi2 hm2) (Ev.neg v2 j0t))), Ev.bindc i0 (Ev.neg (by unfold inclB; rw [Bool.eq_false_iff.2 v2]; simp) (Ev.some rfl))⟩
  · exact ⟨(0, false), Ev.bind (specIs_ev h1 m1 hl1 hi1 hm1) (Ev.neg v1 j0t), Ev.bindc i0 (Ev.neg (by unfold inclB; rw [Bool.eq_false_iff.2 v1]; simp) (Ev.some rfl))⟩

theorem FnExactFirstBreak : laws_FnExactFirstBreak.Pure := by
  intro h1 m1 h2 m2 u ⟨hl1, he1⟩ ⟨hm1, _⟩ ⟨hl2, he2⟩ ⟨hm2, _⟩ ⟨hu, _⟩
  refine Ev.rounds ?_
  unfold laws_FnExactFirstBreak.f
  by_cases hb : (u.length : Int) > 1048576
  · exact Ev.pos hb (Ev.some rfl)
  refine Ev.neg hb (Ev.bind (szPolicy_ev h1 m1 1048576 (by omega) (by omega) hl1 (fun x hx => (he1 x hx).1) hm1) ?_)
  by_cases hb1 : (1048576 : Int) < (h1.length : Int) + (sumLen h1 : Int) + m1.length
  · rw [if_pos hb1]
    exact Ev.pos (by omega) (Ev.some rfl)
  rw [if_neg hb1]
  refine Ev.neg (by omega) (Ev.bind (szPolicy_ev h2 m2 _ (by omega) (by omega) hl2 (fun x hx => (he2 x hx).1) hm2) ?_)
  by_cases hb2 : (1048576 : Int) - ((h1.length : Int) + (sumLen h1 : Int) + m1.length) < (h2.length : Int) + (sumLen h2 : Int) + m2.length
  · rw [if_pos hb2]
    exact Ev.pos (by omega) (Ev.some rfl)
  rw [if_neg hb2]
  have L1 : h1.length ≤ 1048576 := by omega
  have L2 : h2.length ≤ 1048576 := by omega
  have M1 : m1.length ≤ 1048576 := by omega
  have M2 : m2.length ≤ 1048576 := by omega
  have U : u.length ≤ 1048576 := by omega
  have I1 : ∀ x ∈ h1, x.length ≤ 1048576 := fun x hx => by have := sumLen_mem hx; omega
  have I2 : ∀ x ∈ h2, x.length ≤ 1048576 := fun x hx => by have := sumLen_mem hx; omega
  obtain ⟨v, a, b⟩ := both_ev h1 m1 h2 m2 u L1 I1 M1 L2 I2 M2 U
  refine Ev.neg (by omega) (Ev.bind (toPolicy_ev h1 m1 L1 I1 M1) (Ev.bind (toPolicy_ev h2 m2 L2 I2 M2) (Ev.bind (toInt64S_ev u U) (Ev.bind a (Ev.bind (toPolicy_ev h1 m1 L1 I1 M1) (Ev.bind (toPolicy_ev h2 m2 L2 I2 M2) (Ev.bind (toInt64S_ev u U) (Ev.bind b (Ev.pos rfl ?_)))))))))
  refine Ev.succ ?_
  simp only [laws_FnExactFirstBreak.j0]
  exact Ev.neg (by simp) (Ev.bind (toPolicy_ev h1 m1 L1 I1 M1) (Ev.bind (eqPolicy_ev h1 m1 L1 I1 M1) (Ev.pos rfl (Ev.bind (toPolicy_ev h2 m2 L2 I2 M2) (Ev.bind (eqPolicy_ev h2 m2 L2 I2 M2) (Ev.pos rfl (Ev.bind (toInt64S_ev u U) (Ev.bind (eqInt64S_ev u U) (Ev.pos rfl (Ev.some rfl))))))))))

end Go.Proofs.Ythahiogiafibmaa.Pure
