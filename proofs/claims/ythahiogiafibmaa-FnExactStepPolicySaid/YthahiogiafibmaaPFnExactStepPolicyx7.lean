-- Printed by this session's own program (wip/tools/xprint.py) over the kit's print; not trusted: Lean checks it.
import Derived.Test.YthahiogiafibmaaPFnExactStepPolicyx0
import Derived.Test.YthahiogiafibmaaPFnExactStepPolicyx1
import Derived.Test.YthahiogiafibmaaPFnExactStepPolicyx2
import Derived.Test.YthahiogiafibmaaPFnExactStepPolicyx3
import Derived.Test.YthahiogiafibmaaPFnExactStepPolicyx4
import Derived.Test.YthahiogiafibmaaPFnExactStepPolicyx5
import Derived.Test.YthahiogiafibmaaPFnExactStepPolicyx6
namespace Go.Proofs.Ythahiogiafibmaa.PFnExactStepPolicy
open Go.RowKit Go.Proofs.YthahiogiafibmaaW.PrintWords Go.Proofs.YthahiogiafibmaaW.PrintLast Go.Proofs.YthahiogiafibmaaW.PrintMore
attribute [local go_sem] max2_int min2_int max_two min_two max_three min_three max_four min_four   -- for this text's walks alone
set_option linter.unusedVariables false
set_option linter.unusedSimpArgs false

/-! ### laws_FnExactStepPolicy: function 4 -/
theorem in_impl (a b c : Int) : impl_inRange.f a b c = some (decide (b ≤ a) && decide (a ≤ c)) := by
  unfold impl_inRange.f
  by_cases h : b ≤ a <;> simp [h]
theorem in_spec (a b c : Int) : spec_l00In.f a b c = some (decide (b ≤ a) && decide (a ≤ c)) := by
  unfold spec_l00In.f
  by_cases h : b ≤ a <;> simp [h]
def sumLen {α : Type} (l : List (List α)) : Nat := (l.map List.length).sum
theorem sumLen_cons {α : Type} (x : List α) (l : List (List α)) : sumLen (x :: l) = x.length + sumLen l := by simp [sumLen]
theorem sumLen_mem {α : Type} {l : List (List α)} {x : List α} (h : x ∈ l) : x.length ≤ sumLen l := by
  induction l with
  | nil => simp at h
  | cons y l ih =>
    rw [sumLen_cons]
    rcases List.mem_cons.1 h with rfl | h
    · omega
    · have := ih h; omega
theorem getD_mem {α : Type} (l : List α) (i : Nat) (z : α) (h : i < l.length) : l.getD i z ∈ l := by
  rw [getD_lt l i z h]; exact List.getElem_mem h
theorem sumLen_le {α : Type} (l : List (List α)) (m : Nat) (h : ∀ x ∈ l, x.length ≤ m) : sumLen l ≤ l.length * m := by
  induction l with
  | nil => simp [sumLen]
  | cons y l ih =>
    rw [sumLen_cons, List.length_cons, Nat.succ_mul]
    have h1 := h y List.mem_cons_self
    have h2 := ih (fun x hx => h x (List.mem_cons_of_mem _ hx))
    omega
/-- n rising numbers from a on. -/
def cnt (a : Int) (n : Nat) : List Int := (List.range n).map fun (j : Nat) => a + (j : Int)
theorem cnt_length (a : Int) (n : Nat) : (cnt a n).length = n := by simp [cnt]
theorem cnt_succ (a : Int) (n : Nat) : cnt a (n + 1) = cnt a n ++ [a + (n : Int)] := by simp [cnt, List.range_succ]
theorem cnt_getD (a : Int) (n i : Nat) (h : i < n) : (cnt a n).getD i 0 = a + (i : Int) := by
  simp [cnt, List.getD_eq_getElem?_getD, h]
theorem set_mark {α : Type} (A l : List α) (i : Nat) (v : α) (h : i = A.length) (hi : i < l.length) : (A ++ l.drop i).set i v = (A ++ [v]) ++ l.drop (i + 1) := by
  subst h
  rw [List.set_append_right _ _ (Nat.le_refl _), Nat.sub_self, List.drop_eq_getElem_cons hi, List.set_cons_zero]
  simp
theorem szInt64S_f (l : List Int) (a : Int) (h0 : 0 ≤ a) (h1 : a ≤ 1048576) (hl : l.length ≤ 9223372036854775807) : laws_szInt64S.f l a = some (if a < l.length then -1 else a - l.length) := by
  unfold laws_szInt64S.f
  rw [wrap_id (by omega) (by omega)]
  by_cases h : a < l.length
  · rw [if_pos (by omega), if_pos h]
  · rw [if_neg (by omega), if_neg h]
theorem szInt64SS_ev (l : List (List Int)) (a : Int) (h0 : 0 ≤ a) (h1 : a ≤ 1048576) (hl : l.length ≤ 9223372036854775807) (hi : ∀ x ∈ l, x.length ≤ 9223372036854775807) :
    Ev (fun k => laws_szInt64SS.f k l a) (if a < (l.length : Int) + (sumLen l : Int) then -1 else a - ((l.length : Int) + (sumLen l : Int))) := by
  unfold laws_szInt64SS.f
  rw [wrap_id (by omega) (by omega)]
  by_cases h : a < l.length
  · refine Ev.pos (by omega) (Ev.some ?_)
    rw [if_pos (by omega)]
  · refine Ev.neg (by omega) ?_
    have key : ∀ d i (b : Int), l.length - i = d → i ≤ l.length → 0 ≤ b → b ≤ 1048576 → Ev (fun k => laws_szInt64SS.l0 k l b (i : Int)) (if b < (sumLen (l.drop i) : Int) then -1 else b - (sumLen (l.drop i) : Int)) := by
      intro d
      induction d with
      | zero =>
        intro i b hd hi' hb0 hb1
        refine Ev.succ ?_
        simp only [laws_szInt64SS.l0]
        refine Ev.neg (by omega) (Ev.some ?_)
        rw [List.drop_eq_nil_of_le (by omega)]
        simp [sumLen]; omega
      | succ d ih =>
        intro i b hd hi' hb0 hb1
        refine Ev.succ ?_
        simp only [laws_szInt64SS.l0]
        have hx := hi _ (getD_mem l i [] (by omega))
        refine Ev.pos (by omega) (Ev.pos (by omega) (Ev.bindc (szInt64S_f (l.getD i []) b hb0 hb1 hx) ?_))
        rw [drop_cons l i [] (by omega), sumLen_cons]
        generalize l.getD i [] = x at hx ⊢
        by_cases hx2 : b < x.length
        · rw [if_pos hx2]
          refine Ev.pos (by omega) (Ev.some ?_)
          rw [if_pos (by omega)]
        · rw [if_neg hx2]
          refine Ev.neg (by omega) ?_
          rw [wrap_succ (show i < l.length by omega) (by omega)]
          have := ih (i + 1) (b - x.length) (by omega) (by omega) (by omega) (by omega)
          rw [show (if b < ((x.length + sumLen (l.drop (i + 1)) : Nat) : Int) then (-1 : Int) else b - ((x.length + sumLen (l.drop (i + 1)) : Nat) : Int)) = (if b - x.length < (sumLen (l.drop (i + 1)) : Int) then (-1 : Int) else b - x.length - (sumLen (l.drop (i + 1)) : Int)) by split <;> split <;> omega]
          exact this
    have := key l.length 0 (a - l.length) (by omega) (by omega) (by omega) (by omega)
    rw [List.drop_zero] at this
    rw [show (if a < (l.length : Int) + (sumLen l : Int) then (-1 : Int) else a - ((l.length : Int) + (sumLen l : Int))) = (if a - l.length < (sumLen l : Int) then (-1 : Int) else a - l.length - (sumLen l : Int)) by split <;> split <;> omega]
    exact this
theorem toInt64S_ev (l : List Int) (h : l.length ≤ 1048576) : Ev (fun k => laws_toInt64S.f k l) l := by
  unfold laws_toInt64S.f
  refine Ev.pos (by omega) (Ev.pos (by omega) ?_)
  refine Ev.upto (F := fun k s i => laws_toInt64S.l0 k l s i) (n := l.length) (r := l) (fun i s => s = (l.take i).map id ++ List.replicate (l.length - i) 0) ?_ ?_ 0 (Nat.zero_le _) _ (by simp)
  · intro i s hi hs ih
    have hsl : s.length = l.length := by rw [hs]; simp; omega
    refine Ev.succ ?_
    simp only [laws_toInt64S.l0]
    refine Ev.pos (by omega) (Ev.pos (by omega) (Ev.pos (by omega) ?_))
    rw [wrap_succ hi (by omega)]
    refine ih _ ?_
    rw [hs, Int.toNat_natCast]
    exact fill_next id l 0 0 i hi _ rfl
  · intro s hs
    refine Ev.succ ?_
    simp only [laws_toInt64S.l0]
    exact Ev.neg (by omega) (Ev.some (by rw [hs]; simp))
theorem toInt64SS_ev (l : List (List Int)) (h : l.length ≤ 1048576) (hi : ∀ x ∈ l, x.length ≤ 1048576) : Ev (fun k => laws_toInt64SS.f k l) (l.map id) := by
  unfold laws_toInt64SS.f
  refine Ev.pos (by omega) (Ev.pos (by omega) ?_)
  refine Ev.upto (F := fun k s i => laws_toInt64SS.l0 k l s i) (n := l.length) (r := l.map id) (fun i s => s = (l.take i).map id ++ List.replicate (l.length - i) []) ?_ ?_ 0 (Nat.zero_le _) _ (by simp)
  · intro i s hi' hs ih
    have hsl : s.length = l.length := by rw [hs]; simp; omega
    refine Ev.succ ?_
    simp only [laws_toInt64SS.l0]
    refine Ev.pos (by omega) (Ev.pos (by omega) (Ev.bind (toInt64S_ev (l.getD i []) (hi _ (getD_mem l i [] hi'))) (Ev.pos (by omega) ?_)))
    rw [wrap_succ hi' (by omega)]
    refine ih _ ?_
    rw [hs, Int.toNat_natCast]
    exact fill_next id l [] [] i hi' _ rfl
  · intro s hs
    refine Ev.succ ?_
    simp only [laws_toInt64SS.l0]
    exact Ev.neg (by omega) (Ev.some (by rw [hs]; simp))
theorem eqInt64S_ev (l : List Int) (h : l.length ≤ 1048576) : Ev (fun k => laws_eqInt64S.f k l l) true := by
  unfold laws_eqInt64S.f
  refine Ev.pos rfl ?_
  refine Ev.upto (F := fun k (_ : Unit) i => laws_eqInt64S.l0 k l l i) (n := l.length) (r := true) (fun _ _ => True) ?_ ?_ 0 (Nat.zero_le _) () trivial
  · intro i s hi _ ih
    refine Ev.succ ?_
    simp only [laws_eqInt64S.l0]
    refine Ev.pos (by omega) (Ev.pos (by omega) (Ev.pos (by omega) (Ev.pos (by simp) ?_)))
    rw [wrap_succ hi (by omega)]
    exact ih () trivial
  · intro s _
    refine Ev.succ ?_
    simp only [laws_eqInt64S.l0]
    exact Ev.neg (by omega) (Ev.some rfl)
theorem eqInt64SS_ev (l : List (List Int)) (h : l.length ≤ 1048576) (hi : ∀ x ∈ l, x.length ≤ 1048576) : Ev (fun k => laws_eqInt64SS.f k l l) true := by
  unfold laws_eqInt64SS.f
  refine Ev.pos rfl ?_
  refine Ev.upto (F := fun k (_ : Unit) i => laws_eqInt64SS.l0 k l l i) (n := l.length) (r := true) (fun _ _ => True) ?_ ?_ 0 (Nat.zero_le _) () trivial
  · intro i s hi' _ ih
    refine Ev.succ ?_
    simp only [laws_eqInt64SS.l0]
    refine Ev.pos (by omega) (Ev.pos (by omega) (Ev.pos (by omega) (Ev.bind (eqInt64S_ev (l.getD i []) (hi _ (getD_mem l i [] hi'))) (Ev.pos rfl ?_))))
    rw [wrap_succ hi' (by omega)]
    exact ih () trivial
  · intro s _
    refine Ev.succ ?_
    simp only [laws_eqInt64SS.l0]
    exact Ev.neg (by omega) (Ev.some rfl)
theorem specHas_ev (l : List Int) (x : Int) (h : l.length ≤ 1048576) : Ev (fun k => spec_l00Has.f k l x) (l.any fun y => decide (y = x)) := by
  unfold spec_l00Has.f
  have key : ∀ d i, l.length - i = d → i ≤ l.length → Ev (fun k => spec_l00Has.l0 k l x (i : Int)) ((l.drop i).any fun y => decide (y = x)) := by
    intro d
    induction d with
    | zero =>
      intro i hd hi
      refine Ev.succ ?_
      simp only [spec_l00Has.l0]
      refine Ev.neg (by omega) (Ev.some ?_)
      rw [List.drop_eq_nil_of_le (by omega)]
      rfl
    | succ d ih =>
      intro i hd hi
      refine Ev.succ ?_
      simp only [spec_l00Has.l0]
      refine Ev.pos (by omega) (Ev.pos (by omega) ?_)
      have hrd : rd l (i : Int) = l.getD i 0 := rfl
      rw [drop_cons l i 0 (by omega), List.any_cons, hrd, wrap_succ (show i < l.length by omega) (by omega)]
      by_cases hx : l.getD i 0 = x
      · exact Ev.pos hx (Ev.some (by rw [decide_eq_true hx]; rfl))
      · refine Ev.neg hx ?_
        have := ih (i + 1) (by omega) (by omega)
        rw [decide_eq_false hx, Bool.false_or]
        exact this
  have := key l.length 0 (by omega) (by omega)
  simpa using this
theorem rising_range : ∀ (s : List Int) (a : Int), s.Pairwise (· < ·) → (∀ x ∈ s, a ≤ x ∧ x ≤ a + s.length - 1) → s = (List.range s.length).map fun (j : Nat) => a + (j : Int)
  | [], _, _, _ => rfl
  | x :: t, a, hp, hb => by
    rw [List.pairwise_cons] at hp
    have hx := hb x List.mem_cons_self
    have ht : t = (List.range t.length).map fun (j : Nat) => (a + 1) + (j : Int) := by
      refine rising_range t (a + 1) hp.2 (fun y hy => ?_)
      have h1 := hp.1 y hy
      have h2 := hb y (List.mem_cons_of_mem _ hy)
      rw [List.length_cons] at h2
      omega
    have e : x = a := by
      by_cases h0 : t.length = 0
      · rw [List.length_cons] at hx; omega
      · have hm : (a + 1) ∈ t := by
          rw [ht]
          exact List.mem_map.2 ⟨0, by simp only [List.mem_range, List.length_map, List.length_range]; omega, by simp⟩
        have := hp.1 _ hm
        omega
    subst e
    rw [List.length_cons, List.range_succ_eq_map, List.map_cons, List.map_map]
    congr 1
    · simp
    · conv => lhs; rw [ht]
      refine List.map_congr_left (fun j _ => ?_)
      simp only [Function.comp_apply]
      omega
theorem orderB_iff (l : List Int) (n : Int) : orderB l n = true ↔ (l.length : Int) = n ∧ (∀ x ∈ l, 0 ≤ x ∧ x ≤ n - 1) ∧ l.Nodup := by
  unfold orderB
  rw [Bool.and_eq_true, decide_eq_true_eq, decide_eq_true_eq]
  constructor
  · rintro ⟨h1, h2⟩
    have hp := sortI_perm l
    refine ⟨h1, fun x hx => ?_, ?_⟩
    · have hx' := hp.mem_iff.2 hx
      rw [h2] at hx'
      obtain ⟨j, hj, rfl⟩ := List.mem_map.1 hx'
      rw [List.mem_range] at hj
      omega
    · refine hp.nodup_iff.1 ?_
      rw [h2]
      unfold List.Nodup
      rw [List.pairwise_map]
      exact List.Pairwise.imp (fun h => by omega) (List.pairwise_lt_range (n := l.length))
  · rintro ⟨h1, h2, h3⟩
    refine ⟨h1, ?_⟩
    have hp := sortI_perm l
    have hn : (sortI l).Nodup := hp.nodup_iff.2 h3
    have hlt : (sortI l).Pairwise (· < ·) := by
      have a := (sortI_le l)
      exact (List.Pairwise.and a hn).imp (fun h => by omega)
    have := rising_range (sortI l) 0 hlt (fun x hx => by
      have := h2 x (hp.mem_iff.1 hx)
      rw [sortI_length]; omega)
    rw [this, sortI_length]
    refine List.map_congr_left (fun j _ => ?_)
    omega
theorem specOrder_ev (l : List Int) (n : Int) (h : l.length ≤ 1048576) (h0 : 0 ≤ n) (h1 : n ≤ 1048576) : Ev (fun k => spec_l03Order.f k l n) (orderB l n) := by
  unfold spec_l03Order.f
  refine Ev.upto (F := fun k (_ : Unit) i => spec_l03Order.l0 k l n i) (n := l.length) (r := orderB l n) (fun i _ => (∀ x ∈ l.take i, 0 ≤ x ∧ x ≤ n - 1) ∧ (l.take i).Nodup) ?_ ?_ 0 (Nat.zero_le _) () (by simp)
  · intro i s hi ⟨hr, hd⟩ ih
    refine Ev.succ ?_
    simp only [spec_l03Order.l0]
    refine Ev.pos (by omega) (Ev.pos (by omega) (Ev.bindc (in_spec _ _ _) ?_))
    have hrd : rd l (i : Int) = l.getD i 0 := rfl
    have hm : l.getD i 0 ∈ l := getD_mem l i 0 hi
    rw [wrap_id (by omega) (by omega), hrd, Int.toNat_natCast]
    by_cases hin : 0 ≤ l.getD i 0 ∧ l.getD i 0 ≤ n - 1
    · refine Ev.pos (by simp only [decide_eq_true hin.1, decide_eq_true hin.2]; rfl) (Ev.pos (by omega) (Ev.bind (specHas_ev _ _ (by rw [List.length_take]; omega)) ?_))
      by_cases hh : ((l.take i).any fun y => decide (y = l.getD i 0)) = true
      · refine Ev.pos hh (Ev.some ?_)
        refine Eq.symm (Bool.eq_false_iff.2 (fun hc => ?_))
        have hd2 := ((orderB_iff l n).1 hc).2.2
        have hd3 : (l.take (i + 1)).Nodup := List.Nodup.sublist (List.take_sublist _ _) hd2
        rw [take_succ l i 0 hi] at hd3
        obtain ⟨y, hy, he⟩ := List.any_eq_true.1 hh
        have hdis := (List.nodup_append.1 hd3).2.2
        exact hdis y hy _ (List.mem_singleton_self _) (of_decide_eq_true he)
      · refine Ev.neg hh ?_
        rw [wrap_succ hi (by omega)]
        refine ih () ?_
        rw [take_succ l i 0 hi]
        constructor
        · intro x hx
          rcases List.mem_append.1 hx with hx | hx
          · exact hr x hx
          · rw [List.mem_singleton] at hx; subst hx; exact hin
        · rw [List.nodup_append]
          refine ⟨hd, by simp, fun a ha b hb => ?_⟩
          rw [List.mem_singleton] at hb
          subst hb
          intro e
          exact hh (List.any_eq_true.2 ⟨a, ha, decide_eq_true e⟩)
    · refine Ev.neg (by simpa using hin) (Ev.some ?_)
      refine Eq.symm (Bool.eq_false_iff.2 (fun hc => ?_))
      exact hin (((orderB_iff l n).1 hc).2.1 _ hm)
  · intro s ⟨hr, hd⟩
    refine Ev.succ ?_
    simp only [spec_l03Order.l0]
    refine Ev.neg (by omega) (Ev.some ?_)
    rw [List.take_length] at hr hd
    by_cases e : (l.length : Int) = n
    · rw [(orderB_iff l n).2 ⟨e, hr, hd⟩, beq_iff_eq.2 e]
    · have : orderB l n = false := Bool.eq_false_iff.2 (fun hc => e ((orderB_iff l n).1 hc).1)
      rw [this]
      simpa using e
theorem szPolicy_ev (h : List (List Int)) (m : List Int) (a : Int) (h0 : 0 ≤ a) (h1 : a ≤ 1048576) (hl : h.length ≤ 9223372036854775807) (hi : ∀ x ∈ h, x.length ≤ 9223372036854775807) (hm : m.length ≤ 9223372036854775807) :
    Ev (fun k => laws_szPolicy.f k h m a) (if a < (h.length : Int) + (sumLen h : Int) + m.length then -1 else a - ((h.length : Int) + (sumLen h : Int) + m.length)) := by
  unfold laws_szPolicy.f
  refine Ev.bind (szInt64SS_ev h a h0 h1 hl hi) ?_
  by_cases hb : a < (h.length : Int) + (sumLen h : Int)
  · rw [if_pos hb]
    exact Ev.pos (by omega) (Ev.some (by rw [if_pos (by omega)]))
  · rw [if_neg hb]
    refine Ev.neg (by omega) (Ev.bindc (szInt64S_f m _ (by omega) (by omega) hm) ?_)
    by_cases hc : a - ((h.length : Int) + (sumLen h : Int)) < m.length
    · rw [if_pos hc]
      exact Ev.pos (by omega) (Ev.some (by rw [if_pos (by omega)]))
    · rw [if_neg hc]
      exact Ev.neg (by omega) (Ev.some (by rw [if_neg (by omega)]; omega))
theorem toPolicy_ev (h : List (List Int)) (m : List Int) (hl : h.length ≤ 1048576) (hi : ∀ x ∈ h, x.length ≤ 1048576) (hm : m.length ≤ 1048576) : Ev (fun k => laws_toPolicy.f k h m) (h, m) := by
  unfold laws_toPolicy.f
  have e := toInt64SS_ev h hl hi
  rw [List.map_id] at e
  exact Ev.bind e (Ev.bind (toInt64S_ev m hm) (Ev.some rfl))
theorem eqPolicy_ev (h : List (List Int)) (m : List Int) (hl : h.length ≤ 1048576) (hi : ∀ x ∈ h, x.length ≤ 1048576) (hm : m.length ≤ 1048576) : Ev (fun k => laws_eqPolicy.f k h m h m) true := by
  unfold laws_eqPolicy.f
  exact Ev.bind (eqInt64SS_ev h hl hi) (Ev.pos rfl (Ev.bind (eqInt64S_ev m hm) (Ev.pos rfl (Ev.some rfl))))
theorem xInIdx_ev (l : List Int) (x : Int) (h : l.length ≤ 1048576) : Ev (fun k => slices_Index_int64_int64.f k l x) (xIdx (fun y => decide (y = x)) l 0) := by
  unfold slices_Index_int64_int64.f
  have key : ∀ d i, l.length - i = d → i ≤ l.length → Ev (fun k => slices_Index_int64_int64.l0 k l x (l.length : Int) (i : Int)) (xIdx (fun y => decide (y = x)) (l.drop i) (i : Int)) := by
    intro d
    induction d with
    | zero =>
      intro i hd hi
      refine Ev.succ ?_
      simp only [slices_Index_int64_int64.l0]
      exact Ev.neg (by omega) (Ev.some (by rw [List.drop_eq_nil_of_le (by omega)]; rfl))
    | succ d ih =>
      intro i hd hi
      refine Ev.succ ?_
      simp only [slices_Index_int64_int64.l0]
      rw [wrap_succ (show i < l.length by omega) (by omega), drop_cons l i 0 (by omega)]
      refine Ev.pos (by omega) (Ev.pos (by omega) (Ev.pos (by omega) ?_))
      have er : rd l (i : Int) = l.getD i 0 := rfl
      rw [er]
      unfold xIdx
      by_cases hx : l.getD i 0 = x
      · rw [if_pos (by simpa using hx)]; exact Ev.pos hx.symm (Ev.some rfl)
      · rw [if_neg (by simpa using hx)]; exact Ev.neg (fun e => hx e.symm) (ih (i + 1) (by omega) (by omega))
  have := key l.length 0 (by omega) (by omega)
  simpa using this
theorem specIs_ev (h : List (List Int)) (m : List Int) (hl : h.length ≤ 1048576) (hi : ∀ x ∈ h, x.length ≤ 1048576) (hm : m.length ≤ 1048576) : Ev (fun k => spec_l03Is.f k h m) (validB h m) := by
  have j0t : ∀ n, Ev (fun k => spec_l03Is.j0 k n true h m) false := by
    intro n
    refine Ev.succ ?_
    simp only [spec_l03Is.j0]
    exact Ev.pos (by simp) (Ev.some rfl)
  have l0 : h.length = m.length → Ev (fun k => spec_l03Is.l0 k (m.length : Int) 0 h m) (!(h.any fun y => !orderB y (m.length : Int))) := by
    intro he
    have key : ∀ d i, h.length - i = d → i ≤ h.length → Ev (fun k => spec_l03Is.l0 k (m.length : Int) (i : Int) h m) (!((h.drop i).any fun y => !orderB y (m.length : Int))) := by
      intro d
      induction d with
      | zero =>
        intro i hd hi'
        refine Ev.succ ?_
        simp only [spec_l03Is.l0]
        refine Ev.neg (by omega) (Ev.some ?_)
        rw [List.drop_eq_nil_of_le (by omega)]
        rfl
      | succ d ih =>
        intro i hd hi'
        refine Ev.succ ?_
        simp only [spec_l03Is.l0]
        have hrd : rd_L1 h (i : Int) = h.getD i [] := rfl
        rw [hrd, drop_cons h i [] (by omega), List.any_cons, wrap_succ (show i < h.length by omega) (by omega)]
        refine Ev.pos (by omega) (Ev.pos (by omega) (Ev.pos (by omega) (Ev.bind (specOrder_ev _ _ (hi _ (getD_mem h i [] (by omega))) (by omega) (by omega)) ?_)))
        by_cases hx : orderB (h.getD i []) (m.length : Int) = true
        · refine Ev.pos hx ?_
          rw [hx, Bool.not_true, Bool.false_or]
          exact ih (i + 1) (by omega) (by omega)
        · refine Ev.neg hx (Ev.some ?_)
          rw [Bool.eq_false_iff.2 hx]
          rfl
    simpa using key h.length 0 (by omega) (by omega)
  unfold spec_l03Is.f
  by_cases h1 : (m.length : Int) < 1
  · refine Ev.pos h1 ?_
    have : validB h m = false := by unfold validB; rw [decide_eq_false (show ¬ (1 ≤ m.length) by omega)]; rfl
    rw [this]; exact j0t _
  refine Ev.neg h1 ?_
  by_cases h2 : (m.length : Int) > 6
  · refine Ev.pos h2 ?_
    have : validB h m = false := by unfold validB; rw [decide_eq_false (show ¬ (m.length ≤ 6) by omega), Bool.and_false]; rfl
    rw [this]; exact j0t _
  refine Ev.neg h2 ?_
  by_cases h3 : (h.length : Int) = (m.length : Int)
  · refine Ev.pos h3 (Ev.bind (specOrder_ev m _ hm (by omega) (by omega)) ?_)
    have e : validB h m = (orderB m (m.length : Int) && !(h.any fun y => !orderB y (m.length : Int))) := by
      unfold validB
      rw [decide_eq_true (show 1 ≤ m.length by omega), decide_eq_true (show m.length ≤ 6 by omega), decide_eq_true h3]
      rfl
    rw [e]
    by_cases h4 : orderB m (m.length : Int) = true
    · rw [h4]
      refine Ev.succ ?_
      simp only [spec_l03Is.j0]
      exact Ev.neg (by simp) (l0 (by omega))
    · rw [Bool.eq_false_iff.2 h4]
      exact j0t _
  · refine Ev.neg h3 ?_
    have : validB h m = false := by unfold validB; rw [decide_eq_false h3, Bool.false_and, Bool.and_false]
    rw [this]; exact j0t _
theorem valid_facts {h : List (List Int)} {m : List Int} (hv : validB h m = true) : 1 ≤ m.length ∧ m.length ≤ 6 ∧ h.length = m.length ∧ orderB m (m.length : Int) = true ∧ ∀ y ∈ h, orderB y (m.length : Int) = true := by
  unfold validB at hv
  simp only [Bool.and_eq_true, decide_eq_true_eq] at hv
  obtain ⟨⟨a, b⟩, c, d, e⟩ := hv
  refine ⟨a, b, by omega, d, fun y hy => ?_⟩
  cases hb : orderB y (m.length : Int)
  · have : (h.any fun y => !orderB y (m.length : Int)) = true := List.any_eq_true.2 ⟨y, hy, by rw [hb]; rfl⟩
    rw [this] at e; cases e
  · rfl
theorem age_lt (c : List Int) (a : Int) : ageOf c a = -1 ∨ 0 ≤ ageOf c a ∧ ageOf c a < c.length := by
  have := xIdx_ge (fun y => decide (y = a)) c 0
  unfold ageOf
  omega
theorem ord_order {h : List (List Int)} {m : List Int} (hv : validB h m = true) (c : List Int) (hc : c.length = m.length) (a : Int) : orderB (stepOrd h m c a) (c.length : Int) = true := by
  obtain ⟨h1, h2, h3, h4, h5⟩ := valid_facts hv
  unfold stepOrd
  rw [hc]
  split
  · refine h5 _ (getD_mem h _ [] ?_)
    have := age_lt c a
    omega
  · exact h4
theorem okStep_valid {h : List (List Int)} {m : List Int} (hv : validB h m = true) (c : List Int) (hc : c.length = m.length) (a : Int) : okStep h m c a = true := by
  obtain ⟨h1, h2, h3, h4, h5⟩ := valid_facts hv
  obtain ⟨o1, o2, o3⟩ := (orderB_iff _ _).1 (ord_order hv c hc a)
  have := age_lt c a
  unfold okStep
  simp only [Bool.and_eq_true, decide_eq_true_eq, List.all_eq_true]
  refine ⟨⟨by omega, by omega⟩, by omega, by omega, fun x hx => ?_⟩
  have := o2 x hx
  omega
theorem stepV_length {h : List (List Int)} {m : List Int} (hv : validB h m = true) (c : List Int) (hc : c.length = m.length) (a : Int) : (stepV h m c a).1.length = m.length := by
  obtain ⟨o1, o2, o3⟩ := (orderB_iff _ _).1 (ord_order hv c hc a)
  unfold stepV
  rw [List.length_map]
  omega
theorem specStep_f {h : List (List Int)} {m : List Int} (hv : validB h m = true) (c : List Int) (hc : c.length = m.length) (a : Int) : spec_l03Step.f h m c a = some (stepV h m c a) := by
  unfold spec_l03Step.f
  rw [if_pos (okStep_valid hv c hc a)]
theorem permuted_ev (l o : List Int) (hl : o.length ≤ 1048576) (ho : ∀ j ∈ o, 0 ≤ j ∧ j < (l.length : Int)) : Ev (fun k => impl_permuted.f k l o) (o.map fun j => rd l j) := by
  unfold impl_permuted.f
  refine Ev.upto (F := fun k s i => impl_permuted.l0 k l s o (o.length : Int) i) (n := o.length) (r := o.map fun j => rd l j) (fun i s => s = (o.take i).map fun j => rd l j) ?_ ?_ 0 (Nat.zero_le _) _ (by simp)
  · intro i s hi hs ih
    have hsl : s.length ≤ 1048576 := by rw [hs, List.length_map, List.length_take]; omega
    have hrd : rd o (i : Int) = o.getD i 0 := rfl
    have hj := ho _ (getD_mem o i 0 hi)
    refine Ev.succ ?_
    simp only [impl_permuted.l0]
    rw [hrd, wrap_succ hi (by omega)]
    refine Ev.pos (by omega) (Ev.pos (by omega) (Ev.pos (by omega) (Ev.pos hj.1 (Ev.pos hj.2 (Ev.pos (by omega) (ih _ ?_))))))
    rw [take_succ o i 0 hi, List.map_append, hs]
    rfl
  · intro s hs
    refine Ev.succ ?_
    simp only [impl_permuted.l0]
    exact Ev.neg (by omega) (Ev.some (by rw [hs, List.take_length]))
theorem implStep_ev {h : List (List Int)} {m : List Int} (hv : validB h m = true) (c : List Int) (hc : c.length = m.length) (a : Int) : ∃ d, Ev (fun k => impl_Policy_step.f k h m c a) ((stepV h m c a).1, d, (stepV h m c a).2) := by
  obtain ⟨h1, h2, h3, h4, h5⟩ := valid_facts hv
  obtain ⟨o1, o2, o3⟩ := (orderB_iff _ _).1 (ord_order hv c hc a)
  have hage := age_lt c a
  unfold impl_Policy_step.f
  have hix : Ev (fun k => slices_Index_int64_int64.f k c a) (ageOf c a) := xInIdx_ev c a (by omega)
  by_cases hp : 0 ≤ ageOf c a
  · refine ⟨-1, Ev.bind hix (Ev.pos hp (Ev.pos hp (Ev.pos (by omega) ?_)))⟩
    have e1 : stepOrd h m c a = rd_L1 h (ageOf c a) := by unfold stepOrd; rw [if_pos hp]; rfl
    have e2 : stepOld c a = c := by unfold stepOld; rw [if_pos hp]
    rw [← e1]
    refine Ev.bind (permuted_ev c _ (by omega) (fun j hj => by have := o2 j hj; omega)) (Ev.some ?_)
    unfold stepV
    rw [e2, decide_eq_true hp]
  · refine ⟨rd c ((c.length : Int) - 1), Ev.bind hix (Ev.neg hp (Ev.bindc (show slices_Clone_int64_int64.f c = some c by unfold slices_Clone_int64_int64.f; rw [if_pos (by omega)]) ?_))⟩
    rw [wrap_id (by omega) (by omega)]
    refine Ev.pos (by omega) (Ev.pos (by omega) ?_)
    have e1 : stepOrd h m c a = m := by unfold stepOrd; rw [if_neg hp]
    have e2 : stepOld c a = c.set ((c.length : Int) - 1).toNat a := by
      unfold stepOld; rw [if_neg hp]
      congr 1; omega
    rw [← e2]
    refine Ev.bind (permuted_ev _ m (by omega) (fun j hj => by rw [stepOld_length]; rw [e1] at o2; have := o2 j hj; omega)) (Ev.some ?_)
    unfold stepV
    rw [e1, decide_eq_false hp]
theorem set_nodup (t : List Int) (h : (setI t).length = t.length) : t.Nodup := by
  have hp := sortI_perm t
  refine hp.nodup_iff.1 ?_
  have hs := sortI_le t
  have hl : (setI t).length = (sortI t).length := by rw [h, sortI_length]
  unfold setI Lib.compact Lib.compactUpTo at hl
  rw [List.length_map] at hl
  generalize sortI t = z at hs hl
  have hk : ∀ j, j < z.length → Lib.keeps z.toArray j = true := by
    have e : ((List.range z.length).filter (Lib.keeps z.toArray)).length = (List.range z.length).length := by rw [hl, List.length_range]
    intro j hj
    exact List.length_filter_eq_length_iff.1 e j (List.mem_range.2 hj)
  unfold List.Nodup
  rw [List.pairwise_iff_getElem]
  intro i j hi hj hij e
  have hne : z.toArray[j]! ≠ z.toArray[j - 1]! := by
    intro e2
    have h2 := hk j hj
    rw [Lib.keeps_neg (d := z.toArray) (m := j) (by omega) e2] at h2
    cases h2
  have e1 : z.toArray[j]! = z[j] := by simp [hj]
  have e2 : z.toArray[j - 1]! = z[j - 1] := by
    have : j - 1 < z.length := by omega
    simp [this]
  rw [e1, e2] at hne
  have le1 : z[i] ≤ z[j - 1] := by
    by_cases c : i = j - 1
    · subst c; exact Int.le_refl _
    · exact List.pairwise_iff_getElem.1 hs i (j - 1) hi (by omega) (by omega)
  have le2 : z[j - 1] ≤ z[j] := List.pairwise_iff_getElem.1 hs (j - 1) j (by omega) hj (by omega)
  omega
theorem nodup_set (t : List Int) (h : t.Nodup) : (setI t).length = t.length := by
  have hp := sortI_perm t
  have hn : (sortI t).Nodup := hp.nodup_iff.2 h
  have hlt : (sortI t).Pairwise (· < ·) := (List.Pairwise.and (sortI_le t) hn).imp (fun h => by omega)
  have e : setI t = sortI t := rising_ext (setI_lt t) hlt (fun x => by rw [mem_setI]; exact hp.mem_iff.symm)
  rw [e, sortI_length]
def cB (m c : List Int) : Bool := ((c.length : Int) == (m.length : Int)) && (xAll c (-1) 63 && (((setI (toldL c)).length : Int) == ((toldL c).length : Int)))
theorem told_append (a b : List Int) : toldL (a ++ b) = toldL a ++ toldL b := by unfold toldL; rw [List.filter_append]
theorem cB_false_told (m c : List Int) (h : ¬ (toldL c).Nodup) : cB m c = false := by
  have e : (((setI (toldL c)).length : Int) == ((toldL c).length : Int)) = false := by
    rw [beq_eq_false_iff_ne]
    intro e
    exact h (set_nodup _ (by omega))
  unfold cB
  rw [e, Bool.and_false, Bool.and_false]
theorem cB_false_all (m c : List Int) (h : xAll c (-1) 63 = false) : cB m c = false := by
  unfold cB
  rw [h, Bool.false_and, Bool.and_false]
theorem specContents_ev (p : List (List Int)) (m l : List Int) (h : l.length ≤ 1048576) : Ev (fun k => spec_l03Contents.f k p m l) (cB m l) := by
  unfold spec_l03Contents.f
  refine Ev.upto (F := fun k (_ : Unit) i => spec_l03Contents.l0 k l i p m) (n := l.length) (r := cB m l) (fun i _ => ((l.take i).any fun n => !(decide (-1 ≤ n) && decide (n ≤ 63))) = false ∧ (toldL (l.take i)).Nodup) ?_ ?_ 0 (Nat.zero_le _) () (by simp [toldL])
  · intro i s hi ⟨hr, hd⟩ ih
    refine Ev.succ ?_
    simp only [spec_l03Contents.l0]
    have hrd : rd l (i : Int) = l.getD i 0 := rfl
    have hm : l.getD i 0 ∈ l := getD_mem l i 0 hi
    have htk := take_succ l i 0 hi
    rw [hrd, Int.toNat_natCast, wrap_succ hi (by omega)]
    refine Ev.pos (by omega) (Ev.pos (by omega) (Ev.bindc (in_spec _ _ _) ?_))
    by_cases hin : (decide (-1 ≤ l.getD i 0) && decide (l.getD i 0 ≤ 63)) = true
    · have hr' : ((l.take (i + 1)).any fun n => !(decide (-1 ≤ n) && decide (n ≤ 63))) = false := by
        rw [htk, List.any_append, hr, List.any_cons, hin]
        rfl
      refine Ev.pos hin ?_
      by_cases h0 : l.getD i 0 ≥ 0
      · have ht1 : toldL [l.getD i 0] = [l.getD i 0] := by
          unfold toldL
          rw [List.filter_cons_of_pos (by simp only [decide_eq_false (show ¬ (l.getD i 0 < 0) by omega)]; rfl)]
          rfl
        refine Ev.pos h0 (Ev.pos (by omega) (Ev.bind (specHas_ev _ _ (by rw [List.length_take]; omega)) ?_))
        by_cases hh : ((l.take i).any fun y => decide (y = l.getD i 0)) = true
        · refine Ev.pos hh (Ev.some (Eq.symm (cB_false_told m l (fun hc => ?_))))
          obtain ⟨y, hy, he⟩ := List.any_eq_true.1 hh
          have he' : y = l.getD i 0 := of_decide_eq_true he
          have hsub : (toldL (l.take (i + 1))).Sublist (toldL l) := List.Sublist.filter _ (List.take_sublist _ _)
          have hn := List.Nodup.sublist hsub hc
          rw [htk, told_append, ht1] at hn
          refine (List.nodup_append.1 hn).2.2 y ?_ (l.getD i 0) (List.mem_singleton_self _) he'
          unfold toldL
          exact List.mem_filter.2 ⟨hy, by rw [he', decide_eq_false (show ¬ (l.getD i 0 < 0) by omega)]; rfl⟩
        · refine Ev.neg hh (ih () ⟨hr', ?_⟩)
          rw [htk, told_append, ht1, List.nodup_append]
          refine ⟨hd, by simp, fun a ha b hb e => ?_⟩
          rw [List.mem_singleton] at hb
          subst hb
          unfold toldL at ha
          exact hh (List.any_eq_true.2 ⟨a, (List.mem_filter.1 ha).1, decide_eq_true e⟩)
      · refine Ev.neg h0 (ih () ⟨hr', ?_⟩)
        have ht1 : toldL [l.getD i 0] = [] := by
          unfold toldL
          rw [List.filter_cons_of_neg (by simp only [decide_eq_true (show l.getD i 0 < 0 by omega)]; simp)]
          rfl
        rw [htk, told_append, ht1, List.append_nil]
        exact hd
    · refine Ev.neg hin (Ev.some (Eq.symm (cB_false_all m l ?_)))
      have : (l.any fun n => !(decide (-1 ≤ n) && decide (n ≤ 63))) = true := List.any_eq_true.2 ⟨_, hm, by rw [Bool.eq_false_iff.2 hin]; rfl⟩
      unfold xAll
      rw [this]
      rfl
  · intro s ⟨hr, hd⟩
    refine Ev.succ ?_
    simp only [spec_l03Contents.l0]
    rw [List.take_length] at hr hd
    refine Ev.neg (by omega) (Ev.some ?_)
    have e1 : xAll l (-1) 63 = true := by unfold xAll; rw [hr]; rfl
    have e2 : (((setI (toldL l)).length : Int) == ((toldL l).length : Int)) = true := by
      rw [beq_iff_eq, nodup_set _ hd]
    unfold cB
    rw [e1, e2, Bool.and_true, Bool.and_true]
def stepR (p : List (List Int)) (m l : List Int) (x : Int) : List Int × Bool × Bool := if (contB p m l && (decide (0 ≤ x) && decide (x ≤ 63))) = true then ((stepV p m l x).1, (stepV p m l x).2, true) else ([], false, false)
theorem contB_len {p : List (List Int)} {m l : List Int} (h : contB p m l = true) : validB p m = true ∧ l.length = m.length := by
  unfold contB at h
  simp only [Bool.and_eq_true, beq_iff_eq] at h
  exact ⟨h.1, by omega⟩
theorem specAddr_f (a : Int) : spec_l03Address.f a = some (decide (0 ≤ a) && decide (a ≤ 63)) := by
  unfold spec_l03Address.f
  rw [in_spec]
  rfl
theorem implAddr_f (a : Int) : impl_isAddress.f a = some (decide (0 ≤ a) && decide (a ≤ 63)) := by
  unfold impl_isAddress.f
  rw [in_impl]
  rfl
theorem stepR_ok {p : List (List Int)} {m l : List Int} {x : Int} (h : contB p m l = true) (a : (decide (0 ≤ x) && decide (x ≤ 63)) = true) : stepR p m l x = ((stepV p m l x).1, (stepV p m l x).2, true) := by
  unfold stepR
  rw [h, a]
  rfl
theorem stepR_bad {p : List (List Int)} {m l : List Int} {x : Int} (h : (contB p m l && (decide (0 ≤ x) && decide (x ≤ 63))) = false) : stepR p m l x = ([], false, false) := by
  unfold stepR
  rw [h]
  rfl
theorem specStepR_ev (p : List (List Int)) (m l : List Int) (x : Int) (hl : p.length ≤ 1048576) (hi : ∀ y ∈ p, y.length ≤ 1048576) (hm : m.length ≤ 1048576) (hc : l.length ≤ 1048576) : Ev (fun k => spec_StepPolicy.f k p m l x) (stepR p m l x) := by
  unfold spec_StepPolicy.f
  have e : contB p m l = (validB p m && cB m l) := rfl
  by_cases v : validB p m = true
  · refine Ev.bind (specIs_ev p m hl hi hm) (Ev.pos v (Ev.bind (specContents_ev p m l hc) ?_))
    by_cases c : cB m l = true
    · have hcb : contB p m l = true := by rw [e, v, c]; rfl
      refine Ev.pos c (Ev.bindc (specAddr_f x) ?_)
      by_cases a : (decide (0 ≤ x) && decide (x ≤ 63)) = true
      · rw [stepR_ok hcb a]
        exact Ev.pos a (Ev.bindc (specStep_f v l (contB_len hcb).2 x) (Ev.some rfl))
      · rw [stepR_bad (by rw [Bool.eq_false_iff.2 a, Bool.and_false])]
        exact Ev.neg a (Ev.some rfl)
    · rw [stepR_bad (by rw [e, Bool.eq_false_iff.2 c, Bool.and_false, Bool.false_and])]
      exact Ev.neg c (Ev.some rfl)
  · rw [stepR_bad (by rw [e, Bool.eq_false_iff.2 v, Bool.false_and, Bool.false_and])]
    exact Ev.bind (specIs_ev p m hl hi hm) (Ev.neg v (Ev.some rfl))
theorem implStepR_ev (p : List (List Int)) (m l : List Int) (x : Int) (hi : ∀ y ∈ p, y.length ≤ 1048576) (hm : m.length ≤ 1048576) (hc : l.length ≤ 1048576) : Ev (fun k => impl_StepPolicy.f k p m l x) (stepR p m l x) := by
  unfold impl_StepPolicy.f
  have hv : impl_ValidContents.f p m l = some (contB p m l) := by unfold impl_ValidContents.f; rw [if_pos ⟨⟨hm, hi⟩, hc⟩]
  refine Ev.bindc hv ?_
  by_cases c : contB p m l = true
  · obtain ⟨v, hlen⟩ := contB_len c
    refine Ev.pos c (Ev.bindc (implAddr_f x) ?_)
    by_cases a : (decide (0 ≤ x) && decide (x ≤ 63)) = true
    · rw [stepR_ok c a]
      obtain ⟨d, s⟩ := implStep_ev v l hlen x
      exact Ev.pos a (Ev.bind s (Ev.some rfl))
    · rw [stepR_bad (by rw [Bool.eq_false_iff.2 a, Bool.and_false])]
      exact Ev.neg a (Ev.some rfl)
  · rw [stepR_bad (by rw [Bool.eq_false_iff.2 c, Bool.false_and])]
    exact Ev.neg c (Ev.some rfl)
theorem stepR_length (p : List (List Int)) (m l : List Int) (x : Int) : (stepR p m l x).1.length ≤ 6 := by
  unfold stepR
  split
  · rename_i h
    rw [Bool.and_eq_true] at h
    obtain ⟨v, hlen⟩ := contB_len h.1
    have := stepV_length v l hlen x
    have := (valid_facts v).2.1
    show (stepV p m l x).1.length ≤ 6
    omega
  · simp
theorem rows_len {α : Type} {d : Kd α} {e : Nat} {w : World} {A : Option Addr} {n : Nat} {xs : List (List α)} (h : Kd.C (Kd.slice e d) w A n xs) (y : List α) (hy : y ∈ xs) : y.length ≤ 9223372036854775807 := by
  obtain ⟨i, hi, rfl⟩ := List.getElem_of_mem hy
  obtain ⟨ad, A', c', _, _, _, hC⟩ := at_row h i (by have := h.1; omega)
  have h2 := hC.2.1
  rw [getD_lt xs i [] hi] at h2
  exact h2
theorem markInt64S_ev (l : List Int) (a : Int) (h : l.length ≤ 1048576) (h0 : 0 ≤ a) (h1 : a ≤ 1000000000000) : Ev (fun k => laws_markInt64S.f k l a) (a + (l.length : Int), cnt a l.length) := by
  unfold laws_markInt64S.f
  refine Ev.upto (F := fun k (s : List Int × Int) i => laws_markInt64S.l0 k s.1 s.2 i) (n := l.length) (r := (a + (l.length : Int), cnt a l.length)) (fun i s => s = (cnt a i ++ l.drop i, a + (i : Int))) ?_ ?_ 0 (Nat.zero_le _) (l, a) (by simp [cnt])
  · intro i s hi hs ih
    have hsl : (cnt a i ++ l.drop i).length = l.length := by simp [cnt_length]; omega
    refine Ev.succ ?_
    simp only [laws_markInt64S.l0, hs]
    refine Ev.pos (by omega) (Ev.pos (by omega) ?_)
    rw [wrap_succ hi (by omega), wrap_id (x := a + (i : Int) + 1) (by omega) (by omega)]
    refine ih (_, _) ?_
    rw [Int.toNat_natCast, set_mark _ _ _ _ (cnt_length a i).symm hi, cnt_succ]
    simp only [Prod.mk.injEq, true_and]
    omega
  · intro s hs
    have hsl : (cnt a l.length ++ l.drop l.length).length = l.length := by simp [cnt_length]
    refine Ev.succ ?_
    simp only [laws_markInt64S.l0, hs]
    exact Ev.neg (by omega) (Ev.some (by simp))
theorem heldInt64S_ev (n : Nat) (a : Int) (h : n ≤ 1048576) (h0 : 0 ≤ a) (h1 : a ≤ 1000000000000) : Ev (fun k => laws_heldInt64S.f k (cnt a n) a) (a + (n : Int)) := by
  unfold laws_heldInt64S.f
  have hl := cnt_length a n
  refine Ev.upto (F := fun k (s : Int) i => laws_heldInt64S.l0 k (cnt a n) s i) (n := n) (r := a + (n : Int)) (fun i s => s = a + (i : Int)) ?_ ?_ 0 (Nat.zero_le _) a (by simp)
  · intro i s hi hs ih
    refine Ev.succ ?_
    simp only [laws_heldInt64S.l0, hs]
    have hr : rd (cnt a n) (i : Int) = a + (i : Int) := by unfold rd; rw [Int.toNat_natCast, cnt_getD _ _ _ hi]
    refine Ev.pos (by omega) (Ev.pos (by omega) (Ev.pos hr ?_))
    rw [wrap_succ hi (by omega), wrap_id (x := a + (i : Int) + 1) (by omega) (by omega)]
    exact ih _ (by omega)
  · intro s hs
    refine Ev.succ ?_
    simp only [laws_heldInt64S.l0, hs]
    exact Ev.neg (by omega) (Ev.some rfl)
/-- The marks of a list of lists: numbers that rise from list to list. -/
def mkSS : List (List Int) → Int → List (List Int)
  | [], _ => []
  | x :: l, a => cnt a x.length :: mkSS l (a + (x.length : Int))
theorem mkSS_length (l : List (List Int)) : ∀ a, (mkSS l a).length = l.length := by
  induction l with
  | nil => intro a; rfl
  | cons x l ih => intro a; simp [mkSS, ih]
theorem mkSS_append (l m : List (List Int)) : ∀ a, mkSS (l ++ m) a = mkSS l a ++ mkSS m (a + (sumLen l : Int)) := by
  induction l with
  | nil => intro a; simp [mkSS, sumLen]
  | cons x l ih =>
    intro a
    have e : a + (x.length : Int) + (sumLen l : Int) = a + ((x.length + sumLen l : Nat) : Int) := by omega
    simp only [List.cons_append, mkSS, ih, sumLen_cons, e]
theorem sumLen_append {α : Type} (l m : List (List α)) : sumLen (l ++ m) = sumLen l + sumLen m := by simp [sumLen]
theorem mkSS_sum (l : List (List Int)) : ∀ a, sumLen (mkSS l a) = sumLen l := by
  induction l with
  | nil => intro a; rfl
  | cons x l ih => intro a; simp only [mkSS, sumLen_cons, ih, cnt_length]
theorem sumLen_take_le {α : Type} (l : List (List α)) (i : Nat) : sumLen (l.take i) ≤ sumLen l := by
  have h := sumLen_append (l.take i) (l.drop i)
  rw [List.take_append_drop] at h
  omega
set_option maxHeartbeats 800000 in
theorem markInt64SS_calls (v : Value) (l0 : List (List Int)) (a : Int) (lo hi : Nat) (w0 w : World) (hB : Below w0.heap.size w0 w) (hlo : w0.heap.size ≤ lo) (h0 : (nest (Kd.slice 2 (Kd.int .i64)) 38 v l0).P w lo hi)
    (hl : l0.length ≤ 1048576) (hr : ∀ x ∈ l0, x.length ≤ 1048576) (hs : sumLen l0 ≤ 2000000) (ha : 0 ≤ a) (ha1 : a ≤ 1000000) :
    Calls Try.prog 83 #[v, .int .i64 a] w fun e w' => e = .returned (.int .i64 (a + (sumLen l0 : Int))) ∧ (nest (Kd.slice 2 (Kd.int .i64)) 38 v (mkSS l0 a)).P w' lo hi ∧ Below w0.heap.size w0 w' ∧ Kept w w' (In lo hi) := by
  obtain ⟨A0, c0, rfl, hc0, _⟩ := nest_reads h0
  have HS0 := Aside0.mk h0
  have HB0 := Aside0.mk hB
  clear h0 hB
  go_enter Try.func83, Try.ntmps83
  go_wp2
  go_loopg [1, 5] l0.length (fun gg s1 s5 wr => ∃ kk : Nat, kk ≤ l0.length ∧ l0.length - kk ≤ gg ∧ s1 = .int .i64 (a + (sumLen (l0.take kk) : Int)) ∧ s5 = .int .i64 kk ∧ Aside0 (Below w0.heap.size w0 wr) ∧ Aside0 (Kept w wr (In lo hi)) ∧ Aside0 ((nest (Kd.slice 2 (Kd.int .i64)) 38 (.slice A0 l0.length c0) (mkSS (l0.take kk) a ++ l0.drop kk)).P wr lo hi))
  case atStart => exact ⟨0, Nat.zero_le _, by omega, by simp [sumLen], rfl, HB0, ⟨Kept.refl _ _⟩, by simpa [mkSS] using HS0⟩
  case round =>
    obtain ⟨kk, hkk, hg, rfl, rfl, BW, KW, SW⟩ := hrel
    by_cases hlt : kk < l0.length
    · have hltz : (kk : Int) < (l0.length : Int) := by omega
      have hlen : (mkSS (l0.take kk) a ++ l0.drop kk).length = l0.length := by simp [mkSS_length]; omega
      obtain ⟨A1, c1, e1, hc1, hC⟩ := nest_reads SW.out
      rw [hlen] at e1 hC
      injection e1 with e1 _ e2
      subst e1 e2
      have hrow : (mkSS (l0.take kk) a ++ l0.drop kk).getD kk [] = l0.getD kk [] := by
        rw [List.getD_eq_getElem?_getD, List.getElem?_append_right (by simp [mkSS_length]; omega)]
        simp [mkSS_length, Nat.min_eq_left (Nat.le_of_lt hlt), List.getD_eq_getElem?_getD]
      obtain ⟨ad, A1, c1, e, hx0, hle, hC1⟩ := at_row hC kk hlt
      subst e
      obtain ⟨g, rfl⟩ := Kd.R_head (Kd.S_R SW.out)
      obtain ⟨oki, c, hcl, hM, hcc, hoki, hH⟩ := Kd.S_lend SW.out [] (kk : Int) (by omega) hltz
      obtain ⟨vi, rfl, hRi⟩ := hM
      rw [Int.toNat_natCast] at hRi hcc
      have hcell := hcc 0 vi rfl
      have hvi : vi = .slice A1 ((mkSS (l0.take kk) a ++ l0.drop kk).getD kk []).length c1 := by
        have hx1 := hx0
        rw [add_plain] at hx1
        simp only [Kd.slice, Nat.mul_one, Nat.add_zero] at hcell
        rw [hcell] at hx1
        exact Option.some.inj hx1
      subst hvi
      rw [hrow] at hRi hx0
      rw [add_plain] at hx0
      obtain ⟨y, hy⟩ : ∃ y, y = l0.getD kk [] := ⟨_, rfl⟩
      rw [← hy] at hRi hx0
      have hyl : y.length ≤ 1048576 := by rw [hy]; exact hr _ (getD_mem l0 kk [] hlt)
      have htk : l0.take (kk + 1) = l0.take kk ++ [y] := by rw [take_succ l0 kk [] hlt, hy]
      have hsm : sumLen (l0.take (kk + 1)) = sumLen (l0.take kk) + y.length := by rw [htk, sumLen_append]; simp [sumLen]
      have hsb := sumLen_take_le l0 (kk + 1)
      obtain ⟨q, hq⟩ := (markInt64S_ev y (a + (sumLen (l0.take kk) : Int)) hyl (by omega) (by omega))
      have HM := Aside0.mk (hq q (Nat.le_refl _))
      have HR := Aside0.mk hRi
      have HH := Aside0.mk hH
      have HY := Aside0.mk hy
      have HO := Aside0.mk hoki
      clear hq hRi hH hy hoki hC1 hle hC
      go_wp2_with (go_at_call 30; refine (laws_markInt64S.calls q oki (.slice A1 y.length c1) y _ _ _ w0 _ BW.out (Kd.R_lower HR.out hlo) HM.out).mono ?_; rintro e w' ⟨rfl, hr', hb', hk'⟩)
      go_roundg (l0.length - (kk + 1))
      case measure => omega
      case rel =>
        refine ⟨kk + 1, by omega, by omega, by rw [hsm]; go_num, by go_num, ⟨hb'⟩, ⟨KW.out.then_ hk' (fun k hk => .inl (HO.out k hk).1)⟩, ⟨?_⟩⟩
        have hM' : (Kd.slice 2 (Kd.int .i64)).M w' lo oki (cnt (a + (sumLen (l0.take kk) : Int)) y.length) [.slice A1 ((mkSS (l0.take kk) a ++ l0.drop kk).getD kk []).length c1] := by
          refine ⟨_, rfl, ?_⟩
          rw [hrow, ← HY.out]
          exact Kd.R_reok rfl (Kd.R_raise (d := Kd.int .i64) (b := w0.heap.size) (b' := lo) (fun _ _ _ _ h => h) hr' (fun k hk => ((HO.out k (HR.out.1 k hk)).1).1)) (fun k hk => HR.out.1 k hk)
        have := Kd.H_back (Kd.H_kept HH.out hk' (fun k _ hn hs => hn hs)) hM' (fun k hk => hk)
        rw [Int.toNat_natCast, set_mark _ _ _ _ (by simp [mkSS_length]; omega) hlt] at this
        show Kd.S _ _ _ _ _ _ _
        rw [htk, mkSS_append]
        simpa [mkSS] using this
    · have hltz : ¬ (kk : Int) < (l0.length : Int) := by omega
      obtain rfl : kk = l0.length := by omega
      go_wp2
      go_ret
      refine ⟨by simp, ?_, BW.out, KW.out⟩
      simpa using SW.out
theorem st_eqInt64S {w0 W : World} {L : List (Thing × Nat × Nat)} {v1 v2 : Value} {l : List Int} {lo1 hi1 lo2 hi2 : Nat} {b : Bool} (h : St w0 W L) (h1 : (flat (Kd.int .i64) 2 v1 l, lo1, hi1) ∈ L) (h2 : (flat (Kd.int .i64) 2 v2 l, lo2, hi2) ∈ L) (he : Ev (fun k => laws_eqInt64S.f k l l) b) :
    Calls Try.prog 27 #[v1, v2] W fun e w' => e = .returned (.bool b) ∧ St w0 w' L := by
  obtain ⟨A1, c1, rfl, hc1, hC1⟩ := flat_reads (h.get h1).1
  obtain ⟨A2, c2, rfl, hc2, hC2⟩ := flat_reads (h.get h2).1
  obtain ⟨k, hk⟩ := he
  refine (laws_eqInt64S.calls k A1 c1 l A2 c2 l b W hC1 hc1 hC2 hc2 (hk k (Nat.le_refl _))).mono ?_
  rintro e w' ⟨rfl, hb⟩
  exact ⟨rfl, by first | exact h.step hb | exact h.step hb.below⟩
theorem st_markInt64S {w0 W : World} {L L' : List (Thing × Nat × Nat)} {v : Value} {l l' : List Int} {a r : Int} {lo hi : Nat} (h : St w0 W L) (u : Upd (flat (Kd.int .i64) 2 v l) (flat (Kd.int .i64) 2 v l') lo hi L L') (he : Ev (fun k => laws_markInt64S.f k l a) (r, l')) :
    Calls Try.prog 30 #[v, .int .i64 a] W fun e w' => e = .returned (.int .i64 r) ∧ St w0 w' L' := by
  obtain ⟨hp, hlo, _, _⟩ := h.get u.mem
  obtain ⟨k, hk⟩ := he
  refine (laws_markInt64S.calls k (fun k_ => some k_ = v.ownBlock) v l a r l' w0 W h.below (Kd.R_lower (Kd.R_tight rfl hp) hlo) (hk k (Nat.le_refl _))).mono ?_
  rintro e w' ⟨rfl, hr', hb, hk'⟩
  exact ⟨rfl, h.upd u hb (hk'.mono (fun k e => hp.1 k e.symm)) (flat_marked (b := w0.heap.size) rfl (fun _ _ _ _ h => h) hp hr')⟩
theorem st_heldInt64S {w0 W : World} {L : List (Thing × Nat × Nat)} {v : Value} {l : List Int} {a r : Int} {lo hi : Nat} (h : St w0 W L) (h1 : (flat (Kd.int .i64) 2 v l, lo, hi) ∈ L) (he : Ev (fun k => laws_heldInt64S.f k l a) r) :
    Calls Try.prog 31 #[v, .int .i64 a] W fun e w' => e = .returned (.int .i64 r) ∧ St w0 w' L := by
  obtain ⟨A1, c1, rfl, hc1, hC1⟩ := flat_reads (h.get h1).1
  obtain ⟨k, hk⟩ := he
  refine (laws_heldInt64S.calls k A1 c1 l a r W hC1 hc1 (hk k (Nat.le_refl _))).mono ?_
  rintro e w' ⟨rfl, hb⟩
  exact ⟨rfl, by first | exact h.step hb | exact h.step hb.below⟩
theorem st_markInt64SS {w0 W : World} {L L' : List (Thing × Nat × Nat)} {v : Value} {l : List (List Int)} {a : Int} {lo hi : Nat} (h : St w0 W L) (u : Upd (nest (Kd.slice 2 (Kd.int .i64)) 38 v l) (nest (Kd.slice 2 (Kd.int .i64)) 38 v (mkSS l a)) lo hi L L')
    (hl : l.length ≤ 1048576) (hr : ∀ x ∈ l, x.length ≤ 1048576) (hs : sumLen l ≤ 2000000) (ha : 0 ≤ a) (ha1 : a ≤ 1000000) :
    Calls Try.prog 83 #[v, .int .i64 a] W fun e w' => e = .returned (.int .i64 (a + (sumLen l : Int))) ∧ St w0 w' L' := by
  obtain ⟨hp, hlo, _, _⟩ := h.get u.mem
  refine (markInt64SS_calls v l a lo hi w0 W h.below hlo hp hl hr hs ha ha1).mono ?_
  rintro e w' ⟨rfl, hp', hb, hk'⟩
  exact ⟨rfl, h.upd u hb hk' hp'⟩
theorem st_szPolicy {w0 W : World} {L : List (Thing × Nat × Nat)} {A0 A1 : Option Addr} {c0 c1 : Nat} {p : List (List Int)} {m : List Int} {a r : Int} (h : St w0 W L) (hr0 : Kd.C (Kd.slice 2 (Kd.int .i64)) w0 A0 p.length p) (hc0 : p.length ≤ c0) (hr1 : Kd.C (Kd.int .i64) w0 A1 m.length m) (hc1 : m.length ≤ c1) (he : Ev (fun k => laws_szPolicy.f k p m a) r) :
    Calls Try.prog 22 #[.agg #[.slice A0 p.length c0, .slice A1 m.length c1], .int .i64 a] W fun e w' => e = .returned (.int .i64 r) ∧ St w0 w' L := by
  obtain ⟨k, hk⟩ := he
  refine (laws_szPolicy.calls k A0 c0 p A1 c1 m a r W (Kd.C_below hr0 h.below) hc0 (Kd.C_below hr1 h.below) hc1 (hk k (Nat.le_refl _))).mono ?_
  rintro e w' ⟨rfl, hb⟩
  exact ⟨rfl, h.step hb⟩
theorem st_toInt64SS {w0 W : World} {L : List (Thing × Nat × Nat)} {A : Option Addr} {c : Nat} {l r : List (List Int)} (h : St w0 W L) (hr : Kd.C (Kd.slice 2 (Kd.int .i64)) w0 A l.length l) (hc : l.length ≤ c) (he : Ev (fun k => laws_toInt64SS.f k l) r) :
    Calls Try.prog 78 #[.slice A l.length c] W fun e w' => ∃ B cb lo hi, e = .returned (.slice B r.length cb) ∧ St w0 w' ((nest (Kd.slice 2 (Kd.int .i64)) 38 (.slice B r.length cb) r, lo, hi) :: L) := by
  obtain ⟨k, hk⟩ := he
  refine (laws_toInt64SS.calls k A c l r W (Kd.C_below hr h.below) hc (hk k (Nat.le_refl _))).mono ?_
  rintro e w' ⟨v, rfl, hr', hb⟩
  obtain ⟨B, cb, rfl⟩ := Kd.S_slice hr'
  exact ⟨B, cb, _, _, rfl, h.add hb (nest_new hr')⟩
theorem st_toInt64S' {w0 W : World} {L : List (Thing × Nat × Nat)} {A : Option Addr} {c : Nat} {l : List Int} {r : List Int} (h : St w0 W L) (hr : Kd.C (Kd.int .i64) w0 A l.length l) (hc : l.length ≤ c) (he : Ev (fun k => laws_toInt64S.f k l) r) :
    Calls Try.prog 25 #[.slice A l.length c] W fun e w' => ∃ B cb lo hi, e = .returned (.slice B r.length cb) ∧ St w0 w' ((flat (Kd.int .i64) 2 (.slice B r.length cb) r, lo, hi) :: L) := by
  obtain ⟨k, hk⟩ := he
  refine (laws_toInt64S.calls k A c l r W (Kd.C_below hr h.below) hc (hk k (Nat.le_refl _))).mono ?_
  rintro e w' ⟨v, rfl, hr', hb⟩
  obtain ⟨B, cb, rfl⟩ := Kd.R_slice hr'
  exact ⟨B, cb, _, _, rfl, h.add hb (flat_new hr')⟩
set_option maxHeartbeats 1600000 in
set_option maxRecDepth 100000 in
theorem st_toPolicy {w0 W : World} {L : List (Thing × Nat × Nat)} {A0 A1 : Option Addr} {c0 c1 : Nat} {p : List (List Int)} {m : List Int} (h : St w0 W L) (hr0 : Kd.C (Kd.slice 2 (Kd.int .i64)) w0 A0 p.length p) (hc0 : p.length ≤ c0) (hr1 : Kd.C (Kd.int .i64) w0 A1 m.length m) (hc1 : m.length ≤ c1) (he0 : Ev (fun k => laws_toInt64SS.f k p) p) (he1 : Ev (fun k => laws_toInt64S.f k m) m) :
    Calls Try.prog 24 #[.agg #[.slice A0 p.length c0, .slice A1 m.length c1]] W fun e w' => ∃ B0 b0 B1 b1, e = .returned (.agg #[.slice B0 p.length b0, .slice B1 m.length b1]) ∧ ∃ lo0 hi0 lo1 hi1, St w0 w' ((flat (Kd.int .i64) 2 (.slice B1 m.length b1) m, lo1, hi1) :: (nest (Kd.slice 2 (Kd.int .i64)) 38 (.slice B0 p.length b0) p, lo0, hi0) :: L) := by
  have HR0 := Aside0.mk hr0
  have HC0 := Aside0.mk hc0
  have HR1 := Aside0.mk hr1
  have HC1 := Aside0.mk hc1
  have E0 := Aside0.mk he0
  have E1 := Aside0.mk he1
  have HS := h
  clear hr0 hc0 hr1 hc1 he0 he1 h
  go_enter Try.func24, Try.ntmps24
  go_wp2_with fail
  refine (st_toInt64SS (w0 := w0) (St.box (St.box (St.box HS _ _) _ _) _ _) HR0.out HC0.out E0.out).mono ?_
  rintro e w1 ⟨B0, b0, lo0, hi0, rfl, HS⟩
  simp only [World.size_alloc] at HS
  have q1 : w1.cell? ⟨W.heap.size, 1, none⟩ = some (.slice A1 m.length c1) := HS.cell (cs := #[.slice A0 p.length c0, .slice A1 m.length c1]) (t := 40) (by repeat (first | with_reducible exact List.mem_cons_self | refine List.mem_cons_of_mem _ ?_)) 1 _ rfl
  have u0 : w1.cell? ⟨W.heap.size + 1 + 1, 0, none⟩ = some (.slice none 0 0) := HS.cell (cs := #[.slice none 0 0, .slice none 0 0]) (t := 44) (by repeat (first | with_reducible exact List.mem_cons_self | refine List.mem_cons_of_mem _ ?_)) 0 _ rfl
  have fz : ∀ j, w1.frozen? ⟨W.heap.size + 1 + 1, j, none⟩ = false := HS.thaw (cs := #[.slice none 0 0, .slice none 0 0]) (t := 44) (by repeat (first | with_reducible exact List.mem_cons_self | refine List.mem_cons_of_mem _ ?_))
  go_wp2_with fail
  refine (st_toInt64S' (w0 := w0) (St.setBox (by with_reducible exact HS) 0 _ (by repeat (first | with_reducible exact Upd.here | apply Upd.there))) HR1.out HC1.out E1.out).mono ?_
  rintro e w2 ⟨B1, b1, lo1, hi1, rfl, HS⟩
  simp only [List.setIfInBounds_toArray, List.set_cons_zero, List.set_cons_succ] at HS
  have v0 : w2.cell? ⟨W.heap.size + 1 + 1, 0, none⟩ = some (.slice B0 p.length b0) := HS.cell (cs := #[.slice B0 p.length b0, .slice none 0 0]) (t := 44) (by repeat (first | with_reducible exact List.mem_cons_self | refine List.mem_cons_of_mem _ ?_)) 0 _ rfl
  have v1 : w2.cell? ⟨W.heap.size + 1 + 1, 1, none⟩ = some (.slice none 0 0) := HS.cell (cs := #[.slice B0 p.length b0, .slice none 0 0]) (t := 44) (by repeat (first | with_reducible exact List.mem_cons_self | refine List.mem_cons_of_mem _ ?_)) 1 _ rfl
  have fz2 : ∀ j, w2.frozen? ⟨W.heap.size + 1 + 1, j, none⟩ = false := HS.thaw (cs := #[.slice B0 p.length b0, .slice none 0 0]) (t := 44) (by repeat (first | with_reducible exact List.mem_cons_self | refine List.mem_cons_of_mem _ ?_))
  have z0 : w2.cell? ⟨W.heap.size + 1, 0, none⟩ = some (.slice none 0 0) := HS.cell (cs := #[.slice none 0 0, .slice none 0 0]) (t := 44) (by repeat (first | with_reducible exact List.mem_cons_self | refine List.mem_cons_of_mem _ ?_)) 0 _ rfl
  have z1 : w2.cell? ⟨W.heap.size + 1, 1, none⟩ = some (.slice none 0 0) := HS.cell (cs := #[.slice none 0 0, .slice none 0 0]) (t := 44) (by repeat (first | with_reducible exact List.mem_cons_self | refine List.mem_cons_of_mem _ ?_)) 1 _ rfl
  have fz3 : ∀ j, w2.frozen? ⟨W.heap.size + 1, j, none⟩ = false := HS.thaw (cs := #[.slice none 0 0, .slice none 0 0]) (t := 44) (by repeat (first | with_reducible exact List.mem_cons_self | refine List.mem_cons_of_mem _ ?_))
  go_wp2_with fail
  refine bodyPost_ret (results_cell_row rfl _ _ (W.heap.size + 1) 44 _ (0, 0) _ rfl (St.blk (w0 := w0) (St.setBox (St.setBox (St.setBox (by with_reducible exact HS) 1 _ (by repeat (first | with_reducible exact Upd.here | apply Upd.there))) 0 _ (by repeat (first | with_reducible exact Upd.here | apply Upd.there))) 1 _ (by repeat (first | with_reducible exact Upd.here | apply Upd.there))) (by repeat (first | with_reducible exact List.mem_cons_self | refine List.mem_cons_of_mem _ ?_))) Try.underlying44 rfl (by kernel_rfl)) rfl ?_
  exact ⟨B0, b0, B1, b1, rfl, _, _, _, _, St.sub (w0 := w0) (St.setBox (St.setBox (St.setBox (by with_reducible exact HS) 1 _ (by repeat (first | with_reducible exact Upd.here | apply Upd.there))) 0 _ (by repeat (first | with_reducible exact Upd.here | apply Upd.there))) 1 _ (by repeat (first | with_reducible exact Upd.here | apply Upd.there))) (List.Sublist.cons_cons _ (List.Sublist.cons_cons _ (List.Sublist.cons _ (List.Sublist.cons _ (List.Sublist.cons _ (List.Sublist.refl _))))))⟩
theorem st_eqPolicy {w0 W : World} {L : List (Thing × Nat × Nat)} {p : List (List Int)} {m : List Int} {A0 A1 B0 B1 : Option Addr} {n0 n1 m0 m1 c0 c1 d0 d1 lo0 hi0 lo1 hi1 lo2 hi2 lo3 hi3 : Nat} {b : Bool} (h : St w0 W L)
    (h0 : (nest (Kd.slice 2 (Kd.int .i64)) 38 (.slice A0 n0 c0) p, lo0, hi0) ∈ L) (h1 : (flat (Kd.int .i64) 2 (.slice A1 n1 c1) m, lo1, hi1) ∈ L) (h2 : (nest (Kd.slice 2 (Kd.int .i64)) 38 (.slice B0 m0 d0) p, lo2, hi2) ∈ L) (h3 : (flat (Kd.int .i64) 2 (.slice B1 m1 d1) m, lo3, hi3) ∈ L)
    (he : Ev (fun k => laws_eqPolicy.f k p m p m) b) :
    Calls Try.prog 28 #[.agg #[.slice A0 n0 c0, .slice A1 n1 c1], .agg #[.slice B0 m0 d0, .slice B1 m1 d1]] W fun e w' => e = .returned (.bool b) ∧ St w0 w' L := by
  obtain ⟨rfl, a0, C0⟩ := Kd.S_reads' (h.get h0).1
  obtain ⟨rfl, a1, C1⟩ := Kd.R_reads' (h.get h1).1
  obtain ⟨rfl, a2, C2⟩ := Kd.S_reads' (h.get h2).1
  obtain ⟨rfl, a3, C3⟩ := Kd.R_reads' (h.get h3).1
  obtain ⟨k, hk⟩ := he
  refine (laws_eqPolicy.calls k A0 c0 p A1 c1 m B0 d0 p B1 d1 m b W C0 a0 C1 a1 C2 a2 C3 a3 (hk k (Nat.le_refl _))).mono ?_
  rintro e w' ⟨rfl, hb⟩
  exact ⟨rfl, by first | exact h.step hb | exact h.step hb.below⟩
set_option maxHeartbeats 1600000 in
set_option maxRecDepth 100000 in
theorem st_markPolicy {w0 W : World} {L L1 L2 : List (Thing × Nat × Nat)} {A0 A1 : Option Addr} {n0 n1 c0 c1 lo0 hi0 lo1 hi1 : Nat} {p : List (List Int)} {m m' : List Int} {a a1 a2 : Int} (h : St w0 W L)
    (u0 : Upd (nest (Kd.slice 2 (Kd.int .i64)) 38 (.slice A0 n0 c0) p) (nest (Kd.slice 2 (Kd.int .i64)) 38 (.slice A0 n0 c0) (mkSS p a)) lo0 hi0 L L1)
    (u1 : Upd (flat (Kd.int .i64) 2 (.slice A1 n1 c1) m) (flat (Kd.int .i64) 2 (.slice A1 n1 c1) m') lo1 hi1 L1 L2)
    (hl : p.length ≤ 1048576) (hr : ∀ x ∈ p, x.length ≤ 1048576) (hs : sumLen p ≤ 2000000) (ha : 0 ≤ a) (ha1 : a ≤ 1000000) (e1 : a + (sumLen p : Int) = a1) (he : Ev (fun k => laws_markInt64S.f k m a1) (a2, m')) :
    Calls Try.prog 29 #[.agg #[.slice A0 n0 c0, .slice A1 n1 c1], .int .i64 a] W fun e w' => e = .returned (.int .i64 a2) ∧ St w0 w' L2 := by
  have U0 := Aside0.mk u0
  have U1 := Aside0.mk u1
  have HL := Aside0.mk hl
  have HRR := Aside0.mk hr
  have HSS := Aside0.mk hs
  have HA := Aside0.mk ha
  have HA1 := Aside0.mk ha1
  have E1 := Aside0.mk e1
  have HE := Aside0.mk he
  have HS := h
  clear u0 u1 hl hr hs ha ha1 e1 he h
  go_enter Try.func29, Try.ntmps29
  go_wp2_with fail
  refine (st_markInt64SS (w0 := w0) (St.box HS _ _) (Upd.there U0.out) HL.out HRR.out HSS.out HA.out HA1.out).mono ?_
  rw [E1.out]
  rintro e w1 ⟨rfl, HS⟩
  have q1 : w1.cell? ⟨W.heap.size, 1, none⟩ = some (.slice A1 n1 c1) := HS.cell (cs := #[.slice A0 n0 c0, .slice A1 n1 c1]) (t := 44) (by repeat (first | with_reducible exact List.mem_cons_self | refine List.mem_cons_of_mem _ ?_)) 1 _ rfl
  go_wp2_with fail
  refine (st_markInt64S (w0 := w0) (by with_reducible exact HS) (Upd.there U1.out) HE.out).mono ?_
  rintro e w2 ⟨rfl, HS⟩
  go_wp2_with fail
  go_ret
  exact ⟨rfl, St.sub HS (List.Sublist.cons _ (List.Sublist.refl _))⟩
theorem st_specX {w0 W : World} {L : List (Thing × Nat × Nat)} {p : List (List Int)} {m c r : List Int} {A0 A1 A2 : Option Addr} {n0 n1 n2 c0 c1 c2 lo0 hi0 lo1 hi1 lo2 hi2 : Nat} {x : Int} {b d : Bool} (h : St w0 W L)
    (h0 : (nest (Kd.slice 2 (Kd.int .i64)) 38 (.slice A0 n0 c0) p, lo0, hi0) ∈ L) (h1 : (flat (Kd.int .i64) 2 (.slice A1 n1 c1) m, lo1, hi1) ∈ L) (h2 : (flat (Kd.int .i64) 2 (.slice A2 n2 c2) c, lo2, hi2) ∈ L)
    (he : Ev (fun k => spec_StepPolicy.f k p m c x) (r, b, d)) :
    Calls Try.prog 23 #[.agg #[.slice A0 n0 c0, .slice A1 n1 c1], .slice A2 n2 c2, .int .i64 x] W fun e w' => ∃ A cap lo hi, e = .returned (.tuple #[.slice A r.length cap, .bool b, .bool d]) ∧ St w0 w' ((flat (Kd.int .i64) 2 (.slice A r.length cap) r, lo, hi) :: L) := by
  obtain ⟨rfl, a0, C0⟩ := Kd.S_reads' (h.get h0).1
  obtain ⟨rfl, a1, C1⟩ := Kd.R_reads' (h.get h1).1
  obtain ⟨rfl, a2, C2⟩ := Kd.R_reads' (h.get h2).1
  obtain ⟨k, hk⟩ := he
  refine (spec_StepPolicy.calls k A0 c0 p A1 c1 m A2 c2 c x r b d W C0 a0 C1 a1 C2 a2 (hk k (Nat.le_refl _))).mono ?_
  rintro e w' ⟨v, rfl, hr', hb⟩
  obtain ⟨A, cap, rfl⟩ := Kd.R_slice hr'
  exact ⟨A, cap, _, _, rfl, h.add hb (flat_new hr')⟩
theorem st_implX {w0 W : World} {L : List (Thing × Nat × Nat)} {p : List (List Int)} {m c r : List Int} {A0 A1 A2 : Option Addr} {n0 n1 n2 c0 c1 c2 lo0 hi0 lo1 hi1 lo2 hi2 : Nat} {x : Int} {b d : Bool} (h : St w0 W L)
    (h0 : (nest (Kd.slice 2 (Kd.int .i64)) 38 (.slice A0 n0 c0) p, lo0, hi0) ∈ L) (h1 : (flat (Kd.int .i64) 2 (.slice A1 n1 c1) m, lo1, hi1) ∈ L) (h2 : (flat (Kd.int .i64) 2 (.slice A2 n2 c2) c, lo2, hi2) ∈ L)
    (he : Ev (fun k => impl_StepPolicy.f k p m c x) (r, b, d)) :
    Calls Try.prog 26 #[.agg #[.slice A0 n0 c0, .slice A1 n1 c1], .slice A2 n2 c2, .int .i64 x] W fun e w' => ∃ A cap lo hi, e = .returned (.tuple #[.slice A r.length cap, .bool b, .bool d]) ∧ St w0 w' ((flat (Kd.int .i64) 2 (.slice A r.length cap) r, lo, hi) :: L) := by
  obtain ⟨rfl, a0, C0⟩ := Kd.S_reads' (h.get h0).1
  obtain ⟨rfl, a1, C1⟩ := Kd.R_reads' (h.get h1).1
  obtain ⟨rfl, a2, C2⟩ := Kd.R_reads' (h.get h2).1
  obtain ⟨k, hk⟩ := he
  refine (impl_StepPolicy.calls k A0 c0 p A1 c1 m A2 c2 c x r b d W C0 a0 C1 a1 C2 a2 (hk k (Nat.le_refl _))).mono ?_
  rintro e w' ⟨v, rfl, hr', hb⟩
  obtain ⟨A, cap, rfl⟩ := Kd.R_slice hr'
  exact ⟨A, cap, _, _, rfl, h.add hb (flat_new hr')⟩
set_option maxHeartbeats 4000000 in
theorem big1 (A0 : Option Addr) (c0 : Nat) (p : List (List Int)) (A1 : Option Addr) (c1 : Nat) (m : List Int) (A2 : Option Addr) (c2 : Nat) (l : List Int) (x : Int) (w : World) (hr0 : Kd.C (Kd.slice 2 (Kd.int .i64)) w A0 p.length p) (hc0 : p.length ≤ c0) (hr1 : Kd.C (Kd.int .i64) w A1 m.length m) (hc1 : m.length ≤ c1) (hr2 : Kd.C (Kd.int .i64) w A2 l.length l) (hc2 : l.length ≤ c2) (hb : decide ((l.length : Int) > 1048576) = true) :
    Calls Try.prog 4 #[.agg #[.slice A0 p.length c0, .slice A1 m.length c1], .slice A2 l.length c2, .int .i64 x] w fun e w' => e = .returned (.bool true) ∧ Below w.heap.size w w' := by
  go_enter Try.func4, Try.ntmps4
  go_wp2_with fail
  go_ret
  exact ⟨rfl, below_alloc (Below.refl _ _) _⟩
set_option maxHeartbeats 4000000 in
theorem big2 (A0 : Option Addr) (c0 : Nat) (p : List (List Int)) (A1 : Option Addr) (c1 : Nat) (m : List Int) (A2 : Option Addr) (c2 : Nat) (l : List Int) (x : Int) (w : World) (hr0 : Kd.C (Kd.slice 2 (Kd.int .i64)) w A0 p.length p) (hc0 : p.length ≤ c0) (hr1 : Kd.C (Kd.int .i64) w A1 m.length m) (hc1 : m.length ≤ c1) (hr2 : Kd.C (Kd.int .i64) w A2 l.length l) (hc2 : l.length ≤ c2) (hb : decide ((l.length : Int) > 1048576) = false) (z : Int) (hz : decide (z < 0) = true) (hs : Ev (fun k => laws_szPolicy.f k p m 1048576) z) :
    Calls Try.prog 4 #[.agg #[.slice A0 p.length c0, .slice A1 m.length c1], .slice A2 l.length c2, .int .i64 x] w fun e w' => e = .returned (.bool true) ∧ Below w.heap.size w w' := by
  have SZ := Aside0.mk hs
  have HR0 := Aside0.mk hr0
  have HC0 := Aside0.mk hc0
  have HR1 := Aside0.mk hr1
  have HC1 := Aside0.mk hc1
  have HR2 := Aside0.mk hr2
  have HC2 := Aside0.mk hc2
  have HS := St.start w
  clear hr0 hc0 hr1 hc1 hr2 hc2
  clear hs
  go_enter Try.func4, Try.ntmps4
  go_wp2_with fail
  refine (st_szPolicy (w0 := w) (St.box HS _ _) HR0.out HC0.out HR1.out HC1.out SZ.out).mono ?_
  rintro e w1 ⟨rfl, HS⟩
  go_wp2_with fail
  go_ret
  exact ⟨rfl, HS.below⟩
set_option maxHeartbeats 4000000 in
set_option maxRecDepth 100000 in
theorem walk (A0 : Option Addr) (c0 : Nat) (p : List (List Int)) (A1 : Option Addr) (c1 : Nat) (m : List Int) (A2 : Option Addr) (c2 : Nat) (l : List Int) (x : Int) (w : World) (hr0 : Kd.C (Kd.slice 2 (Kd.int .i64)) w A0 p.length p) (hc0 : p.length ≤ c0) (hr1 : Kd.C (Kd.int .i64) w A1 m.length m) (hc1 : m.length ≤ c1) (hr2 : Kd.C (Kd.int .i64) w A2 l.length l) (hc2 : l.length ≤ c2) (hb : decide ((l.length : Int) > 1048576) = false) (z : Int) (hz : decide (z < 0) = false) (hs : Ev (fun k => laws_szPolicy.f k p m 1048576) z)
    (r : List Int) (b d : Bool) (a1 a2 a3 q : Int) (m' l' : List Int) (ha3 : decide (a3 < 0) = false) (hq : decide (q < 0) = false)
    (t0 : Ev (fun k => laws_toInt64SS.f k p) p) (t1 : Ev (fun k => laws_toInt64S.f k m) m) (t2 : Ev (fun k => laws_toInt64S.f k l) l) (hsp : Ev (fun k => spec_StepPolicy.f k p m l x) (r, b, d)) (him : Ev (fun k => impl_StepPolicy.f k p m l x) (r, b, d))
    (eg : Ev (fun k => laws_eqInt64S.f k r r) true) (ep : Ev (fun k => laws_eqPolicy.f k p m p m) true) (ec : Ev (fun k => laws_eqInt64S.f k l l) true)
    (hl : p.length ≤ 1048576) (hrr : ∀ y ∈ p, y.length ≤ 1048576) (hss : sumLen p ≤ 2000000) (h1 : 1 + (sumLen p : Int) = a1) (mp : Ev (fun k => laws_markInt64S.f k m a1) (a2, m')) (mc : Ev (fun k => laws_markInt64S.f k l a2) (a3, l')) (mg : Ev (fun k => laws_markInt64S.f k r 1) (q, cnt 1 r.length)) (hg : Ev (fun k => laws_heldInt64S.f k (cnt 1 r.length) 1) q) :
    Calls Try.prog 4 #[.agg #[.slice A0 p.length c0, .slice A1 m.length c1], .slice A2 l.length c2, .int .i64 x] w fun e w' => e = .returned (.bool true) ∧ Below w.heap.size w w' := by
  have SZ := Aside0.mk hs
  have T0 := Aside0.mk t0
  have T1 := Aside0.mk t1
  have T2 := Aside0.mk t2
  have SP := Aside0.mk hsp
  have IM := Aside0.mk him
  have EG := Aside0.mk eg
  have EP := Aside0.mk ep
  have EC := Aside0.mk ec
  have HL := Aside0.mk hl
  have HRR := Aside0.mk hrr
  have HSS := Aside0.mk hss
  have HA1 := Aside0.mk h1
  have MP := Aside0.mk mp
  have MC := Aside0.mk mc
  have MG := Aside0.mk mg
  have HG := Aside0.mk hg
  have HR0 := Aside0.mk hr0
  have HC0 := Aside0.mk hc0
  have HR1 := Aside0.mk hr1
  have HC1 := Aside0.mk hc1
  have HR2 := Aside0.mk hr2
  have HC2 := Aside0.mk hc2
  have HS := St.start w
  clear hr0 hc0 hr1 hc1 hr2 hc2
  clear hs t0 t1 t2 hsp him eg ep ec hl hrr hss h1 mp mc mg hg
  go_enter Try.func4, Try.ntmps4
  go_wp2_with fail
  refine (st_szPolicy (w0 := w) (St.box HS _ _) HR0.out HC0.out HR1.out HC1.out SZ.out).mono ?_
  rintro e w1 ⟨rfl, HS⟩
  have q0 : w1.cell? ⟨w.heap.size, 0, none⟩ = some (.slice A0 p.length c0) := HS.cell (cs := #[.slice A0 p.length c0, .slice A1 m.length c1]) (t := 40) (by repeat (first | with_reducible exact List.mem_cons_self | refine List.mem_cons_of_mem _ ?_)) 0 _ rfl
  have q1 : w1.cell? ⟨w.heap.size, 1, none⟩ = some (.slice A1 m.length c1) := HS.cell (cs := #[.slice A0 p.length c0, .slice A1 m.length c1]) (t := 40) (by repeat (first | with_reducible exact List.mem_cons_self | refine List.mem_cons_of_mem _ ?_)) 1 _ rfl
  go_wp2_with fail
  refine (st_toPolicy (w0 := w) (by with_reducible exact HS) HR0.out HC0.out HR1.out HC1.out T0.out T1.out).mono ?_
  rintro e w2 ⟨B0, b0, B1, b1, rfl, lo0, hi0, lo1, hi1, HS⟩
  clear q0 q1
  go_wp2_with fail
  refine (st_toInt64S' (w0 := w) (by with_reducible exact HS) HR2.out HC2.out T2.out).mono ?_
  rintro e w3 ⟨B2, b2, lo2, hi2, rfl, HS⟩
  go_wp2_with fail
  refine (st_specX (w0 := w) (by with_reducible exact HS) (by repeat (first | with_reducible exact List.mem_cons_self | refine List.mem_cons_of_mem _ ?_)) (by repeat (first | with_reducible exact List.mem_cons_self | refine List.mem_cons_of_mem _ ?_)) (by repeat (first | with_reducible exact List.mem_cons_self | refine List.mem_cons_of_mem _ ?_)) SP.out).mono ?_
  rintro e w4 ⟨S0, s0, lo3, hi3, rfl, HS⟩
  have q0 : w4.cell? ⟨w.heap.size, 0, none⟩ = some (.slice A0 p.length c0) := HS.cell (cs := #[.slice A0 p.length c0, .slice A1 m.length c1]) (t := 40) (by repeat (first | with_reducible exact List.mem_cons_self | refine List.mem_cons_of_mem _ ?_)) 0 _ rfl
  have q1 : w4.cell? ⟨w.heap.size, 1, none⟩ = some (.slice A1 m.length c1) := HS.cell (cs := #[.slice A0 p.length c0, .slice A1 m.length c1]) (t := 40) (by repeat (first | with_reducible exact List.mem_cons_self | refine List.mem_cons_of_mem _ ?_)) 1 _ rfl
  go_wp2_with fail
  refine (st_toPolicy (w0 := w) (by with_reducible exact HS) HR0.out HC0.out HR1.out HC1.out T0.out T1.out).mono ?_
  rintro e w6 ⟨X0, x0, X1, x1, rfl, lo4, hi4, lo5, hi5, HS⟩
  clear q0 q1
  go_wp2_with fail
  refine (st_toInt64S' (w0 := w) (St.box HS _ _) HR2.out HC2.out T2.out).mono ?_
  rintro e w7 ⟨X2, x2, lo6, hi6, rfl, HS⟩
  have r0 : w7.cell? ⟨w6.heap.size, 0, none⟩ = some (.slice X0 p.length x0) := HS.cell (cs := #[.slice X0 p.length x0, .slice X1 m.length x1]) (t := 44) (by repeat (first | with_reducible exact List.mem_cons_self | refine List.mem_cons_of_mem _ ?_)) 0 _ rfl
  have r1 : w7.cell? ⟨w6.heap.size, 1, none⟩ = some (.slice X1 m.length x1) := HS.cell (cs := #[.slice X0 p.length x0, .slice X1 m.length x1]) (t := 44) (by repeat (first | with_reducible exact List.mem_cons_self | refine List.mem_cons_of_mem _ ?_)) 1 _ rfl
  go_wp2_with fail
  refine (st_implX (w0 := w) (by with_reducible exact HS) (by repeat (first | with_reducible exact List.mem_cons_self | refine List.mem_cons_of_mem _ ?_)) (by repeat (first | with_reducible exact List.mem_cons_self | refine List.mem_cons_of_mem _ ?_)) (by repeat (first | with_reducible exact List.mem_cons_self | refine List.mem_cons_of_mem _ ?_)) IM.out).mono ?_
  rintro e w8 ⟨G0, g0, lo7, hi7, rfl, HS⟩
  clear r0 r1
  go_wp2_with fail
  refine (st_eqInt64S (w0 := w) (by with_reducible exact HS) (by repeat (first | with_reducible exact List.mem_cons_self | refine List.mem_cons_of_mem _ ?_)) (by repeat (first | with_reducible exact List.mem_cons_self | refine List.mem_cons_of_mem _ ?_)) EG.out).mono ?_
  rintro e w9 ⟨rfl, HS⟩
  go_wp2_with fail
  have HD := St.drew HS
  refine start_ (n := 5) (S := fun w' => w'.cell? ⟨w6.heap.size, 0, none⟩ = some (.slice X0 p.length x0) ∧ w'.cell? ⟨w6.heap.size, 1, none⟩ = some (.slice X1 m.length x1) ∧ w'.cell? ⟨w.heap.size, 0, none⟩ = some (.slice A0 p.length c0) ∧ w'.cell? ⟨w.heap.size, 1, none⟩ = some (.slice A1 m.length c1)) (ds := []) #[false, false, false, false, false] (by kernel_rfl) rfl rfl ⟨HD.cell (cs := #[.slice X0 p.length x0, .slice X1 m.length x1]) (t := 44) (by repeat (first | with_reducible exact List.mem_cons_self | refine List.mem_cons_of_mem _ ?_)) 0 _ rfl, HD.cell (cs := #[.slice X0 p.length x0, .slice X1 m.length x1]) (t := 44) (by repeat (first | with_reducible exact List.mem_cons_self | refine List.mem_cons_of_mem _ ?_)) 1 _ rfl, HD.cell (cs := #[.slice A0 p.length c0, .slice A1 m.length c1]) (t := 40) (by repeat (first | with_reducible exact List.mem_cons_self | refine List.mem_cons_of_mem _ ?_)) 0 _ rfl, HD.cell (cs := #[.slice A0 p.length c0, .slice A1 m.length c1]) (t := 40) (by repeat (first | with_reducible exact List.mem_cons_self | refine List.mem_cons_of_mem _ ?_)) 1 _ rfl⟩ (fun hHeld => ?_)
  generalize w9.drew = wd at HD hHeld ⊢
  refine take_ (i := 0) (N := some 66) (v := ?_) (a' := ?_) #[true, false, false, false, false] rfl rfl (by kernel_rfl) (fun _ _ _ h => h) (Or.inl ⟨by rfl, ?_⟩) hHeld ?_ ?_
  rotate_left
  · rintro w' ⟨s0_, s1_, s2_, s3_⟩
    go_simp
    with_reducible rfl
  rotate_left
  · simp only [Act.put, List.setIfInBounds_toArray, List.set_cons_zero, List.set_cons_succ, i64_w, i32_w]
    rfl
  refine take_ (i := 1) (N := some 67) (v := ?_) (a' := ?_) #[true, true, false, false, false] rfl rfl (by kernel_rfl) (fun _ _ _ h => h) (Or.inl ⟨by rfl, ?_⟩) hHeld ?_ ?_
  rotate_left
  · rintro w' ⟨s0_, s1_, s2_, s3_⟩
    go_simp
    with_reducible rfl
  rotate_left
  · simp only [Act.put, List.setIfInBounds_toArray, List.set_cons_zero, List.set_cons_succ, i64_w, i32_w]
    rfl
  refine one_ (i := 2) (N := some 68) #[true, true, true, false, false] rfl rfl (by kernel_rfl) (by decide) (fun K hK => ?_)
  refine goes_ Try.func24 (by kernel_rfl) rfl #[.agg #[.slice A0 p.length c0, .slice A1 m.length c1]] (by rfl) rfl rfl (by (try simp only [List.map_toArray, List.map_cons, List.map_nil]); first | done | rfl | (simp only [List.length_drop, List.length_take]; rfl)) ?_
  refine (st_toPolicy (w0 := w) (by with_reducible exact HD) HR0.out HC0.out HR1.out HC1.out T0.out T1.out).mono ?_
  rintro e w10 ⟨Y0, y0, Y1, y1, rfl, lo8, hi8, lo9, hi9, HS⟩
  refine ⟨_, rfl, ?_⟩
  have r0 : w10.cell? ⟨w6.heap.size, 0, none⟩ = some (.slice X0 p.length x0) := HS.cell (cs := #[.slice X0 p.length x0, .slice X1 m.length x1]) (t := 44) (by repeat (first | with_reducible exact List.mem_cons_self | refine List.mem_cons_of_mem _ ?_)) 0 _ rfl
  have r1 : w10.cell? ⟨w6.heap.size, 1, none⟩ = some (.slice X1 m.length x1) := HS.cell (cs := #[.slice X0 p.length x0, .slice X1 m.length x1]) (t := 44) (by repeat (first | with_reducible exact List.mem_cons_self | refine List.mem_cons_of_mem _ ?_)) 1 _ rfl
  have q0 : w10.cell? ⟨w.heap.size, 0, none⟩ = some (.slice A0 p.length c0) := HS.cell (cs := #[.slice A0 p.length c0, .slice A1 m.length c1]) (t := 40) (by repeat (first | with_reducible exact List.mem_cons_self | refine List.mem_cons_of_mem _ ?_)) 0 _ rfl
  have q1 : w10.cell? ⟨w.heap.size, 1, none⟩ = some (.slice A1 m.length c1) := HS.cell (cs := #[.slice A0 p.length c0, .slice A1 m.length c1]) (t := 40) (by repeat (first | with_reducible exact List.mem_cons_self | refine List.mem_cons_of_mem _ ?_)) 1 _ rfl
  refine hK.out _ _ ⟨r0, r1, q0, q1⟩ (fun hHeld => ?_)
  clear hK K r0 r1 q0 q1
  refine norm_ (a' := ?_) ?_ ?_
  rotate_left
  · show Act.put _ (some 68) _ = _
    simp only [Act.put, List.setIfInBounds_toArray, List.set_cons_zero, List.set_cons_succ, i64_w, i32_w]
    rfl
  refine one_ (i := 3) (N := some 69) #[true, true, true, true, false] rfl rfl (by kernel_rfl) (by decide) (fun K hK => ?_)
  refine goes_ Try.func28 (by kernel_rfl) rfl #[.agg #[.slice X0 p.length x0, .slice X1 m.length x1], .agg #[.slice Y0 p.length y0, .slice Y1 m.length y1]] (by rfl) rfl rfl (by (try simp only [List.map_toArray, List.map_cons, List.map_nil]); first | done | rfl | (simp only [List.length_drop, List.length_take]; rfl)) ?_
  refine (st_eqPolicy (w0 := w) (by with_reducible exact HS) (by repeat (first | with_reducible exact List.mem_cons_self | refine List.mem_cons_of_mem _ ?_)) (by repeat (first | with_reducible exact List.mem_cons_self | refine List.mem_cons_of_mem _ ?_)) (by repeat (first | with_reducible exact List.mem_cons_self | refine List.mem_cons_of_mem _ ?_)) (by repeat (first | with_reducible exact List.mem_cons_self | refine List.mem_cons_of_mem _ ?_)) EP.out).mono ?_
  rintro e w11 ⟨rfl, HS⟩
  refine ⟨_, rfl, ?_⟩
  have r0 : w11.cell? ⟨w6.heap.size, 0, none⟩ = some (.slice X0 p.length x0) := HS.cell (cs := #[.slice X0 p.length x0, .slice X1 m.length x1]) (t := 44) (by repeat (first | with_reducible exact List.mem_cons_self | refine List.mem_cons_of_mem _ ?_)) 0 _ rfl
  have r1 : w11.cell? ⟨w6.heap.size, 1, none⟩ = some (.slice X1 m.length x1) := HS.cell (cs := #[.slice X0 p.length x0, .slice X1 m.length x1]) (t := 44) (by repeat (first | with_reducible exact List.mem_cons_self | refine List.mem_cons_of_mem _ ?_)) 1 _ rfl
  have q0 : w11.cell? ⟨w.heap.size, 0, none⟩ = some (.slice A0 p.length c0) := HS.cell (cs := #[.slice A0 p.length c0, .slice A1 m.length c1]) (t := 40) (by repeat (first | with_reducible exact List.mem_cons_self | refine List.mem_cons_of_mem _ ?_)) 0 _ rfl
  have q1 : w11.cell? ⟨w.heap.size, 1, none⟩ = some (.slice A1 m.length c1) := HS.cell (cs := #[.slice A0 p.length c0, .slice A1 m.length c1]) (t := 40) (by repeat (first | with_reducible exact List.mem_cons_self | refine List.mem_cons_of_mem _ ?_)) 1 _ rfl
  refine hK.out _ _ ⟨r0, r1, q0, q1⟩ (fun hHeld => ?_)
  clear hK K r0 r1 q0 q1
  refine norm_ (a' := ?_) ?_ ?_
  rotate_left
  · show Act.put _ (some 69) _ = _
    simp only [Act.put, List.setIfInBounds_toArray, List.set_cons_zero, List.set_cons_succ, i64_w, i32_w]
    rfl
  refine pure_ (i := 4) (N := some 70) (v := ?_) (a' := ?_) #[true, true, true, true, true] rfl rfl (by kernel_rfl) (fun _ _ _ h => h) (Or.inl ⟨by rfl, ?_⟩) ?_ ?_
  rotate_left
  · intro w'
    go_simp
    with_reducible rfl
  rotate_left
  · simp only [Act.put, List.setIfInBounds_toArray, List.set_cons_zero, List.set_cons_succ, i64_w, i32_w]
    rfl
  refine done_ (by kernel_rfl) ?_
  clear hHeld HD
  go_wp2_with fail
  refine (st_toInt64S' (w0 := w) (by with_reducible exact HS) HR2.out HC2.out T2.out).mono ?_
  rintro e w12 ⟨Y2, y2, lo10, hi10, rfl, HS⟩
  go_wp2_with fail
  refine (st_eqInt64S (w0 := w) (by with_reducible exact HS) (by repeat (first | with_reducible exact List.mem_cons_self | refine List.mem_cons_of_mem _ ?_)) (by repeat (first | with_reducible exact List.mem_cons_self | refine List.mem_cons_of_mem _ ?_)) EC.out).mono ?_
  rintro e w13 ⟨rfl, HS⟩
  have r0 : w13.cell? ⟨w6.heap.size, 0, none⟩ = some (.slice X0 p.length x0) := HS.cell (cs := #[.slice X0 p.length x0, .slice X1 m.length x1]) (t := 44) (by repeat (first | with_reducible exact List.mem_cons_self | refine List.mem_cons_of_mem _ ?_)) 0 _ rfl
  have r1 : w13.cell? ⟨w6.heap.size, 1, none⟩ = some (.slice X1 m.length x1) := HS.cell (cs := #[.slice X0 p.length x0, .slice X1 m.length x1]) (t := 44) (by repeat (first | with_reducible exact List.mem_cons_self | refine List.mem_cons_of_mem _ ?_)) 1 _ rfl
  go_wp2_with fail
  refine (st_markPolicy (w0 := w) (by with_reducible exact HS) (by repeat (first | with_reducible exact Upd.here | apply Upd.there)) (by repeat (first | with_reducible exact Upd.here | apply Upd.there)) HL.out HRR.out HSS.out (by decide) (by decide) HA1.out MP.out).mono ?_
  rintro e w14 ⟨rfl, HS⟩
  clear r0 r1
  go_wp2_with fail
  refine (st_markInt64S (w0 := w) (by with_reducible exact HS) (by repeat (first | with_reducible exact Upd.here | apply Upd.there)) MC.out).mono ?_
  rintro e w15 ⟨rfl, HS⟩
  go_wp2_with fail
  refine (st_eqInt64S (w0 := w) (by with_reducible exact HS) (by repeat (first | with_reducible exact List.mem_cons_self | refine List.mem_cons_of_mem _ ?_)) (by repeat (first | with_reducible exact List.mem_cons_self | refine List.mem_cons_of_mem _ ?_)) EG.out).mono ?_
  rintro e w16 ⟨rfl, HS⟩
  go_wp2_with fail
  refine (st_markInt64S (w0 := w) (by with_reducible exact HS) (by repeat (first | with_reducible exact Upd.here | apply Upd.there)) MG.out).mono ?_
  rintro e w17 ⟨rfl, HS⟩
  go_wp2_with fail
  refine (st_heldInt64S (w0 := w) (by with_reducible exact HS) (by repeat (first | with_reducible exact List.mem_cons_self | refine List.mem_cons_of_mem _ ?_)) HG.out).mono ?_
  rintro e w18 ⟨rfl, HS⟩
  have q0 : w18.cell? ⟨w.heap.size, 0, none⟩ = some (.slice A0 p.length c0) := HS.cell (cs := #[.slice A0 p.length c0, .slice A1 m.length c1]) (t := 40) (by repeat (first | with_reducible exact List.mem_cons_self | refine List.mem_cons_of_mem _ ?_)) 0 _ rfl
  have q1 : w18.cell? ⟨w.heap.size, 1, none⟩ = some (.slice A1 m.length c1) := HS.cell (cs := #[.slice A0 p.length c0, .slice A1 m.length c1]) (t := 40) (by repeat (first | with_reducible exact List.mem_cons_self | refine List.mem_cons_of_mem _ ?_)) 1 _ rfl
  go_wp2_with fail
  refine (st_toPolicy (w0 := w) (by with_reducible exact HS) HR0.out HC0.out HR1.out HC1.out T0.out T1.out).mono ?_
  rintro e w19 ⟨Z0, z0, Z1, z1, rfl, lo11, hi11, lo12, hi12, HS⟩
  clear q0 q1
  go_wp2_with fail
  refine (st_toInt64S' (w0 := w) (by with_reducible exact HS) HR2.out HC2.out T2.out).mono ?_
  rintro e w20 ⟨Z2, z2, lo13, hi13, rfl, HS⟩
  go_wp2_with fail
  refine (st_implX (w0 := w) (by with_reducible exact HS) (by repeat (first | with_reducible exact List.mem_cons_self | refine List.mem_cons_of_mem _ ?_)) (by repeat (first | with_reducible exact List.mem_cons_self | refine List.mem_cons_of_mem _ ?_)) (by repeat (first | with_reducible exact List.mem_cons_self | refine List.mem_cons_of_mem _ ?_)) IM.out).mono ?_
  rintro e w21 ⟨H0, h0, lo14, hi14, rfl, HS⟩
  go_wp2_with fail
  refine (st_eqInt64S (w0 := w) (by with_reducible exact HS) (by repeat (first | with_reducible exact List.mem_cons_self | refine List.mem_cons_of_mem _ ?_)) (by repeat (first | with_reducible exact List.mem_cons_self | refine List.mem_cons_of_mem _ ?_)) EG.out).mono ?_
  rintro e w22 ⟨rfl, HS⟩
  go_wp2_with fail
  refine (st_heldInt64S (w0 := w) (by with_reducible exact HS) (by repeat (first | with_reducible exact List.mem_cons_self | refine List.mem_cons_of_mem _ ?_)) HG.out).mono ?_
  rintro e w23 ⟨rfl, HS⟩
  go_wp2_with fail
  go_ret
  exact ⟨rfl, HS.below⟩
def laws_FnExactStepPolicy.f (l0_0 : List (List Int)) (l0_1 l1 : List Int) (a2 : Int) : Option Bool := some true
theorem laws_FnExactStepPolicy.calls (A0_0 : Option Addr) (c0_0 : Nat) (l0_0 : List (List Int)) (A0_1 : Option Addr) (c0_1 : Nat) (l0_1 : List Int) (A1 : Option Addr) (c1 : Nat) (l1 : List Int) (a2 : Int) (r : Bool) (w : World) (hr0_0 : Kd.C (Kd.slice 2 (Kd.int .i64)) w A0_0 l0_0.length l0_0) (hc0_0 : l0_0.length ≤ c0_0) (hr0_1 : Kd.C (Kd.int .i64) w A0_1 l0_1.length l0_1) (hc0_1 : l0_1.length ≤ c0_1) (hr1 : Kd.C (Kd.int .i64) w A1 l1.length l1) (hc1 : l1.length ≤ c1) (h : laws_FnExactStepPolicy.f l0_0 l0_1 l1 a2 = some r) :
    Calls Try.prog 4 #[.agg #[.slice A0_0 l0_0.length c0_0, .slice A0_1 l0_1.length c0_1], .slice A1 l1.length c1, .int .i64 a2] w fun e w' => e = .returned (.bool r) ∧ Below w.heap.size w w' := by
  obtain rfl := Option.some.inj h
  by_cases hb : (l1.length : Int) > 1048576
  · exact big1 A0_0 c0_0 l0_0 A0_1 c0_1 l0_1 A1 c1 l1 a2 w hr0_0 hc0_0 hr0_1 hc0_1 hr1 hc1 (decide_eq_true hb)
  have hsz := szPolicy_ev l0_0 l0_1 1048576 (by omega) (by omega) hr0_0.2.1 (fun y hy => rows_len hr0_0 y hy) hr0_1.2.1
  by_cases hb1 : (1048576 : Int) < (l0_0.length : Int) + (sumLen l0_0 : Int) + l0_1.length
  · rw [if_pos hb1] at hsz
    exact big2 A0_0 c0_0 l0_0 A0_1 c0_1 l0_1 A1 c1 l1 a2 w hr0_0 hc0_0 hr0_1 hc0_1 hr1 hc1 (decide_eq_false hb) (-1) (by decide) hsz
  rw [if_neg hb1] at hsz
  have L0 : l0_0.length ≤ 1048576 := by omega
  have M0 : l0_1.length ≤ 1048576 := by omega
  have C0 : l1.length ≤ 1048576 := by omega
  have I0 : ∀ y ∈ l0_0, y.length ≤ 1048576 := fun y hy => by have := sumLen_mem hy; omega
  have hlen := stepR_length l0_0 l0_1 l1 a2
  have e1 := specStepR_ev l0_0 l0_1 l1 a2 L0 I0 M0 C0
  have e2 := implStepR_ev l0_0 l0_1 l1 a2 I0 M0 C0
  generalize stepR l0_0 l0_1 l1 a2 = R at hlen e1 e2
  obtain ⟨R1, R2, R3⟩ := R
  have t0 := toInt64SS_ev l0_0 L0 I0
  rw [List.map_id] at t0
  exact walk A0_0 c0_0 l0_0 A0_1 c0_1 l0_1 A1 c1 l1 a2 w hr0_0 hc0_0 hr0_1 hc0_1 hr1 hc1 (decide_eq_false hb) _ (decide_eq_false (by omega)) hsz R1 R2 R3 _ _ _ _ _ _ (decide_eq_false (by omega)) (decide_eq_false (by omega)) t0 (toInt64S_ev l0_1 M0) (toInt64S_ev l1 C0) e1 e2 (eqInt64S_ev R1 (by simp at hlen; omega)) (eqPolicy_ev l0_0 l0_1 L0 I0 M0) (eqInt64S_ev l1 C0) L0 I0 (by omega) rfl (markInt64S_ev l0_1 _ M0 (by omega) (by omega)) (markInt64S_ev l1 _ C0 (by omega) (by omega)) (markInt64S_ev R1 1 (by simp at hlen; omega) (by omega) (by omega)) (heldInt64S_ev R1.length 1 (by simp at hlen; omega) (by omega) (by omega))

/-- THE ONE PURE STATEMENT of laws_FnExactStepPolicy. -/
def laws_FnExactStepPolicy.Pure : Prop := ∀ (l0_0 : List (List Int)) (l0_1 : List Int) (l1 : List Int) (a2 : Int), (l0_0.length ≤ 9223372036854775807 ∧ ∀ le0_0 ∈ l0_0, (le0_0.length ≤ 9223372036854775807 ∧ ∀ lee0_0 ∈ le0_0, (Lit.int .i64 lee0_0).wf = true)) → (l0_1.length ≤ 9223372036854775807 ∧ ∀ le0_1 ∈ l0_1, (Lit.int .i64 le0_1).wf = true) → (l1.length ≤ 9223372036854775807 ∧ ∀ le1 ∈ l1, (Lit.int .i64 le1).wf = true) → (Lit.int .i64 a2).wf = true → laws_FnExactStepPolicy.f l0_0 l0_1 l1 a2 = some true

end Go.Proofs.Ythahiogiafibmaa.PFnExactStepPolicy
