-- Printed by this session's own program (wip/tools/xprint.py) over the kit's print; not trusted: Lean checks it.
import Derived.Test.YtpndbaomhcehdaaZExactLevelContentsPFnExactLevelContentsx0
import Derived.Test.YtpndbaomhcehdaaZExactLevelContentsPFnExactLevelContentsx1
import Derived.Test.YtpndbaomhcehdaaZExactLevelContentsPFnExactLevelContentsx2
import Derived.Test.YtpndbaomhcehdaaZExactLevelContentsPFnExactLevelContentsx3
import Derived.Test.YtpndbaomhcehdaaZExactLevelContentsPFnExactLevelContentsx5
import Derived.Test.YtpndbaomhcehdaaZExactLevelContentsPFnExactLevelContentsx7
import Derived.Test.YtpndbaomhcehdaaZExactLevelContentsPFnExactLevelContentsx8
import Derived.Test.YtpndbaomhcehdaaZExactLevelContentsPFnExactLevelContentsx9
import Derived.Test.YtpndbaomhcehdaaZExactLevelContentsPFnExactLevelContentsx10
namespace Go.Proofs.Ytpndbaomhcehdaa.PFnExactLevelContents
open Go.RowKit Go.Proofs.YtpndbaomhcehdaaW.PrintWords Go.Proofs.YtpndbaomhcehdaaW.PrintLast Go.Proofs.YtpndbaomhcehdaaW.PrintMore
attribute [local go_sem] max2_int min2_int max_two min_two max_three min_three max_four min_four   -- for this text's walks alone
set_option linter.unusedVariables false
set_option linter.unusedSimpArgs false

/-! ### laws_FnExactLevelContents: function 6 -/
/-- n rising numbers from a on. -/
def cnt (a : Int) (n : Nat) : List Int := (List.range n).map fun (j : Nat) => a + (j : Int)
theorem cnt_length (a : Int) (n : Nat) : (cnt a n).length = n := by simp [cnt]
theorem cnt_succ (a : Int) (n : Nat) : cnt a (n + 1) = cnt a n ++ [a + (n : Int)] := by simp [cnt, List.range_succ]
theorem cnt_getD (a : Int) (n i : Nat) (h : i < n) : (cnt a n).getD i 0 = a + (i : Int) := by
  simp [cnt, List.getD_eq_getElem?_getD, h]
theorem set_mark {α : Type} (A l : List α) (i : Nat) (v : α) (h : i = A.length) (hi : i < l.length) : (A ++ l.drop i).set i v = (A ++ [v]) ++ l.drop (i + 1) := by
  subst h
  rw [List.set_append_right _ _ (Nat.le_refl _), Nat.sub_self, List.drop_eq_getElem_cons hi, List.set_cons_zero]
  simp
theorem szInt64S_f (l : List Int) (a : Int) (h0 : 0 ≤ a) (h1 : a ≤ 1048576) (hl : l.length ≤ 9223372036854775807) : laws_szInt64S.f l a = some (if a < l.length then -1 else a - l.length) := by
  unfold laws_szInt64S.f
  rw [wrap_id (by omega) (by omega)]
  by_cases h : a < l.length
  · rw [if_pos (by omega), if_pos h]
  · rw [if_neg (by omega), if_neg h]
theorem szInt64SS_ev (l : List (List Int)) (a : Int) (h0 : 0 ≤ a) (h1 : a ≤ 1048576) (hl : l.length ≤ 9223372036854775807) (hi : ∀ x ∈ l, x.length ≤ 9223372036854775807) :
    Ev (fun k => laws_szInt64SS.f k l a) (if a < (l.length : Int) + (sumLen l : Int) then -1 else a - ((l.length : Int) + (sumLen l : Int))) := by
  unfold laws_szInt64SS.f
  rw [wrap_id (by omega) (by omega)]
  by_cases h : a < l.length
  · refine Ev.pos (by omega) (Ev.some ?_)
    rw [if_pos (by omega)]
  · refine Ev.neg (by omega) ?_
    have key : ∀ d i (b : Int), l.length - i = d → i ≤ l.length → 0 ≤ b → b ≤ 1048576 → Ev (fun k => laws_szInt64SS.l0 k l b (i : Int)) (if b < (sumLen (l.drop i) : Int) then -1 else b - (sumLen (l.drop i) : Int)) := by
      intro d
      induction d with
      | zero =>
        intro i b hd hi' hb0 hb1
        refine Ev.succ ?_
        simp only [laws_szInt64SS.l0]
        refine Ev.neg (by omega) (Ev.some ?_)
        rw [List.drop_eq_nil_of_le (by omega)]
        simp [sumLen]; omega
      | succ d ih =>
        intro i b hd hi' hb0 hb1
        refine Ev.succ ?_
        simp only [laws_szInt64SS.l0]
        have hx := hi _ (getD_mem l i [] (by omega))
        refine Ev.pos (by omega) (Ev.pos (by omega) (Ev.bindc (szInt64S_f (l.getD i []) b hb0 hb1 hx) ?_))
        rw [drop_cons l i [] (by omega), sumLen_cons]
        generalize l.getD i [] = x at hx ⊢
        by_cases hx2 : b < x.length
        · rw [if_pos hx2]
          refine Ev.pos (by omega) (Ev.some ?_)
          rw [if_pos (by omega)]
        · rw [if_neg hx2]
          refine Ev.neg (by omega) ?_
          rw [wrap_succ (show i < l.length by omega) (by omega)]
          have := ih (i + 1) (b - x.length) (by omega) (by omega) (by omega) (by omega)
          rw [show (if b < ((x.length + sumLen (l.drop (i + 1)) : Nat) : Int) then (-1 : Int) else b - ((x.length + sumLen (l.drop (i + 1)) : Nat) : Int)) = (if b - x.length < (sumLen (l.drop (i + 1)) : Int) then (-1 : Int) else b - x.length - (sumLen (l.drop (i + 1)) : Int)) by split <;> split <;> omega]
          exact this
    have := key l.length 0 (a - l.length) (by omega) (by omega) (by omega) (by omega)
    rw [List.drop_zero] at this
    rw [show (if a < (l.length : Int) + (sumLen l : Int) then (-1 : Int) else a - ((l.length : Int) + (sumLen l : Int))) = (if a - l.length < (sumLen l : Int) then (-1 : Int) else a - l.length - (sumLen l : Int)) by split <;> split <;> omega]
    exact this
theorem toInt64S_ev (l : List Int) (h : l.length ≤ 1048576) : Ev (fun k => laws_toInt64S.f k l) l := by
  unfold laws_toInt64S.f
  refine Ev.pos (by omega) (Ev.pos (by omega) ?_)
  refine Ev.upto (F := fun k s i => laws_toInt64S.l0 k l s i) (n := l.length) (r := l) (fun i s => s = (l.take i).map id ++ List.replicate (l.length - i) 0) ?_ ?_ 0 (Nat.zero_le _) _ (by simp)
  · intro i s hi hs ih
    have hsl : s.length = l.length := by rw [hs]; simp; omega
    refine Ev.succ ?_
    simp only [laws_toInt64S.l0]
    refine Ev.pos (by omega) (Ev.pos (by omega) (Ev.pos (by omega) ?_))
    rw [wrap_succ hi (by omega)]
    refine ih _ ?_
    rw [hs, Int.toNat_natCast]
    exact fill_next id l 0 0 i hi _ rfl
  · intro s hs
    refine Ev.succ ?_
    simp only [laws_toInt64S.l0]
    exact Ev.neg (by omega) (Ev.some (by rw [hs]; simp))
theorem toInt64SS_ev (l : List (List Int)) (h : l.length ≤ 1048576) (hi : ∀ x ∈ l, x.length ≤ 1048576) : Ev (fun k => laws_toInt64SS.f k l) (l.map id) := by
  unfold laws_toInt64SS.f
  refine Ev.pos (by omega) (Ev.pos (by omega) ?_)
  refine Ev.upto (F := fun k s i => laws_toInt64SS.l0 k l s i) (n := l.length) (r := l.map id) (fun i s => s = (l.take i).map id ++ List.replicate (l.length - i) []) ?_ ?_ 0 (Nat.zero_le _) _ (by simp)
  · intro i s hi' hs ih
    have hsl : s.length = l.length := by rw [hs]; simp; omega
    refine Ev.succ ?_
    simp only [laws_toInt64SS.l0]
    refine Ev.pos (by omega) (Ev.pos (by omega) (Ev.bind (toInt64S_ev (l.getD i []) (hi _ (getD_mem l i [] hi'))) (Ev.pos (by omega) ?_)))
    rw [wrap_succ hi' (by omega)]
    refine ih _ ?_
    rw [hs, Int.toNat_natCast]
    exact fill_next id l [] [] i hi' _ rfl
  · intro s hs
    refine Ev.succ ?_
    simp only [laws_toInt64SS.l0]
    exact Ev.neg (by omega) (Ev.some (by rw [hs]; simp))
theorem eqInt64S_ev (l : List Int) (h : l.length ≤ 1048576) : Ev (fun k => laws_eqInt64S.f k l l) true := by
  unfold laws_eqInt64S.f
  refine Ev.pos rfl ?_
  refine Ev.upto (F := fun k (_ : Unit) i => laws_eqInt64S.l0 k l l i) (n := l.length) (r := true) (fun _ _ => True) ?_ ?_ 0 (Nat.zero_le _) () trivial
  · intro i s hi _ ih
    refine Ev.succ ?_
    simp only [laws_eqInt64S.l0]
    refine Ev.pos (by omega) (Ev.pos (by omega) (Ev.pos (by omega) (Ev.pos (by simp) ?_)))
    rw [wrap_succ hi (by omega)]
    exact ih () trivial
  · intro s _
    refine Ev.succ ?_
    simp only [laws_eqInt64S.l0]
    exact Ev.neg (by omega) (Ev.some rfl)
theorem eqInt64SS_ev (l : List (List Int)) (h : l.length ≤ 1048576) (hi : ∀ x ∈ l, x.length ≤ 1048576) : Ev (fun k => laws_eqInt64SS.f k l l) true := by
  unfold laws_eqInt64SS.f
  refine Ev.pos rfl ?_
  refine Ev.upto (F := fun k (_ : Unit) i => laws_eqInt64SS.l0 k l l i) (n := l.length) (r := true) (fun _ _ => True) ?_ ?_ 0 (Nat.zero_le _) () trivial
  · intro i s hi' _ ih
    refine Ev.succ ?_
    simp only [laws_eqInt64SS.l0]
    refine Ev.pos (by omega) (Ev.pos (by omega) (Ev.pos (by omega) (Ev.bind (eqInt64S_ev (l.getD i []) (hi _ (getD_mem l i [] hi'))) (Ev.pos rfl ?_))))
    rw [wrap_succ hi' (by omega)]
    exact ih () trivial
  · intro s _
    refine Ev.succ ?_
    simp only [laws_eqInt64SS.l0]
    exact Ev.neg (by omega) (Ev.some rfl)
theorem szPolicy_ev (h : List (List Int)) (m : List Int) (a : Int) (h0 : 0 ≤ a) (h1 : a ≤ 1048576) (hl : h.length ≤ 9223372036854775807) (hi : ∀ x ∈ h, x.length ≤ 9223372036854775807) (hm : m.length ≤ 9223372036854775807) :
    Ev (fun k => laws_szPolicy.f k h m a) (if a < (h.length : Int) + (sumLen h : Int) + m.length then -1 else a - ((h.length : Int) + (sumLen h : Int) + m.length)) := by
  unfold laws_szPolicy.f
  refine Ev.bind (szInt64SS_ev h a h0 h1 hl hi) ?_
  by_cases hb : a < (h.length : Int) + (sumLen h : Int)
  · rw [if_pos hb]
    exact Ev.pos (by omega) (Ev.some (by rw [if_pos (by omega)]))
  · rw [if_neg hb]
    refine Ev.neg (by omega) (Ev.bindc (szInt64S_f m _ (by omega) (by omega) hm) ?_)
    by_cases hc : a - ((h.length : Int) + (sumLen h : Int)) < m.length
    · rw [if_pos hc]
      exact Ev.pos (by omega) (Ev.some (by rw [if_pos (by omega)]))
    · rw [if_neg hc]
      exact Ev.neg (by omega) (Ev.some (by rw [if_neg (by omega)]; omega))
theorem eqPolicy_ev (h : List (List Int)) (m : List Int) (hl : h.length ≤ 1048576) (hi : ∀ x ∈ h, x.length ≤ 1048576) (hm : m.length ≤ 1048576) : Ev (fun k => laws_eqPolicy.f k h m h m) true := by
  unfold laws_eqPolicy.f
  exact Ev.bind (eqInt64SS_ev h hl hi) (Ev.pos rfl (Ev.bind (eqInt64S_ev m hm) (Ev.pos rfl (Ev.some rfl))))
def usesB (l : List Int) : Bool := decide (l.length ≤ 60) && xAll l 0 63
theorem specAddress_f (a : Int) : spec_l02Address.f a = some (decide (0 ≤ a) && decide (a ≤ 63)) := by
  unfold spec_l02Address.f
  rw [in_spec]
  rfl
theorem specUses_ev (l : List Int) (hl : l.length ≤ 1048576) : Ev (fun k => spec_l02Uses.f k l) (usesB l) := by
  unfold spec_l02Uses.f
  refine Ev.upto (F := fun k (_ : Unit) i => spec_l02Uses.l0 k l i) (n := l.length) (r := usesB l) (fun i _ => ((l.take i).any fun n => !(decide (0 ≤ n) && decide (n ≤ 63))) = false) ?_ ?_ 0 (Nat.zero_le _) () (by simp)
  · intro i s hi hs ih
    refine Ev.succ ?_
    simp only [spec_l02Uses.l0]
    have hrd : rd l (i : Int) = l.getD i 0 := rfl
    rw [hrd, specAddress_f, wrap_succ hi (by omega)]
    refine Ev.pos (by omega) (Ev.pos (by omega) (Ev.bindc rfl ?_))
    by_cases hx : (decide (0 ≤ l.getD i 0) && decide (l.getD i 0 ≤ 63)) = true
    · refine Ev.pos hx (ih () ?_)
      rw [take_succ l i 0 hi, List.any_append, hs, List.any_cons, hx]
      rfl
    · refine Ev.neg hx (Ev.some ?_)
      have : (l.any fun n => !(decide (0 ≤ n) && decide (n ≤ 63))) = true := List.any_eq_true.2 ⟨_, getD_mem l i 0 hi, by rw [Bool.eq_false_iff.2 hx]; rfl⟩
      unfold usesB xAll
      rw [this, Bool.not_true, Bool.and_false]
  · intro s hs
    refine Ev.succ ?_
    simp only [spec_l02Uses.l0]
    refine Ev.neg (by omega) (Ev.some ?_)
    rw [List.take_length] at hs
    unfold usesB xAll
    rw [hs, Bool.not_false, Bool.and_true]
    exact decide_eq_decide.2 (by omega)
theorem implUses_f (l : List Int) : impl_ValidUses.f l = some (usesB l) := by
  unfold impl_ValidUses.f impl_allIn.f usesB
  by_cases h : l.length ≤ 60
  · rw [if_pos (by omega), decide_eq_true h]; rfl
  · rw [if_neg (by omega), decide_eq_false h]; rfl
theorem implIs_f (h : List (List Int)) (m : List Int) (hi : ∀ x ∈ h, x.length ≤ 1048576) (hm : m.length ≤ 1048576) : impl_ValidPolicy.f h m = some (validB h m) := by
  unfold impl_ValidPolicy.f
  rw [if_pos ⟨hm, hi⟩]
theorem implLevels_f (h1 : List (List Int)) (m1 : List Int) (h2 : List (List Int)) (m2 : List Int) (md : Int) (hi1 : ∀ x ∈ h1, x.length ≤ 1048576) (hm1 : m1.length ≤ 1048576) (hi2 : ∀ x ∈ h2, x.length ≤ 1048576) (hm2 : m2.length ≤ 1048576) :
    impl_ValidLevels.f h1 m1 h2 m2 md = some (levB h1 m1 h2 m2 md) := by
  unfold impl_ValidLevels.f levB
  rw [implIs_f h1 m1 hi1 hm1, implIs_f h2 m2 hi2 hm2, in_impl]
  simp only [Option.bind_some]
  cases validB h1 m1 <;> cases validB h2 m2 <;> rfl
theorem specLevels_f (h1 : List (List Int)) (m1 : List Int) (h2 : List (List Int)) (m2 : List Int) (md : Int) (hl1 : h1.length ≤ 1048576) (hi1 : ∀ x ∈ h1, x.length ≤ 1048576) (hm1 : m1.length ≤ 1048576) (hl2 : h2.length ≤ 1048576) (hi2 : ∀ x ∈ h2, x.length ≤ 1048576) (hm2 : m2.length ≤ 1048576) :
    spec_l07Levels.f h1 m1 h2 m2 md = some (levB h1 m1 h2 m2 md) := by
  unfold spec_l07Levels.f
  rw [if_pos ⟨⟨hl1, hi1, hm1⟩, hl2, hi2, hm2⟩]
theorem szLevels_ev (h1 : List (List Int)) (m1 : List Int) (h2 : List (List Int)) (m2 : List Int) (md : Int) (hl1 : h1.length ≤ 9223372036854775807) (hi1 : ∀ x ∈ h1, x.length ≤ 9223372036854775807) (hm1 : m1.length ≤ 9223372036854775807) (hl2 : h2.length ≤ 9223372036854775807) (hi2 : ∀ x ∈ h2, x.length ≤ 9223372036854775807) (hm2 : m2.length ≤ 9223372036854775807) :
    ∃ z, Ev (fun k => laws_szLevels.f k h1 m1 h2 m2 md 1048576) z ∧ (z < 0 ∨ 0 ≤ z ∧ (h1.length ≤ 1048576 ∧ (∀ x ∈ h1, x.length ≤ 1048576) ∧ m1.length ≤ 1048576) ∧ (h2.length ≤ 1048576 ∧ (∀ x ∈ h2, x.length ≤ 1048576) ∧ m2.length ≤ 1048576) ∧ sumLen h1 + m1.length + sumLen h2 + m2.length ≤ 1048576) := by
  unfold laws_szLevels.f
  by_cases hb1 : (1048576 : Int) < (h1.length : Int) + (sumLen h1 : Int) + m1.length
  · refine ⟨-1, Ev.bind (szPolicy_ev h1 m1 1048576 (by omega) (by omega) hl1 hi1 hm1) ?_, .inl (by omega)⟩
    rw [if_pos hb1]
    exact Ev.pos (by omega) (Ev.some rfl)
  by_cases hb2 : (1048576 : Int) - ((h1.length : Int) + (sumLen h1 : Int) + m1.length) < (h2.length : Int) + (sumLen h2 : Int) + m2.length
  · refine ⟨-1, Ev.bind (szPolicy_ev h1 m1 1048576 (by omega) (by omega) hl1 hi1 hm1) ?_, .inl (by omega)⟩
    rw [if_neg hb1]
    refine Ev.neg (by omega) (Ev.bind (szPolicy_ev h2 m2 _ (by omega) (by omega) hl2 hi2 hm2) ?_)
    rw [if_pos hb2]
    exact Ev.pos (by omega) (Ev.some rfl)
  · refine ⟨(1048576 : Int) - ((h1.length : Int) + (sumLen h1 : Int) + m1.length) - ((h2.length : Int) + (sumLen h2 : Int) + m2.length), Ev.bind (szPolicy_ev h1 m1 1048576 (by omega) (by omega) hl1 hi1 hm1) ?_, .inr ⟨?_, ⟨by omega, fun x hx => by have := sumLen_mem hx; omega, by omega⟩, ⟨by omega, fun x hx => by have := sumLen_mem hx; omega, by omega⟩, by omega⟩⟩
    · rw [if_neg hb1]
      refine Ev.neg (by omega) (Ev.bind (szPolicy_ev h2 m2 _ (by omega) (by omega) hl2 hi2 hm2) ?_)
      rw [if_neg hb2]
      exact Ev.neg (by omega) (Ev.some rfl)
    · omega
theorem eqLevels_ev (h1 : List (List Int)) (m1 : List Int) (h2 : List (List Int)) (m2 : List Int) (md : Int) (hl1 : h1.length ≤ 1048576) (hi1 : ∀ x ∈ h1, x.length ≤ 1048576) (hm1 : m1.length ≤ 1048576) (hl2 : h2.length ≤ 1048576) (hi2 : ∀ x ∈ h2, x.length ≤ 1048576) (hm2 : m2.length ≤ 1048576) :
    Ev (fun k => laws_eqLevels.f k h1 m1 h2 m2 md h1 m1 h2 m2 md) true := by
  unfold laws_eqLevels.f
  exact Ev.bind (eqPolicy_ev h1 m1 hl1 hi1 hm1) (Ev.pos rfl (Ev.bind (eqPolicy_ev h2 m2 hl2 hi2 hm2) (Ev.pos rfl (Ev.pos rfl (Ev.some rfl)))))
theorem stackV_len {h1 h2 : List (List Int)} {m1 m2 : List Int} {md : Int} (hv1 : validB h1 m1 = true) (hv2 : validB h2 m2 = true) : ∀ (xs wh f s : List Int) (b : Int), f.length = m1.length → s.length = m2.length →
    (stackV h1 m1 h2 m2 md xs wh f s b).1.length = wh.length + xs.length ∧ (stackV h1 m1 h2 m2 md xs wh f s b).2.1.length = m1.length ∧ (stackV h1 m1 h2 m2 md xs wh f s b).2.2.1.length = m2.length
  | [], wh, f, s, b, hf, hs => by rw [stackV]; exact ⟨rfl, hf, hs⟩
  | x :: xs, wh, f, s, b, hf, hs => by
    rw [stackV_cons]
    obtain ⟨e1, e2, e3, _, _⟩ := useV_inv (md := md) hv1 hv2 hf hs x wh b
    obtain ⟨i1, i2, i3⟩ := stackV_len hv1 hv2 xs _ _ _ (useV h1 m1 h2 m2 md x wh f s b).2.2.2 e2 e3
    refine ⟨?_, i2, i3⟩
    rw [i1, e1, List.length_cons]
    omega
theorem levB_facts {h1 h2 : List (List Int)} {m1 m2 : List Int} {md : Int} (h : levB h1 m1 h2 m2 md = true) : validB h1 m1 = true ∧ validB h2 m2 = true := by
  unfold levB at h
  rw [Bool.and_eq_true, Bool.and_eq_true] at h
  exact h.1
theorem uses_len {u : List Int} (h : usesB u = true) : u.length ≤ 60 := by
  unfold usesB at h
  rw [Bool.and_eq_true, decide_eq_true_eq] at h
  exact h.1
theorem rows_len {α : Type} {d : Kd α} {e : Nat} {w : World} {A : Option Addr} {n : Nat} {xs : List (List α)} (h : Kd.C (Kd.slice e d) w A n xs) (y : List α) (hy : y ∈ xs) : y.length ≤ 9223372036854775807 := by
  obtain ⟨i, hi, rfl⟩ := List.getElem_of_mem hy
  obtain ⟨ad, A', c', _, _, _, hC⟩ := at_row h i (by have := h.1; omega)
  have h2 := hC.2.1
  rw [getD_lt xs i [] hi] at h2
  exact h2
theorem markInt64S_ev (l : List Int) (a : Int) (h : l.length ≤ 1048576) (h0 : 0 ≤ a) (h1 : a ≤ 1000000000000) : Ev (fun k => laws_markInt64S.f k l a) (a + (l.length : Int), cnt a l.length) := by
  unfold laws_markInt64S.f
  refine Ev.upto (F := fun k (s : List Int × Int) i => laws_markInt64S.l0 k s.1 s.2 i) (n := l.length) (r := (a + (l.length : Int), cnt a l.length)) (fun i s => s = (cnt a i ++ l.drop i, a + (i : Int))) ?_ ?_ 0 (Nat.zero_le _) (l, a) (by simp [cnt])
  · intro i s hi hs ih
    have hsl : (cnt a i ++ l.drop i).length = l.length := by simp [cnt_length]; omega
    refine Ev.succ ?_
    simp only [laws_markInt64S.l0, hs]
    refine Ev.pos (by omega) (Ev.pos (by omega) ?_)
    rw [wrap_succ hi (by omega), wrap_id (x := a + (i : Int) + 1) (by omega) (by omega)]
    refine ih (_, _) ?_
    rw [Int.toNat_natCast, set_mark _ _ _ _ (cnt_length a i).symm hi, cnt_succ]
    simp only [Prod.mk.injEq, true_and]
    omega
  · intro s hs
    have hsl : (cnt a l.length ++ l.drop l.length).length = l.length := by simp [cnt_length]
    refine Ev.succ ?_
    simp only [laws_markInt64S.l0, hs]
    exact Ev.neg (by omega) (Ev.some (by simp))
theorem heldInt64S_ev (n : Nat) (a : Int) (h : n ≤ 1048576) (h0 : 0 ≤ a) (h1 : a ≤ 1000000000000) : Ev (fun k => laws_heldInt64S.f k (cnt a n) a) (a + (n : Int)) := by
  unfold laws_heldInt64S.f
  have hl := cnt_length a n
  refine Ev.upto (F := fun k (s : Int) i => laws_heldInt64S.l0 k (cnt a n) s i) (n := n) (r := a + (n : Int)) (fun i s => s = a + (i : Int)) ?_ ?_ 0 (Nat.zero_le _) a (by simp)
  · intro i s hi hs ih
    refine Ev.succ ?_
    simp only [laws_heldInt64S.l0, hs]
    have hr : rd (cnt a n) (i : Int) = a + (i : Int) := by unfold rd; rw [Int.toNat_natCast, cnt_getD _ _ _ hi]
    refine Ev.pos (by omega) (Ev.pos (by omega) (Ev.pos hr ?_))
    rw [wrap_succ hi (by omega), wrap_id (x := a + (i : Int) + 1) (by omega) (by omega)]
    exact ih _ (by omega)
  · intro s hs
    refine Ev.succ ?_
    simp only [laws_heldInt64S.l0, hs]
    exact Ev.neg (by omega) (Ev.some rfl)
/-- A thing of which nothing is told. -/
def noThing : Thing where
  P _ _ _ := True
  move _ _ := trivial
theorem st_toInt64S_ {w0 W : World} {L : List (Thing × Nat × Nat)} {A : Option Addr} {c : Nat} {l : List Int} {r : List Int} (h : Hold w0 W L) (hr : Kd.C (Kd.int .i64) w0 A l.length l) (hc : l.length ≤ c) (he : Ev (fun k => laws_toInt64S.f k l) r) :
    Calls Try.prog 26 #[.slice A l.length c] W fun e w' => ∃ B cb lo hi, e = .returned (.slice B r.length cb) ∧ Hold w0 w' ((flat (Kd.int .i64) 2 (.slice B r.length cb) r, lo, hi) :: L) := by
  obtain ⟨k, hk⟩ := he
  refine (laws_toInt64S.calls k A c l r W (Kd.C_below hr h.below) hc (hk k (Nat.le_refl _))).mono ?_
  rintro e w' ⟨v, rfl, hr', hb⟩
  obtain ⟨B, cb, rfl⟩ := Kd.R_slice hr'
  exact ⟨B, cb, _, _, rfl, h.add hb (flat_new hr')⟩
theorem st_eqInt64S_ {w0 W : World} {L : List (Thing × Nat × Nat)} {v1 v2 : Value} {l : List Int} {lo1 hi1 lo2 hi2 : Nat} {b : Bool} (h : Hold w0 W L) (h1 : (flat (Kd.int .i64) 2 v1 l, lo1, hi1) ∈ L) (h2 : (flat (Kd.int .i64) 2 v2 l, lo2, hi2) ∈ L) (he : Ev (fun k => laws_eqInt64S.f k l l) b) :
    Calls Try.prog 29 #[v1, v2] W fun e w' => e = .returned (.bool b) ∧ Hold w0 w' L := by
  obtain ⟨A1, c1, rfl, hc1, hC1⟩ := flat_reads (h.get h1).1
  obtain ⟨A2, c2, rfl, hc2, hC2⟩ := flat_reads (h.get h2).1
  obtain ⟨k, hk⟩ := he
  refine (laws_eqInt64S.calls k A1 c1 l A2 c2 l b W hC1 hc1 hC2 hc2 (hk k (Nat.le_refl _))).mono ?_
  rintro e w' ⟨rfl, hb⟩
  exact ⟨rfl, by first | exact h.step hb | exact h.step hb.below⟩
theorem st_markInt64S_ {w0 W : World} {L L' : List (Thing × Nat × Nat)} {v : Value} {l l' : List Int} {a r : Int} {lo hi : Nat} (h : Hold w0 W L) (u : Upd (flat (Kd.int .i64) 2 v l) (flat (Kd.int .i64) 2 v l') lo hi L L') (he : Ev (fun k => laws_markInt64S.f k l a) (r, l')) :
    Calls Try.prog 33 #[v, .int .i64 a] W fun e w' => e = .returned (.int .i64 r) ∧ Hold w0 w' L' := by
  obtain ⟨hp, hlo, _, _⟩ := h.get u.mem
  obtain ⟨k, hk⟩ := he
  refine (laws_markInt64S.calls k (fun k_ => some k_ = v.ownBlock) v l a r l' w0 W h.below (Kd.R_lower (Kd.R_tight rfl hp) hlo) (hk k (Nat.le_refl _))).mono ?_
  rintro e w' ⟨rfl, hr', hb, hk'⟩
  exact ⟨rfl, h.upd u hb (hk'.mono (fun k e => hp.1 k e.symm)) (flat_marked (b := w0.heap.size) rfl (fun _ _ _ _ h => h) hp hr')⟩
theorem st_heldInt64S_ {w0 W : World} {L : List (Thing × Nat × Nat)} {v1 : Value} {l : List Int} {a r : Int} {lo hi : Nat} (h : Hold w0 W L) (h1 : (flat (Kd.int .i64) 2 v1 l, lo, hi) ∈ L) (he : Ev (fun k => laws_heldInt64S.f k l a) r) :
    Calls Try.prog 34 #[v1, .int .i64 a] W fun e w' => e = .returned (.int .i64 r) ∧ Hold w0 w' L := by
  obtain ⟨A1, c1, rfl, hc1, hC1⟩ := flat_reads (h.get h1).1
  obtain ⟨k, hk⟩ := he
  refine (laws_heldInt64S.calls k A1 c1 l a r W hC1 hc1 (hk k (Nat.le_refl _))).mono ?_
  rintro e w' ⟨rfl, hb⟩
  exact ⟨rfl, by first | exact h.step hb | exact h.step hb.below⟩
theorem st_toInt64SS_ {w0 W : World} {L : List (Thing × Nat × Nat)} {A : Option Addr} {c : Nat} {l : List (List Int)} {r : List (List Int)} (h : Hold w0 W L) (hr : Kd.C (Kd.slice 2 (Kd.int .i64)) w0 A l.length l) (hc : l.length ≤ c) (he : Ev (fun k => laws_toInt64SS.f k l) r) :
    Calls Try.prog 102 #[.slice A l.length c] W fun e w' => ∃ B cb lo hi, e = .returned (.slice B r.length cb) ∧ Hold w0 w' ((nest (Kd.slice 2 (Kd.int .i64)) 24 (.slice B r.length cb) r, lo, hi) :: L) := by
  obtain ⟨k, hk⟩ := he
  refine (laws_toInt64SS.calls k A c l r W (Kd.C_below hr h.below) hc (hk k (Nat.le_refl _))).mono ?_
  rintro e w' ⟨v, rfl, hr', hb⟩
  obtain ⟨B, cb, rfl⟩ := Kd.S_slice hr'
  exact ⟨B, cb, _, _, rfl, h.add hb (nest_new hr')⟩
theorem sumLen_take_le_ {α : Type} (l : List (List α)) (i : Nat) : sumLen (l.take i) ≤ sumLen l := by
  have h : sumLen l = sumLen (l.take i) + sumLen (l.drop i) := by unfold sumLen; rw [← List.sum_append, ← List.map_append, List.take_append_drop]
  omega
set_option maxHeartbeats 1600000 in
/-- Marks in a list of lists: what the lists are then is not told; what lies elsewhere is kept. -/
theorem markInt64SS_calls_ (v : Value) (l0 : List (List Int)) (a : Int) (lo hi : Nat) (w0 w : World) (hB : Below w0.heap.size w0 w) (hlo : w0.heap.size ≤ lo) (h0 : (nest (Kd.slice 2 (Kd.int .i64)) 24 v l0).P w lo hi)
    (hl : l0.length ≤ 1048576) (hr : ∀ x ∈ l0, x.length ≤ 1048576) (hs : sumLen l0 ≤ 2000000) (ha : 0 ≤ a) (ha1 : a ≤ 10000000) :
    Calls Try.prog 106 #[v, .int .i64 a] w fun e w' => e = .returned (.int .i64 (a + (sumLen l0 : Int))) ∧ Below w0.heap.size w0 w' ∧ Kept w w' (In lo hi) := by
  obtain ⟨A0, c0, rfl, hc0, _⟩ := nest_reads h0
  have HS0 := Aside0.mk h0
  have HB0 := Aside0.mk hB
  clear h0 hB
  go_enter Try.func106, Try.ntmps106
  go_wp2
  go_loopg [1, 5] l0.length (fun gg s1 s5 wr => ∃ kk : Nat, kk ≤ l0.length ∧ l0.length - kk ≤ gg ∧ s1 = .int .i64 (a + (sumLen (l0.take kk) : Int)) ∧ s5 = .int .i64 kk ∧ Aside0 (Below w0.heap.size w0 wr) ∧ Aside0 (Kept w wr (In lo hi)) ∧ ∃ m : List (List Int), Aside0 (m.length = l0.length) ∧ Aside0 (∀ i, kk ≤ i → m.getD i [] = l0.getD i []) ∧ Aside0 ((nest (Kd.slice 2 (Kd.int .i64)) 24 (.slice A0 l0.length c0) m).P wr lo hi))
  case atStart => exact ⟨0, Nat.zero_le _, by omega, by simp [sumLen], rfl, HB0, ⟨Kept.refl _ _⟩, l0, ⟨rfl⟩, ⟨fun _ _ => rfl⟩, HS0⟩
  case round =>
    obtain ⟨kk, hkk, hg, rfl, rfl, BW, KW, m, ML, MR, SW⟩ := hrel
    by_cases hlt : kk < l0.length
    · have hltz : (kk : Int) < (l0.length : Int) := by omega
      have hmlt : kk < m.length := by have := ML.out; omega
      obtain ⟨A1, c1, e1, hc1, hC⟩ := nest_reads SW.out
      have hlen := ML.out
      rw [hlen] at e1 hC
      injection e1 with e1 _ e2
      subst e1 e2
      clear hlen
      obtain ⟨ad, A1, c1, e, hx0, hle, hC1⟩ := at_row hC kk hlt
      subst e
      obtain ⟨g, rfl⟩ := Kd.R_head (Kd.S_R SW.out)
      obtain ⟨oki, c, hcl, hM, hcc, hoki, hH⟩ := Kd.S_lend SW.out [] (kk : Int) (by omega) (by have := ML.out; omega)
      obtain ⟨vi, rfl, hRi⟩ := hM
      rw [Int.toNat_natCast] at hRi hcc
      have hcell := hcc 0 vi rfl
      have hvi : vi = .slice A1 (m.getD kk []).length c1 := by
        have hx1 := hx0
        rw [add_plain] at hx1
        simp only [Kd.slice, Nat.mul_one, Nat.add_zero] at hcell
        rw [hcell] at hx1
        exact Option.some.inj hx1
      subst hvi
      have hrow : m.getD kk [] = l0.getD kk [] := MR.out kk (Nat.le_refl _)
      rw [hrow] at hRi hx0
      rw [add_plain] at hx0
      obtain ⟨y, hy⟩ : ∃ y, y = l0.getD kk [] := ⟨_, rfl⟩
      rw [← hy] at hRi hx0
      have hyl : y.length ≤ 1048576 := by rw [hy]; exact hr _ (getD_mem l0 kk [] hlt)
      have htk : l0.take (kk + 1) = l0.take kk ++ [y] := by rw [take_succ l0 kk [] hlt, hy]
      have hsm : sumLen (l0.take (kk + 1)) = sumLen (l0.take kk) + y.length := by rw [htk]; simp [sumLen]
      have hsb := sumLen_take_le_ l0 (kk + 1)
      obtain ⟨y', q, hq⟩ : ∃ y' q, ∀ k, q ≤ k → laws_markInt64S.f k y (a + (sumLen (l0.take kk) : Int)) = some ((a + (sumLen (l0.take kk) : Int)) + (y.length : Int), y') := by obtain ⟨q, hq⟩ := markInt64S_ev y (a + (sumLen (l0.take kk) : Int)) hyl (by omega) (by omega); exact ⟨_, q, hq⟩
      have HM := Aside0.mk (hq q (Nat.le_refl _))
      have HR := Aside0.mk hRi
      have HH := Aside0.mk hH
      have HY := Aside0.mk hy
      have HRO := Aside0.mk hrow
      have HO := Aside0.mk hoki
      have HML := Aside0.mk hmlt
      clear hq hRi hH hy hoki hC1 hle hC hrow hmlt
      go_wp2_with (go_at_call 33; refine (laws_markInt64S.calls q oki (.slice A1 y.length c1) y _ _ _ w0 _ BW.out (Kd.R_lower HR.out hlo) HM.out).mono ?_; rintro e w' ⟨rfl, hr', hb', hk'⟩)
      go_roundg (l0.length - (kk + 1))
      case measure => omega
      case rel =>
        refine ⟨kk + 1, by omega, by omega, by rw [hsm]; go_num, by go_num, ⟨hb'⟩, ⟨KW.out.then_ hk' (fun k hk => .inl (HO.out k hk).1)⟩, m.set kk y', ⟨by rw [List.length_set]; exact ML.out⟩, ⟨fun i hi => ?_⟩, ⟨?_⟩⟩
        · rw [← MR.out i (by omega), List.getD_eq_getElem?_getD, List.getD_eq_getElem?_getD, List.getElem?_set_ne (by omega)]
        · have hM' : (Kd.slice 2 (Kd.int .i64)).M w' lo oki y' [.slice A1 (m.getD kk []).length c1] := by
            refine ⟨_, rfl, ?_⟩
            rw [HRO.out, ← HY.out]
            exact Kd.R_reok rfl (Kd.R_raise (d := (Kd.int .i64)) (b := w0.heap.size) (b' := lo) (fun _ _ _ _ h => h) hr' (fun k hk => ((HO.out k (HR.out.1 k hk)).1).1)) (fun k hk => HR.out.1 k hk)
          have := Kd.H_back (Kd.H_kept HH.out hk' (fun k _ hn hs => hn hs)) hM' (fun k hk => hk)
          rw [Int.toNat_natCast] at this
          exact this
    · have hltz : ¬ (kk : Int) < (l0.length : Int) := by omega
      obtain rfl : kk = l0.length := by omega
      go_wp2
      go_ret
      exact ⟨by simp, BW.out, KW.out⟩
theorem st_markInt64SS_ {w0 W : World} {L L' : List (Thing × Nat × Nat)} {v : Value} {l : List (List Int)} {a : Int} {lo hi : Nat} {T' : Thing} (h : Hold w0 W L) (u : Upd (nest (Kd.slice 2 (Kd.int .i64)) 24 v l) T' lo hi L L') (ht : ∀ (w : World) lo hi, T'.P w lo hi)
    (hl : l.length ≤ 1048576) (hr : ∀ x ∈ l, x.length ≤ 1048576) (hs : sumLen l ≤ 2000000) (ha : 0 ≤ a) (ha1 : a ≤ 10000000) :
    Calls Try.prog 106 #[v, .int .i64 a] W fun e w' => e = .returned (.int .i64 (a + (sumLen l : Int))) ∧ Hold w0 w' L' := by
  obtain ⟨hp, hlo, _, _⟩ := h.get u.mem
  refine (markInt64SS_calls_ v l a lo hi w0 W h.below hlo hp hl hr hs ha ha1).mono ?_
  rintro e w' ⟨rfl, hb, hk'⟩
  exact ⟨rfl, h.upd u hb hk' (ht _ _ _)⟩
set_option maxHeartbeats 3200000 in
set_option maxRecDepth 100000 in
theorem st_toPolicy {w0 W : World} {L : List (Thing × Nat × Nat)} {A0 : Option Addr} {c0 : Nat} {l0 : List (List Int)} {A1 : Option Addr} {c1 : Nat} {l1 : List Int} {r0 : List (List Int)} {r1 : List Int} (h : Hold w0 W L) (hr0 : Kd.C (Kd.slice 2 (Kd.int .i64)) w0 A0 l0.length l0) (hc0 : l0.length ≤ c0) (hr1 : Kd.C (Kd.int .i64) w0 A1 l1.length l1) (hc1 : l1.length ≤ c1) (he0 : Ev (fun k => laws_toInt64SS.f k l0) r0) (he1 : Ev (fun k => laws_toInt64S.f k l1) r1) :
    Calls Try.prog 66 #[.agg #[.slice A0 l0.length c0, .slice A1 l1.length c1]] W fun e w' => ∃ B0 b0 B1 b1, e = .returned (.agg #[.slice B0 r0.length b0, .slice B1 r1.length b1]) ∧ ∃ lo0 hi0 lo1 hi1, Hold w0 w' ((flat (Kd.int .i64) 2 (.slice B1 r1.length b1) r1, lo1, hi1) :: (nest (Kd.slice 2 (Kd.int .i64)) 24 (.slice B0 r0.length b0) r0, lo0, hi0) :: L) := by
  have HR0 := Aside0.mk hr0
  have HC0 := Aside0.mk hc0
  have HE0 := Aside0.mk he0
  have HR1 := Aside0.mk hr1
  have HC1 := Aside0.mk hc1
  have HE1 := Aside0.mk he1
  have HS := h
  clear hr0 hc0 he0 hr1 hc1 he1 h
  go_enter Try.func66, Try.ntmps66
  go_wp2_with fail
  refine (st_toInt64SS_ (w0 := w0) (Hold.box (Hold.box (Hold.box HS _ _) _ _) _ _) HR0.out HC0.out HE0.out).mono ?_
  rintro e w1 ⟨B0, b0, lo0, hi0, rfl, HS⟩
  simp only [World.size_alloc] at HS
  have q1 : w1.cell? ⟨W.heap.size, 1, none⟩ = some (.slice A1 l1.length c1) := HS.cell (cs := #[.slice A0 l0.length c0, .slice A1 l1.length c1]) (t := 47) (by repeat (first | with_reducible exact List.mem_cons_self | refine List.mem_cons_of_mem _ ?_)) 1 _ rfl
  have u0 : w1.cell? ⟨W.heap.size + 1 + 1, 0, none⟩ = some (.slice none 0 0) := HS.cell (cs := #[.slice none 0 0, .slice none 0 0]) (t := 29) (by repeat (first | with_reducible exact List.mem_cons_self | refine List.mem_cons_of_mem _ ?_)) 0 _ rfl
  have fzu : ∀ j, w1.frozen? ⟨W.heap.size + 1 + 1, j, none⟩ = false := HS.thaw (cs := #[.slice none 0 0, .slice none 0 0]) (t := 29) (by repeat (first | with_reducible exact List.mem_cons_self | refine List.mem_cons_of_mem _ ?_))
  go_wp2_with fail
  refine (st_toInt64S_ (w0 := w0) (Hold.setBoxU (by with_reducible exact HS) 0 _ (by repeat (first | with_reducible exact Upd.here | apply Upd.there))) HR1.out HC1.out HE1.out).mono ?_
  rintro e w2 ⟨B1, b1, lo1, hi1, rfl, HS⟩
  simp only [List.setIfInBounds_toArray, List.set_cons_zero, List.set_cons_succ] at HS
  clear q1 u0 fzu
  have u0 : w2.cell? ⟨W.heap.size + 1 + 1, 0, none⟩ = some (.slice B0 r0.length b0) := HS.cell (cs := #[.slice B0 r0.length b0, .slice none 0 0]) (t := 29) (by repeat (first | with_reducible exact List.mem_cons_self | refine List.mem_cons_of_mem _ ?_)) 0 _ rfl
  have u1 : w2.cell? ⟨W.heap.size + 1 + 1, 1, none⟩ = some (.slice none 0 0) := HS.cell (cs := #[.slice B0 r0.length b0, .slice none 0 0]) (t := 29) (by repeat (first | with_reducible exact List.mem_cons_self | refine List.mem_cons_of_mem _ ?_)) 1 _ rfl
  have fzu : ∀ j, w2.frozen? ⟨W.heap.size + 1 + 1, j, none⟩ = false := HS.thaw (cs := #[.slice B0 r0.length b0, .slice none 0 0]) (t := 29) (by repeat (first | with_reducible exact List.mem_cons_self | refine List.mem_cons_of_mem _ ?_))
  have z0 : w2.cell? ⟨W.heap.size + 1, 0, none⟩ = some (.slice none 0 0) := HS.cell (cs := #[.slice none 0 0, .slice none 0 0]) (t := 29) (by repeat (first | with_reducible exact List.mem_cons_self | refine List.mem_cons_of_mem _ ?_)) 0 _ rfl
  have z1 : w2.cell? ⟨W.heap.size + 1, 1, none⟩ = some (.slice none 0 0) := HS.cell (cs := #[.slice none 0 0, .slice none 0 0]) (t := 29) (by repeat (first | with_reducible exact List.mem_cons_self | refine List.mem_cons_of_mem _ ?_)) 1 _ rfl
  have fzz : ∀ j, w2.frozen? ⟨W.heap.size + 1, j, none⟩ = false := HS.thaw (cs := #[.slice none 0 0, .slice none 0 0]) (t := 29) (by repeat (first | with_reducible exact List.mem_cons_self | refine List.mem_cons_of_mem _ ?_))
  go_wp2_with fail
  refine bodyPost_ret (results_cell_row rfl _ _ (W.heap.size + 1) 29 _ (0, 0) _ rfl (Hold.blk (w0 := w0) (Hold.setBoxU (Hold.setBoxU (Hold.setBoxU (by with_reducible exact HS) 1 _ (by repeat (first | with_reducible exact Upd.here | apply Upd.there))) 0 _ (by repeat (first | with_reducible exact Upd.here | apply Upd.there))) 1 _ (by repeat (first | with_reducible exact Upd.here | apply Upd.there))) (by repeat (first | with_reducible exact List.mem_cons_self | refine List.mem_cons_of_mem _ ?_))) Try.underlying29 rfl (by kernel_rfl)) rfl ?_
  exact ⟨B0, b0, B1, b1, rfl, _, _, _, _, Hold.sub (w0 := w0) (Hold.setBoxU (Hold.setBoxU (Hold.setBoxU (by with_reducible exact HS) 1 _ (by repeat (first | with_reducible exact Upd.here | apply Upd.there))) 0 _ (by repeat (first | with_reducible exact Upd.here | apply Upd.there))) 1 _ (by repeat (first | with_reducible exact Upd.here | apply Upd.there))) (List.Sublist.cons_cons _ (List.Sublist.cons_cons _ (List.Sublist.cons _ (List.Sublist.cons _ (List.Sublist.cons _ (List.Sublist.refl _))))))⟩
set_option maxHeartbeats 1600000 in
set_option maxRecDepth 100000 in
theorem st_markPolicy {w0 W : World} {L0 : List (Thing × Nat × Nat)} {L1 : List (Thing × Nat × Nat)} {L2 : List (Thing × Nat × Nat)} {r0 : List (List Int)} {A0 : Option Addr} {n0 c0 lo0 hi0 : Nat} {r1 : List Int} {A1 : Option Addr} {n1 c1 lo1 hi1 : Nat} {s1 : List Int} {a a1 a2 : Int} (h : Hold w0 W L0)
    (u0 : Upd (nest (Kd.slice 2 (Kd.int .i64)) 24 (.slice A0 n0 c0) r0) noThing lo0 hi0 L0 L1) (p0 : r0.length ≤ 1048576) (j0 : ∀ x ∈ r0, x.length ≤ 1048576) (i0 : sumLen r0 ≤ 2000000) (b0 : 0 ≤ a) (v0 : a ≤ 10000000) (e0 : a + (sumLen r0 : Int) = a1)
    (u1 : Upd (flat (Kd.int .i64) 2 (.slice A1 n1 c1) r1) (flat (Kd.int .i64) 2 (.slice A1 n1 c1) s1) lo1 hi1 L1 L2) (e1 : Ev (fun k => laws_markInt64S.f k r1 a1) (a2, s1)) :
    Calls Try.prog 69 #[.agg #[.slice A0 n0 c0, .slice A1 n1 c1], .int .i64 a] W fun e w' => e = .returned (.int .i64 a2) ∧ Hold w0 w' L2 := by
  have Xu0 := Aside0.mk u0
  have Xp0 := Aside0.mk p0
  have Xj0 := Aside0.mk j0
  have Xi0 := Aside0.mk i0
  have Xb0 := Aside0.mk b0
  have Xv0 := Aside0.mk v0
  have Xe0 := Aside0.mk e0
  have Xu1 := Aside0.mk u1
  have Xe1 := Aside0.mk e1
  have HS := h
  clear u0 p0 j0 i0 b0 v0 e0 u1 e1 h
  go_enter Try.func69, Try.ntmps69
  go_wp2_with fail
  refine (st_markInt64SS_ (w0 := w0) (Hold.box HS _ _) (Upd.there Xu0.out) (fun _ _ _ => trivial) Xp0.out Xj0.out Xi0.out Xb0.out Xv0.out).mono ?_
  rw [Xe0.out]
  rintro e w1 ⟨rfl, HS⟩
  have q1 : w1.cell? ⟨W.heap.size, 1, none⟩ = some (.slice A1 n1 c1) := HS.cell (cs := #[.slice A0 n0 c0, .slice A1 n1 c1]) (t := 29) (by repeat (first | with_reducible exact List.mem_cons_self | refine List.mem_cons_of_mem _ ?_)) 1 _ rfl
  go_wp2_with fail
  refine (st_markInt64S_ (w0 := w0) (by with_reducible exact HS) (Upd.there Xu1.out) Xe1.out).mono ?_
  rintro e w2 ⟨rfl, HS⟩
  clear q1
  go_wp2_with fail
  go_ret
  exact ⟨rfl, Hold.sub HS (List.Sublist.cons _ (List.Sublist.refl _))⟩
theorem st_szLevels {w0 W : World} {L : List (Thing × Nat × Nat)} {A0 : Option Addr} {c0 : Nat} {l0 : List (List Int)} {A1 : Option Addr} {c1 : Nat} {l1 : List Int} {A2 : Option Addr} {c2 : Nat} {l2 : List (List Int)} {A3 : Option Addr} {c3 : Nat} {l3 : List Int} {x4 : Int} {a r : Int} (h : Hold w0 W L) (hr0 : Kd.C (Kd.slice 2 (Kd.int .i64)) w0 A0 l0.length l0) (hc0 : l0.length ≤ c0) (hr1 : Kd.C (Kd.int .i64) w0 A1 l1.length l1) (hc1 : l1.length ≤ c1) (hr2 : Kd.C (Kd.slice 2 (Kd.int .i64)) w0 A2 l2.length l2) (hc2 : l2.length ≤ c2) (hr3 : Kd.C (Kd.int .i64) w0 A3 l3.length l3) (hc3 : l3.length ≤ c3) (he : Ev (fun k => laws_szLevels.f k l0 l1 l2 l3 x4 a) r) :
    Calls Try.prog 23 #[.agg #[.slice A0 l0.length c0, .slice A1 l1.length c1, .slice A2 l2.length c2, .slice A3 l3.length c3, .int .i64 x4], .int .i64 a] W fun e w' => e = .returned (.int .i64 r) ∧ Hold w0 w' L := by
  obtain ⟨k, hk⟩ := he
  refine (laws_szLevels.calls k A0 c0 l0 A1 c1 l1 A2 c2 l2 A3 c3 l3 x4 a r W (Kd.C_below hr0 h.below) hc0 (Kd.C_below hr1 h.below) hc1 (Kd.C_below hr2 h.below) hc2 (Kd.C_below hr3 h.below) hc3 (hk k (Nat.le_refl _))).mono ?_
  rintro e w' ⟨rfl, hb⟩
  exact ⟨rfl, h.step (by first | exact hb | exact hb.below)⟩
set_option maxHeartbeats 3200000 in
set_option maxRecDepth 100000 in
theorem st_toLevels {w0 W : World} {L : List (Thing × Nat × Nat)} {A0 : Option Addr} {c0 : Nat} {l0 : List (List Int)} {A1 : Option Addr} {c1 : Nat} {l1 : List Int} {A2 : Option Addr} {c2 : Nat} {l2 : List (List Int)} {A3 : Option Addr} {c3 : Nat} {l3 : List Int} {x4 : Int} {r0 : List (List Int)} {r1 : List Int} {r2 : List (List Int)} {r3 : List Int} (h : Hold w0 W L) (hr0 : Kd.C (Kd.slice 2 (Kd.int .i64)) w0 A0 l0.length l0) (hc0 : l0.length ≤ c0) (hr1 : Kd.C (Kd.int .i64) w0 A1 l1.length l1) (hc1 : l1.length ≤ c1) (hr2 : Kd.C (Kd.slice 2 (Kd.int .i64)) w0 A2 l2.length l2) (hc2 : l2.length ≤ c2) (hr3 : Kd.C (Kd.int .i64) w0 A3 l3.length l3) (hc3 : l3.length ≤ c3) (he0 : Ev (fun k => laws_toInt64SS.f k l0) r0) (he1 : Ev (fun k => laws_toInt64S.f k l1) r1) (he2 : Ev (fun k => laws_toInt64SS.f k l2) r2) (he3 : Ev (fun k => laws_toInt64S.f k l3) r3) :
    Calls Try.prog 25 #[.agg #[.slice A0 l0.length c0, .slice A1 l1.length c1, .slice A2 l2.length c2, .slice A3 l3.length c3, .int .i64 x4]] W fun e w' => ∃ B0 b0 B1 b1 B2 b2 B3 b3, e = .returned (.agg #[.slice B0 r0.length b0, .slice B1 r1.length b1, .slice B2 r2.length b2, .slice B3 r3.length b3, .int .i64 x4]) ∧ ∃ lo0 hi0 lo1 hi1 lo2 hi2 lo3 hi3, Hold w0 w' ((flat (Kd.int .i64) 2 (.slice B3 r3.length b3) r3, lo3, hi3) :: (nest (Kd.slice 2 (Kd.int .i64)) 24 (.slice B2 r2.length b2) r2, lo2, hi2) :: (flat (Kd.int .i64) 2 (.slice B1 r1.length b1) r1, lo1, hi1) :: (nest (Kd.slice 2 (Kd.int .i64)) 24 (.slice B0 r0.length b0) r0, lo0, hi0) :: L) := by
  have HR0 := Aside0.mk hr0
  have HC0 := Aside0.mk hc0
  have HE0 := Aside0.mk he0
  have HR1 := Aside0.mk hr1
  have HC1 := Aside0.mk hc1
  have HE1 := Aside0.mk he1
  have HR2 := Aside0.mk hr2
  have HC2 := Aside0.mk hc2
  have HE2 := Aside0.mk he2
  have HR3 := Aside0.mk hr3
  have HC3 := Aside0.mk hc3
  have HE3 := Aside0.mk he3
  have HS := h
  clear hr0 hc0 he0 hr1 hc1 he1 hr2 hc2 he2 hr3 hc3 he3 h
  go_enter Try.func25, Try.ntmps25
  go_wp2_with fail
  refine (st_toPolicy (w0 := w0) (Hold.box (Hold.box (Hold.box HS _ _) _ _) _ _) HR0.out HC0.out HR1.out HC1.out HE0.out HE1.out).mono ?_
  rintro e w1 ⟨B0, b0, B1, b1, rfl, lo0, hi0, lo1, hi1, HS⟩
  simp only [World.size_alloc] at HS
  have q2 : w1.cell? ⟨W.heap.size, 2, none⟩ = some (.slice A2 l2.length c2) := HS.cell (cs := #[.slice A0 l0.length c0, .slice A1 l1.length c1, .slice A2 l2.length c2, .slice A3 l3.length c3, .int .i64 x4]) (t := 49) (by repeat (first | with_reducible exact List.mem_cons_self | refine List.mem_cons_of_mem _ ?_)) 2 _ rfl
  have q3 : w1.cell? ⟨W.heap.size, 3, none⟩ = some (.slice A3 l3.length c3) := HS.cell (cs := #[.slice A0 l0.length c0, .slice A1 l1.length c1, .slice A2 l2.length c2, .slice A3 l3.length c3, .int .i64 x4]) (t := 49) (by repeat (first | with_reducible exact List.mem_cons_self | refine List.mem_cons_of_mem _ ?_)) 3 _ rfl
  have u0 : w1.cell? ⟨W.heap.size + 1 + 1, 0, none⟩ = some (.slice none 0 0) := HS.cell (cs := #[.slice none 0 0, .slice none 0 0, .slice none 0 0, .slice none 0 0, .int .i64 0]) (t := 53) (by repeat (first | with_reducible exact List.mem_cons_self | refine List.mem_cons_of_mem _ ?_)) 0 _ rfl
  have u1 : w1.cell? ⟨W.heap.size + 1 + 1, 1, none⟩ = some (.slice none 0 0) := HS.cell (cs := #[.slice none 0 0, .slice none 0 0, .slice none 0 0, .slice none 0 0, .int .i64 0]) (t := 53) (by repeat (first | with_reducible exact List.mem_cons_self | refine List.mem_cons_of_mem _ ?_)) 1 _ rfl
  have fzu : ∀ j, w1.frozen? ⟨W.heap.size + 1 + 1, j, none⟩ = false := HS.thaw (cs := #[.slice none 0 0, .slice none 0 0, .slice none 0 0, .slice none 0 0, .int .i64 0]) (t := 53) (by repeat (first | with_reducible exact List.mem_cons_self | refine List.mem_cons_of_mem _ ?_))
  go_wp2_with fail
  refine (st_toPolicy (w0 := w0) (Hold.setBoxU (Hold.setBoxU (by with_reducible exact HS) 0 _ (by repeat (first | with_reducible exact Upd.here | apply Upd.there))) 1 _ (by repeat (first | with_reducible exact Upd.here | apply Upd.there))) HR2.out HC2.out HR3.out HC3.out HE2.out HE3.out).mono ?_
  rintro e w2 ⟨B2, b2, B3, b3, rfl, lo2, hi2, lo3, hi3, HS⟩
  simp only [List.setIfInBounds_toArray, List.set_cons_zero, List.set_cons_succ] at HS
  clear q2 q3 u0 u1 fzu
  have q4 : w2.cell? ⟨W.heap.size, 4, none⟩ = some (.int .i64 x4) := HS.cell (cs := #[.slice A0 l0.length c0, .slice A1 l1.length c1, .slice A2 l2.length c2, .slice A3 l3.length c3, .int .i64 x4]) (t := 49) (by repeat (first | with_reducible exact List.mem_cons_self | refine List.mem_cons_of_mem _ ?_)) 4 _ rfl
  have u0 : w2.cell? ⟨W.heap.size + 1 + 1, 0, none⟩ = some (.slice B0 r0.length b0) := HS.cell (cs := #[.slice B0 r0.length b0, .slice B1 r1.length b1, .slice none 0 0, .slice none 0 0, .int .i64 0]) (t := 53) (by repeat (first | with_reducible exact List.mem_cons_self | refine List.mem_cons_of_mem _ ?_)) 0 _ rfl
  have u1 : w2.cell? ⟨W.heap.size + 1 + 1, 1, none⟩ = some (.slice B1 r1.length b1) := HS.cell (cs := #[.slice B0 r0.length b0, .slice B1 r1.length b1, .slice none 0 0, .slice none 0 0, .int .i64 0]) (t := 53) (by repeat (first | with_reducible exact List.mem_cons_self | refine List.mem_cons_of_mem _ ?_)) 1 _ rfl
  have u2 : w2.cell? ⟨W.heap.size + 1 + 1, 2, none⟩ = some (.slice none 0 0) := HS.cell (cs := #[.slice B0 r0.length b0, .slice B1 r1.length b1, .slice none 0 0, .slice none 0 0, .int .i64 0]) (t := 53) (by repeat (first | with_reducible exact List.mem_cons_self | refine List.mem_cons_of_mem _ ?_)) 2 _ rfl
  have u3 : w2.cell? ⟨W.heap.size + 1 + 1, 3, none⟩ = some (.slice none 0 0) := HS.cell (cs := #[.slice B0 r0.length b0, .slice B1 r1.length b1, .slice none 0 0, .slice none 0 0, .int .i64 0]) (t := 53) (by repeat (first | with_reducible exact List.mem_cons_self | refine List.mem_cons_of_mem _ ?_)) 3 _ rfl
  have u4 : w2.cell? ⟨W.heap.size + 1 + 1, 4, none⟩ = some (.int .i64 0) := HS.cell (cs := #[.slice B0 r0.length b0, .slice B1 r1.length b1, .slice none 0 0, .slice none 0 0, .int .i64 0]) (t := 53) (by repeat (first | with_reducible exact List.mem_cons_self | refine List.mem_cons_of_mem _ ?_)) 4 _ rfl
  have fzu : ∀ j, w2.frozen? ⟨W.heap.size + 1 + 1, j, none⟩ = false := HS.thaw (cs := #[.slice B0 r0.length b0, .slice B1 r1.length b1, .slice none 0 0, .slice none 0 0, .int .i64 0]) (t := 53) (by repeat (first | with_reducible exact List.mem_cons_self | refine List.mem_cons_of_mem _ ?_))
  have z0 : w2.cell? ⟨W.heap.size + 1, 0, none⟩ = some (.slice none 0 0) := HS.cell (cs := #[.slice none 0 0, .slice none 0 0, .slice none 0 0, .slice none 0 0, .int .i64 0]) (t := 53) (by repeat (first | with_reducible exact List.mem_cons_self | refine List.mem_cons_of_mem _ ?_)) 0 _ rfl
  have z1 : w2.cell? ⟨W.heap.size + 1, 1, none⟩ = some (.slice none 0 0) := HS.cell (cs := #[.slice none 0 0, .slice none 0 0, .slice none 0 0, .slice none 0 0, .int .i64 0]) (t := 53) (by repeat (first | with_reducible exact List.mem_cons_self | refine List.mem_cons_of_mem _ ?_)) 1 _ rfl
  have z2 : w2.cell? ⟨W.heap.size + 1, 2, none⟩ = some (.slice none 0 0) := HS.cell (cs := #[.slice none 0 0, .slice none 0 0, .slice none 0 0, .slice none 0 0, .int .i64 0]) (t := 53) (by repeat (first | with_reducible exact List.mem_cons_self | refine List.mem_cons_of_mem _ ?_)) 2 _ rfl
  have z3 : w2.cell? ⟨W.heap.size + 1, 3, none⟩ = some (.slice none 0 0) := HS.cell (cs := #[.slice none 0 0, .slice none 0 0, .slice none 0 0, .slice none 0 0, .int .i64 0]) (t := 53) (by repeat (first | with_reducible exact List.mem_cons_self | refine List.mem_cons_of_mem _ ?_)) 3 _ rfl
  have z4 : w2.cell? ⟨W.heap.size + 1, 4, none⟩ = some (.int .i64 0) := HS.cell (cs := #[.slice none 0 0, .slice none 0 0, .slice none 0 0, .slice none 0 0, .int .i64 0]) (t := 53) (by repeat (first | with_reducible exact List.mem_cons_self | refine List.mem_cons_of_mem _ ?_)) 4 _ rfl
  have fzz : ∀ j, w2.frozen? ⟨W.heap.size + 1, j, none⟩ = false := HS.thaw (cs := #[.slice none 0 0, .slice none 0 0, .slice none 0 0, .slice none 0 0, .int .i64 0]) (t := 53) (by repeat (first | with_reducible exact List.mem_cons_self | refine List.mem_cons_of_mem _ ?_))
  go_wp2_with fail
  refine bodyPost_ret (results_cell_row rfl _ _ (W.heap.size + 1) 53 _ (0, 0) _ rfl (Hold.blk (w0 := w0) (Hold.setBoxU (Hold.setBoxU (Hold.setBoxU (Hold.setBoxU (Hold.setBoxU (Hold.setBoxU (Hold.setBoxU (Hold.setBoxU (by with_reducible exact HS) 2 _ (by repeat (first | with_reducible exact Upd.here | apply Upd.there))) 3 _ (by repeat (first | with_reducible exact Upd.here | apply Upd.there))) 4 _ (by repeat (first | with_reducible exact Upd.here | apply Upd.there))) 0 _ (by repeat (first | with_reducible exact Upd.here | apply Upd.there))) 1 _ (by repeat (first | with_reducible exact Upd.here | apply Upd.there))) 2 _ (by repeat (first | with_reducible exact Upd.here | apply Upd.there))) 3 _ (by repeat (first | with_reducible exact Upd.here | apply Upd.there))) 4 _ (by repeat (first | with_reducible exact Upd.here | apply Upd.there))) (by repeat (first | with_reducible exact List.mem_cons_self | refine List.mem_cons_of_mem _ ?_))) Try.underlying53 rfl (by kernel_rfl)) rfl ?_
  exact ⟨B0, b0, B1, b1, B2, b2, B3, b3, rfl, _, _, _, _, _, _, _, _, Hold.sub (w0 := w0) (Hold.setBoxU (Hold.setBoxU (Hold.setBoxU (Hold.setBoxU (Hold.setBoxU (Hold.setBoxU (Hold.setBoxU (Hold.setBoxU (by with_reducible exact HS) 2 _ (by repeat (first | with_reducible exact Upd.here | apply Upd.there))) 3 _ (by repeat (first | with_reducible exact Upd.here | apply Upd.there))) 4 _ (by repeat (first | with_reducible exact Upd.here | apply Upd.there))) 0 _ (by repeat (first | with_reducible exact Upd.here | apply Upd.there))) 1 _ (by repeat (first | with_reducible exact Upd.here | apply Upd.there))) 2 _ (by repeat (first | with_reducible exact Upd.here | apply Upd.there))) 3 _ (by repeat (first | with_reducible exact Upd.here | apply Upd.there))) 4 _ (by repeat (first | with_reducible exact Upd.here | apply Upd.there))) (List.Sublist.cons_cons _ (List.Sublist.cons_cons _ (List.Sublist.cons_cons _ (List.Sublist.cons_cons _ (List.Sublist.cons _ (List.Sublist.cons _ (List.Sublist.cons _ (List.Sublist.refl _))))))))⟩
theorem st_eqLevels {w0 W : World} {L : List (Thing × Nat × Nat)} {r0 : List (List Int)} {A0 B0 : Option Addr} {n0 m0 c0 d0 lo0 hi0 lp0 hp0 : Nat} {r1 : List Int} {A1 B1 : Option Addr} {n1 m1 c1 d1 lo1 hi1 lp1 hp1 : Nat} {r2 : List (List Int)} {A2 B2 : Option Addr} {n2 m2 c2 d2 lo2 hi2 lp2 hp2 : Nat} {r3 : List Int} {A3 B3 : Option Addr} {n3 m3 c3 d3 lo3 hi3 lp3 hp3 : Nat} {x4 : Int} {b : Bool} (h : Hold w0 W L)
    (h0 : (nest (Kd.slice 2 (Kd.int .i64)) 24 (.slice A0 n0 c0) r0, lo0, hi0) ∈ L) (g0 : (nest (Kd.slice 2 (Kd.int .i64)) 24 (.slice B0 m0 d0) r0, lp0, hp0) ∈ L) (h1 : (flat (Kd.int .i64) 2 (.slice A1 n1 c1) r1, lo1, hi1) ∈ L) (g1 : (flat (Kd.int .i64) 2 (.slice B1 m1 d1) r1, lp1, hp1) ∈ L) (h2 : (nest (Kd.slice 2 (Kd.int .i64)) 24 (.slice A2 n2 c2) r2, lo2, hi2) ∈ L) (g2 : (nest (Kd.slice 2 (Kd.int .i64)) 24 (.slice B2 m2 d2) r2, lp2, hp2) ∈ L) (h3 : (flat (Kd.int .i64) 2 (.slice A3 n3 c3) r3, lo3, hi3) ∈ L) (g3 : (flat (Kd.int .i64) 2 (.slice B3 m3 d3) r3, lp3, hp3) ∈ L)
    (he : Ev (fun k => laws_eqLevels.f k r0 r1 r2 r3 x4 r0 r1 r2 r3 x4) b) :
    Calls Try.prog 28 #[.agg #[.slice A0 n0 c0, .slice A1 n1 c1, .slice A2 n2 c2, .slice A3 n3 c3, .int .i64 x4], .agg #[.slice B0 m0 d0, .slice B1 m1 d1, .slice B2 m2 d2, .slice B3 m3 d3, .int .i64 x4]] W fun e w' => e = .returned (.bool b) ∧ Hold w0 w' L := by
  obtain ⟨rfl, a0, C0⟩ := Kd.S_reads' (h.get h0).1
  obtain ⟨rfl, a1, C1⟩ := Kd.R_reads' (h.get h1).1
  obtain ⟨rfl, a2, C2⟩ := Kd.S_reads' (h.get h2).1
  obtain ⟨rfl, a3, C3⟩ := Kd.R_reads' (h.get h3).1
  obtain ⟨rfl, a5, C5⟩ := Kd.S_reads' (h.get g0).1
  obtain ⟨rfl, a6, C6⟩ := Kd.R_reads' (h.get g1).1
  obtain ⟨rfl, a7, C7⟩ := Kd.S_reads' (h.get g2).1
  obtain ⟨rfl, a8, C8⟩ := Kd.R_reads' (h.get g3).1
  obtain ⟨k, hk⟩ := he
  refine (laws_eqLevels.calls k A0 c0 r0 A1 c1 r1 A2 c2 r2 A3 c3 r3 x4 B0 d0 r0 B1 d1 r1 B2 d2 r2 B3 d3 r3 x4 b W C0 a0 C1 a1 C2 a2 C3 a3 C5 a5 C6 a6 C7 a7 C8 a8 (hk k (Nat.le_refl _))).mono ?_
  rintro e w' ⟨rfl, hb⟩
  exact ⟨rfl, by first | exact h.step hb | exact h.step hb.below⟩
set_option maxHeartbeats 1600000 in
set_option maxRecDepth 100000 in
theorem st_markLevels {w0 W : World} {L0 : List (Thing × Nat × Nat)} {L1 : List (Thing × Nat × Nat)} {L2 : List (Thing × Nat × Nat)} {L3 : List (Thing × Nat × Nat)} {L4 : List (Thing × Nat × Nat)} {r0 : List (List Int)} {A0 : Option Addr} {n0 c0 lo0 hi0 : Nat} {r1 : List Int} {A1 : Option Addr} {n1 c1 lo1 hi1 : Nat} {r2 : List (List Int)} {A2 : Option Addr} {n2 c2 lo2 hi2 : Nat} {r3 : List Int} {A3 : Option Addr} {n3 c3 lo3 hi3 : Nat} {x4 : Int} {s1 : List Int} {s3 : List Int} {a a1 a2 a3 a4 : Int} (h : Hold w0 W L0)
    (u0 : Upd (nest (Kd.slice 2 (Kd.int .i64)) 24 (.slice A0 n0 c0) r0) noThing lo0 hi0 L0 L1) (p0 : r0.length ≤ 1048576) (j0 : ∀ x ∈ r0, x.length ≤ 1048576) (i0 : sumLen r0 ≤ 2000000) (b0 : 0 ≤ a) (v0 : a ≤ 10000000) (e0 : a + (sumLen r0 : Int) = a1) (u1 : Upd (flat (Kd.int .i64) 2 (.slice A1 n1 c1) r1) (flat (Kd.int .i64) 2 (.slice A1 n1 c1) s1) lo1 hi1 L1 L2) (e1 : Ev (fun k => laws_markInt64S.f k r1 a1) (a2, s1)) (u2 : Upd (nest (Kd.slice 2 (Kd.int .i64)) 24 (.slice A2 n2 c2) r2) noThing lo2 hi2 L2 L3) (p2 : r2.length ≤ 1048576) (j2 : ∀ x ∈ r2, x.length ≤ 1048576) (i2 : sumLen r2 ≤ 2000000) (b2 : 0 ≤ a2) (v2 : a2 ≤ 10000000) (e2 : a2 + (sumLen r2 : Int) = a3) (u3 : Upd (flat (Kd.int .i64) 2 (.slice A3 n3 c3) r3) (flat (Kd.int .i64) 2 (.slice A3 n3 c3) s3) lo3 hi3 L3 L4) (e3 : Ev (fun k => laws_markInt64S.f k r3 a3) (a4, s3)) :
    Calls Try.prog 32 #[.agg #[.slice A0 n0 c0, .slice A1 n1 c1, .slice A2 n2 c2, .slice A3 n3 c3, .int .i64 x4], .int .i64 a] W fun e w' => e = .returned (.int .i64 a4) ∧ Hold w0 w' L4 := by
  have Xu0 := Aside0.mk u0
  have Xp0 := Aside0.mk p0
  have Xj0 := Aside0.mk j0
  have Xi0 := Aside0.mk i0
  have Xb0 := Aside0.mk b0
  have Xv0 := Aside0.mk v0
  have Xe0 := Aside0.mk e0
  have Xu1 := Aside0.mk u1
  have Xe1 := Aside0.mk e1
  have Xu2 := Aside0.mk u2
  have Xp2 := Aside0.mk p2
  have Xj2 := Aside0.mk j2
  have Xi2 := Aside0.mk i2
  have Xb2 := Aside0.mk b2
  have Xv2 := Aside0.mk v2
  have Xe2 := Aside0.mk e2
  have Xu3 := Aside0.mk u3
  have Xe3 := Aside0.mk e3
  have HS := h
  clear u0 p0 j0 i0 b0 v0 e0 u1 e1 u2 p2 j2 i2 b2 v2 e2 u3 e3 h
  go_enter Try.func32, Try.ntmps32
  go_wp2_with fail
  refine (st_markPolicy (w0 := w0) (Hold.box HS _ _) (Upd.there Xu0.out) Xp0.out Xj0.out Xi0.out Xb0.out Xv0.out Xe0.out (Upd.there Xu1.out) Xe1.out).mono ?_
  rintro e w1 ⟨rfl, HS⟩
  have q2 : w1.cell? ⟨W.heap.size, 2, none⟩ = some (.slice A2 n2 c2) := HS.cell (cs := #[.slice A0 n0 c0, .slice A1 n1 c1, .slice A2 n2 c2, .slice A3 n3 c3, .int .i64 x4]) (t := 53) (by repeat (first | with_reducible exact List.mem_cons_self | refine List.mem_cons_of_mem _ ?_)) 2 _ rfl
  have q3 : w1.cell? ⟨W.heap.size, 3, none⟩ = some (.slice A3 n3 c3) := HS.cell (cs := #[.slice A0 n0 c0, .slice A1 n1 c1, .slice A2 n2 c2, .slice A3 n3 c3, .int .i64 x4]) (t := 53) (by repeat (first | with_reducible exact List.mem_cons_self | refine List.mem_cons_of_mem _ ?_)) 3 _ rfl
  go_wp2_with fail
  refine (st_markPolicy (w0 := w0) (by with_reducible exact HS) (Upd.there Xu2.out) Xp2.out Xj2.out Xi2.out Xb2.out Xv2.out Xe2.out (Upd.there Xu3.out) Xe3.out).mono ?_
  rintro e w2 ⟨rfl, HS⟩
  clear q2 q3
  go_wp2_with fail
  go_ret
  exact ⟨rfl, Hold.sub HS (List.Sublist.cons _ (List.Sublist.refl _))⟩
theorem st_specX {w0 W : World} {L : List (Thing × Nat × Nat)} {A0 : Option Addr} {n0 c0 lo0 hi0 : Nat} {r0 : List (List Int)} {A1 : Option Addr} {n1 c1 lo1 hi1 : Nat} {r1 : List Int} {A2 : Option Addr} {n2 c2 lo2 hi2 : Nat} {r2 : List (List Int)} {A3 : Option Addr} {n3 c3 lo3 hi3 : Nat} {r3 : List Int} {x4 : Int} {A5 : Option Addr} {n5 c5 lo5 hi5 : Nat} {r5 : List Int} {g0 : List Int} {g1 : List Int} {g2 : Bool} (h : Hold w0 W L) (h0 : (nest (Kd.slice 2 (Kd.int .i64)) 24 (.slice A0 n0 c0) r0, lo0, hi0) ∈ L) (h1 : (flat (Kd.int .i64) 2 (.slice A1 n1 c1) r1, lo1, hi1) ∈ L) (h2 : (nest (Kd.slice 2 (Kd.int .i64)) 24 (.slice A2 n2 c2) r2, lo2, hi2) ∈ L) (h3 : (flat (Kd.int .i64) 2 (.slice A3 n3 c3) r3, lo3, hi3) ∈ L) (h5 : (flat (Kd.int .i64) 2 (.slice A5 n5 c5) r5, lo5, hi5) ∈ L) (he : Ev (fun k => spec_LevelContents.f k r0 r1 r2 r3 x4 r5) (g0, g1, g2)) :
    Calls Try.prog 30 #[.agg #[.slice A0 n0 c0, .slice A1 n1 c1, .slice A2 n2 c2, .slice A3 n3 c3, .int .i64 x4], .slice A5 n5 c5] W fun e w' => ∃ V0 d0 V1 d1, e = .returned (.tuple #[.slice V0 g0.length d0, .slice V1 g1.length d1, .bool g2]) ∧ ∃ vl0 vh0 vl1 vh1, Hold w0 w' ((flat (Kd.int .i64) 2 (.slice V0 g0.length d0) g0, vl0, vh0) :: (flat (Kd.int .i64) 2 (.slice V1 g1.length d1) g1, vl1, vh1) :: L) := by
  obtain ⟨k, hk⟩ := he
  obtain ⟨rfl, a0, C0⟩ := Kd.S_reads' (h.get h0).1
  obtain ⟨rfl, a1, C1⟩ := Kd.R_reads' (h.get h1).1
  obtain ⟨rfl, a2, C2⟩ := Kd.S_reads' (h.get h2).1
  obtain ⟨rfl, a3, C3⟩ := Kd.R_reads' (h.get h3).1
  obtain ⟨rfl, a5, C5⟩ := Kd.R_reads' (h.get h5).1
  refine (spec_LevelContents.calls k A0 c0 r0 A1 c1 r1 A2 c2 r2 A3 c3 r3 x4 A5 c5 r5 g0 g1 g2 W C0 a0 C1 a1 C2 a2 C3 a3 C5 a5 (hk k (Nat.le_refl _))).mono ?_
  rintro e w' ⟨v0, v1, rfl, hr0, hr1, hb⟩
  obtain ⟨V0, d0, rfl⟩ := Kd.R_slice hr0
  obtain ⟨V1, d1, rfl⟩ := Kd.R_slice hr1
  obtain ⟨lo, hi, lo', hi', H2⟩ := h.add2 (by first | exact hb | exact hb.below) rfl (fun _ _ _ _ _ _ k => k) rfl (fun _ _ _ _ _ _ k => k) hr0 hr1 (fun _ k => k)
  exact ⟨V0, d0, V1, d1, rfl, lo, hi, lo', hi', H2⟩
theorem st_implX {w0 W : World} {L : List (Thing × Nat × Nat)} {A0 : Option Addr} {n0 c0 lo0 hi0 : Nat} {r0 : List (List Int)} {A1 : Option Addr} {n1 c1 lo1 hi1 : Nat} {r1 : List Int} {A2 : Option Addr} {n2 c2 lo2 hi2 : Nat} {r2 : List (List Int)} {A3 : Option Addr} {n3 c3 lo3 hi3 : Nat} {r3 : List Int} {x4 : Int} {A5 : Option Addr} {n5 c5 lo5 hi5 : Nat} {r5 : List Int} {g0 : List Int} {g1 : List Int} {g2 : Bool} (h : Hold w0 W L) (h0 : (nest (Kd.slice 2 (Kd.int .i64)) 24 (.slice A0 n0 c0) r0, lo0, hi0) ∈ L) (h1 : (flat (Kd.int .i64) 2 (.slice A1 n1 c1) r1, lo1, hi1) ∈ L) (h2 : (nest (Kd.slice 2 (Kd.int .i64)) 24 (.slice A2 n2 c2) r2, lo2, hi2) ∈ L) (h3 : (flat (Kd.int .i64) 2 (.slice A3 n3 c3) r3, lo3, hi3) ∈ L) (h5 : (flat (Kd.int .i64) 2 (.slice A5 n5 c5) r5, lo5, hi5) ∈ L) (he : impl_LevelContents.f r0 r1 r2 r3 x4 r5 = some (g0, g1, g2)) :
    Calls Try.prog 31 #[.agg #[.slice A0 n0 c0, .slice A1 n1 c1, .slice A2 n2 c2, .slice A3 n3 c3, .int .i64 x4], .slice A5 n5 c5] W fun e w' => ∃ V0 d0 V1 d1, e = .returned (.tuple #[.slice V0 g0.length d0, .slice V1 g1.length d1, .bool g2]) ∧ ∃ vl0 vh0 vl1 vh1, Hold w0 w' ((flat (Kd.int .i64) 2 (.slice V0 g0.length d0) g0, vl0, vh0) :: (flat (Kd.int .i64) 2 (.slice V1 g1.length d1) g1, vl1, vh1) :: L) := by
  obtain ⟨rfl, a0, C0⟩ := Kd.S_reads' (h.get h0).1
  obtain ⟨rfl, a1, C1⟩ := Kd.R_reads' (h.get h1).1
  obtain ⟨rfl, a2, C2⟩ := Kd.S_reads' (h.get h2).1
  obtain ⟨rfl, a3, C3⟩ := Kd.R_reads' (h.get h3).1
  obtain ⟨rfl, a5, C5⟩ := Kd.R_reads' (h.get h5).1
  refine (impl_LevelContents.calls A0 c0 r0 A1 c1 r1 A2 c2 r2 A3 c3 r3 x4 A5 c5 r5 g0 g1 g2 W C0 a0 C1 a1 C2 a2 C3 a3 C5 a5 he).mono ?_
  rintro e w' ⟨v0, v1, rfl, hr0, hr1, hb⟩
  obtain ⟨V0, d0, rfl⟩ := Kd.R_slice hr0
  obtain ⟨V1, d1, rfl⟩ := Kd.R_slice hr1
  obtain ⟨lo, hi, lo', hi', H2⟩ := h.add2 (by first | exact hb | exact hb.below) rfl (fun _ _ _ _ _ _ k => k) rfl (fun _ _ _ _ _ _ k => k) hr0 hr1 (fun _ k => k)
  exact ⟨V0, d0, V1, d1, rfl, lo, hi, lo', hi', H2⟩
set_option maxHeartbeats 1600000 in
theorem bigl5 (A0 : Option Addr) (c0 : Nat) (l0 : List (List Int)) (A1 : Option Addr) (c1 : Nat) (l1 : List Int) (A2 : Option Addr) (c2 : Nat) (l2 : List (List Int)) (A3 : Option Addr) (c3 : Nat) (l3 : List Int) (x4 : Int) (A5 : Option Addr) (c5 : Nat) (l5 : List Int) (w : World) (hr0 : Kd.C (Kd.slice 2 (Kd.int .i64)) w A0 l0.length l0) (hc0 : l0.length ≤ c0) (hr1 : Kd.C (Kd.int .i64) w A1 l1.length l1) (hc1 : l1.length ≤ c1) (hr2 : Kd.C (Kd.slice 2 (Kd.int .i64)) w A2 l2.length l2) (hc2 : l2.length ≤ c2) (hr3 : Kd.C (Kd.int .i64) w A3 l3.length l3) (hc3 : l3.length ≤ c3) (hr5 : Kd.C (Kd.int .i64) w A5 l5.length l5) (hc5 : l5.length ≤ c5)  (hb5 : decide ((l5.length : Int) > 1048576) = true) :
    Calls Try.prog 6 #[.agg #[.slice A0 l0.length c0, .slice A1 l1.length c1, .slice A2 l2.length c2, .slice A3 l3.length c3, .int .i64 x4], .slice A5 l5.length c5] w fun e w' => e = .returned (.bool true) ∧ Below w.heap.size w w' := by
  have HS := Hold.start w
  go_enter Try.func6, Try.ntmps6
  go_wp2_with fail
  go_ret
  exact ⟨rfl, below_alloc (Below.refl _ _) _⟩
set_option maxHeartbeats 1600000 in
theorem big0 (A0 : Option Addr) (c0 : Nat) (l0 : List (List Int)) (A1 : Option Addr) (c1 : Nat) (l1 : List Int) (A2 : Option Addr) (c2 : Nat) (l2 : List (List Int)) (A3 : Option Addr) (c3 : Nat) (l3 : List Int) (x4 : Int) (A5 : Option Addr) (c5 : Nat) (l5 : List Int) (w : World) (hr0 : Kd.C (Kd.slice 2 (Kd.int .i64)) w A0 l0.length l0) (hc0 : l0.length ≤ c0) (hr1 : Kd.C (Kd.int .i64) w A1 l1.length l1) (hc1 : l1.length ≤ c1) (hr2 : Kd.C (Kd.slice 2 (Kd.int .i64)) w A2 l2.length l2) (hc2 : l2.length ≤ c2) (hr3 : Kd.C (Kd.int .i64) w A3 l3.length l3) (hc3 : l3.length ≤ c3) (hr5 : Kd.C (Kd.int .i64) w A5 l5.length l5) (hc5 : l5.length ≤ c5) (hb5 : decide ((l5.length : Int) > 1048576) = false) (z0 : Int) (hs0 : Ev (fun k => laws_szLevels.f k l0 l1 l2 l3 x4 1048576) z0) (hz0 : decide (z0 < 0) = true) :
    Calls Try.prog 6 #[.agg #[.slice A0 l0.length c0, .slice A1 l1.length c1, .slice A2 l2.length c2, .slice A3 l3.length c3, .int .i64 x4], .slice A5 l5.length c5] w fun e w' => e = .returned (.bool true) ∧ Below w.heap.size w w' := by
  have SZ0 := Aside0.mk hs0
  have HR0 := Aside0.mk hr0
  have HR1 := Aside0.mk hr1
  have HR2 := Aside0.mk hr2
  have HR3 := Aside0.mk hr3
  have HR5 := Aside0.mk hr5
  have HC0 := Aside0.mk hc0
  have HC1 := Aside0.mk hc1
  have HC2 := Aside0.mk hc2
  have HC3 := Aside0.mk hc3
  have HC5 := Aside0.mk hc5
  have HS := Hold.start w
  clear hr0 hc0 hr1 hc1 hr2 hc2 hr3 hc3 hr5 hc5
  clear hs0
  go_enter Try.func6, Try.ntmps6
  go_wp2_with fail
  refine (st_szLevels (w0 := w) (Hold.box HS #[.slice A0 l0.length c0, .slice A1 l1.length c1, .slice A2 l2.length c2, .slice A3 l3.length c3, .int .i64 x4] 49) HR0.out HC0.out HR1.out HC1.out HR2.out HC2.out HR3.out HC3.out SZ0.out).mono ?_
  rintro e w1 ⟨rfl, HS⟩
  try simp only [World.size_alloc] at HS
  go_wp2_with fail
  go_ret
  exact ⟨rfl, HS.below⟩
set_option maxHeartbeats 8000000 in
set_option maxRecDepth 100000 in
theorem walk (A0 : Option Addr) (c0 : Nat) (l0 : List (List Int)) (A1 : Option Addr) (c1 : Nat) (l1 : List Int) (A2 : Option Addr) (c2 : Nat) (l2 : List (List Int)) (A3 : Option Addr) (c3 : Nat) (l3 : List Int) (x4 : Int) (A5 : Option Addr) (c5 : Nat) (l5 : List Int) (w : World) (hr0 : Kd.C (Kd.slice 2 (Kd.int .i64)) w A0 l0.length l0) (hc0 : l0.length ≤ c0) (hr1 : Kd.C (Kd.int .i64) w A1 l1.length l1) (hc1 : l1.length ≤ c1) (hr2 : Kd.C (Kd.slice 2 (Kd.int .i64)) w A2 l2.length l2) (hc2 : l2.length ≤ c2) (hr3 : Kd.C (Kd.int .i64) w A3 l3.length l3) (hc3 : l3.length ≤ c3) (hr5 : Kd.C (Kd.int .i64) w A5 l5.length l5) (hc5 : l5.length ≤ c5)
    (hb5 : decide ((l5.length : Int) > 1048576) = false)
    (z0 : Int) (hs0 : Ev (fun k => laws_szLevels.f k l0 l1 l2 l3 x4 1048576) z0) (hz0 : decide (z0 < 0) = false)
    {r0 : List (List Int)}
    {r1 : List Int}
    {r2 : List (List Int)}
    {r3 : List Int}
    {r5 : List Int}
    (ht0 : Ev (fun k => laws_toInt64SS.f k l0) r0)
    (ht1 : Ev (fun k => laws_toInt64S.f k l1) r1)
    (ht2 : Ev (fun k => laws_toInt64SS.f k l2) r2)
    (ht3 : Ev (fun k => laws_toInt64S.f k l3) r3)
    (ht5 : Ev (fun k => laws_toInt64S.f k l5) r5)
    {g0 : List Int}
    {g1 : List Int}
    {g2 : Bool}
    (hsp : Ev (fun k => spec_LevelContents.f k r0 r1 r2 r3 x4 r5) (g0, g1, g2))
    (him : impl_LevelContents.f r0 r1 r2 r3 x4 r5 = some (g0, g1, g2))
    (eg0 : Ev (fun k => laws_eqInt64S.f k g0 g0) true)
    (eg1 : Ev (fun k => laws_eqInt64S.f k g1 g1) true)
    (ep0 : Ev (fun k => laws_eqLevels.f k r0 r1 r2 r3 x4 r0 r1 r2 r3 x4) true)
    (ep1 : Ev (fun k => laws_eqInt64S.f k r5 r5) true)
    {kk1 kk2 kk3 kk4 kk5 : Int}
    {s1 : List Int} {s3 : List Int} {s5 : List Int}
    (xp0 : r0.length ≤ 1048576) (xj0 : ∀ x ∈ r0, x.length ≤ 1048576) (xi0 : sumLen r0 ≤ 2000000) (xb0 : 0 ≤ (1 : Int)) (xv0 : (1 : Int) ≤ 10000000) (xe0 : (1 : Int) + (sumLen r0 : Int) = kk1) (xe1 : Ev (fun k => laws_markInt64S.f k r1 kk1) (kk2, s1)) (xp2 : r2.length ≤ 1048576) (xj2 : ∀ x ∈ r2, x.length ≤ 1048576) (xi2 : sumLen r2 ≤ 2000000) (xb2 : 0 ≤ kk2) (xv2 : kk2 ≤ 10000000) (xe2 : kk2 + (sumLen r2 : Int) = kk3) (xe3 : Ev (fun k => laws_markInt64S.f k r3 kk3) (kk4, s3)) (xe5 : Ev (fun k => laws_markInt64S.f k r5 kk4) (kk5, s5))
    (hk : decide (kk5 < 0) = false)
    {q0 : Int} {m0 : List Int} (mg0 : Ev (fun k => laws_markInt64S.f k g0 1) (q0, m0)) (hg0 : Ev (fun k => laws_heldInt64S.f k m0 1) q0) (hq0 : decide (q0 < 0) = false)
    {q1 : Int} {m1 : List Int} (mg1 : Ev (fun k => laws_markInt64S.f k g1 q0) (q1, m1)) (hg1 : Ev (fun k => laws_heldInt64S.f k m1 q0) q1) (hq1 : decide (q1 < 0) = false) :
    Calls Try.prog 6 #[.agg #[.slice A0 l0.length c0, .slice A1 l1.length c1, .slice A2 l2.length c2, .slice A3 l3.length c3, .int .i64 x4], .slice A5 l5.length c5] w fun e w' => e = .returned (.bool true) ∧ Below w.heap.size w w' := by
  have SZ0 := Aside0.mk hs0
  have HT0 := Aside0.mk ht0
  have HT1 := Aside0.mk ht1
  have HT2 := Aside0.mk ht2
  have HT3 := Aside0.mk ht3
  have HT5 := Aside0.mk ht5
  have SP := Aside0.mk hsp
  have IM := Aside0.mk him
  have EG0 := Aside0.mk eg0
  have EG1 := Aside0.mk eg1
  have EP0 := Aside0.mk ep0
  have EP1 := Aside0.mk ep1
  have XP0 := Aside0.mk xp0
  have XJ0 := Aside0.mk xj0
  have XI0 := Aside0.mk xi0
  have XB0 := Aside0.mk xb0
  have XV0 := Aside0.mk xv0
  have XE0 := Aside0.mk xe0
  have XE1 := Aside0.mk xe1
  have XP2 := Aside0.mk xp2
  have XJ2 := Aside0.mk xj2
  have XI2 := Aside0.mk xi2
  have XB2 := Aside0.mk xb2
  have XV2 := Aside0.mk xv2
  have XE2 := Aside0.mk xe2
  have XE3 := Aside0.mk xe3
  have XE5 := Aside0.mk xe5
  have MG0 := Aside0.mk mg0
  have HG0 := Aside0.mk hg0
  have MG1 := Aside0.mk mg1
  have HG1 := Aside0.mk hg1
  have HR0 := Aside0.mk hr0
  have HR1 := Aside0.mk hr1
  have HR2 := Aside0.mk hr2
  have HR3 := Aside0.mk hr3
  have HR5 := Aside0.mk hr5
  have HC0 := Aside0.mk hc0
  have HC1 := Aside0.mk hc1
  have HC2 := Aside0.mk hc2
  have HC3 := Aside0.mk hc3
  have HC5 := Aside0.mk hc5
  have HS := Hold.start w
  clear hr0 hc0 hr1 hc1 hr2 hc2 hr3 hc3 hr5 hc5
  clear hs0 ht0 ht1 ht2 ht3 ht5 hsp him eg0 eg1 ep0 ep1 xp0 xj0 xi0 xb0 xv0 xe0 xe1 xp2 xj2 xi2 xb2 xv2 xe2 xe3 xe5 mg0 hg0 mg1 hg1
  go_enter Try.func6, Try.ntmps6
  go_wp2_with fail
  refine (st_szLevels (w0 := w) (Hold.box HS #[.slice A0 l0.length c0, .slice A1 l1.length c1, .slice A2 l2.length c2, .slice A3 l3.length c3, .int .i64 x4] 49) HR0.out HC0.out HR1.out HC1.out HR2.out HC2.out HR3.out HC3.out SZ0.out).mono ?_
  rintro e w1 ⟨rfl, HS⟩
  try simp only [World.size_alloc] at HS
  have q0 : w1.cell? ⟨w.heap.size, 0, none⟩ = some (.slice A0 l0.length c0) := HS.cell List.mem_cons_self 0 _ rfl
  have q1 : w1.cell? ⟨w.heap.size, 1, none⟩ = some (.slice A1 l1.length c1) := HS.cell List.mem_cons_self 1 _ rfl
  have q2 : w1.cell? ⟨w.heap.size, 2, none⟩ = some (.slice A2 l2.length c2) := HS.cell List.mem_cons_self 2 _ rfl
  have q3 : w1.cell? ⟨w.heap.size, 3, none⟩ = some (.slice A3 l3.length c3) := HS.cell List.mem_cons_self 3 _ rfl
  have q4 : w1.cell? ⟨w.heap.size, 4, none⟩ = some (.int .i64 x4) := HS.cell List.mem_cons_self 4 _ rfl
  go_wp2_with fail
  clear q0 q1 q2 q3 q4
  refine (st_toLevels (w0 := w) (by with_reducible exact HS) HR0.out HC0.out HR1.out HC1.out HR2.out HC2.out HR3.out HC3.out HT0.out HT1.out HT2.out HT3.out).mono ?_
  rintro e w2 ⟨U0, u0, U1, u1, U2, u2, U3, u3, rfl, ul0, uh0, ul1, uh1, ul2, uh2, ul3, uh3, HS⟩
  go_wp2_with fail
  refine (st_toInt64S_ (w0 := w) (by with_reducible exact HS) HR5.out HC5.out HT5.out).mono ?_
  rintro e w3 ⟨U5, u5, ul5, uh5, rfl, HS⟩
  go_wp2_with fail
  refine (st_specX (w0 := w) (by with_reducible exact HS) (List.mem_cons_of_mem _ (List.mem_cons_of_mem _ (List.mem_cons_of_mem _ (List.mem_cons_of_mem _ List.mem_cons_self)))) (List.mem_cons_of_mem _ (List.mem_cons_of_mem _ (List.mem_cons_of_mem _ List.mem_cons_self))) (List.mem_cons_of_mem _ (List.mem_cons_of_mem _ List.mem_cons_self)) (List.mem_cons_of_mem _ List.mem_cons_self) List.mem_cons_self SP.out).mono ?_
  rintro e w4 ⟨V0, v0, V1, v1, rfl, vl0, vh0, vl1, vh1, HS⟩
  have q0 : w4.cell? ⟨w.heap.size, 0, none⟩ = some (.slice A0 l0.length c0) := HS.cell (List.mem_cons_of_mem _ (List.mem_cons_of_mem _ (List.mem_cons_of_mem _ (List.mem_cons_of_mem _ (List.mem_cons_of_mem _ (List.mem_cons_of_mem _ (List.mem_cons_of_mem _ List.mem_cons_self))))))) 0 _ rfl
  have q1 : w4.cell? ⟨w.heap.size, 1, none⟩ = some (.slice A1 l1.length c1) := HS.cell (List.mem_cons_of_mem _ (List.mem_cons_of_mem _ (List.mem_cons_of_mem _ (List.mem_cons_of_mem _ (List.mem_cons_of_mem _ (List.mem_cons_of_mem _ (List.mem_cons_of_mem _ List.mem_cons_self))))))) 1 _ rfl
  have q2 : w4.cell? ⟨w.heap.size, 2, none⟩ = some (.slice A2 l2.length c2) := HS.cell (List.mem_cons_of_mem _ (List.mem_cons_of_mem _ (List.mem_cons_of_mem _ (List.mem_cons_of_mem _ (List.mem_cons_of_mem _ (List.mem_cons_of_mem _ (List.mem_cons_of_mem _ List.mem_cons_self))))))) 2 _ rfl
  have q3 : w4.cell? ⟨w.heap.size, 3, none⟩ = some (.slice A3 l3.length c3) := HS.cell (List.mem_cons_of_mem _ (List.mem_cons_of_mem _ (List.mem_cons_of_mem _ (List.mem_cons_of_mem _ (List.mem_cons_of_mem _ (List.mem_cons_of_mem _ (List.mem_cons_of_mem _ List.mem_cons_self))))))) 3 _ rfl
  have q4 : w4.cell? ⟨w.heap.size, 4, none⟩ = some (.int .i64 x4) := HS.cell (List.mem_cons_of_mem _ (List.mem_cons_of_mem _ (List.mem_cons_of_mem _ (List.mem_cons_of_mem _ (List.mem_cons_of_mem _ (List.mem_cons_of_mem _ (List.mem_cons_of_mem _ List.mem_cons_self))))))) 4 _ rfl
  go_wp2_with fail
  clear q0 q1 q2 q3 q4
  refine (st_toLevels (w0 := w) (by with_reducible exact HS) HR0.out HC0.out HR1.out HC1.out HR2.out HC2.out HR3.out HC3.out HT0.out HT1.out HT2.out HT3.out).mono ?_
  rintro e w5 ⟨X0, x0, X1, x1, X2, x2, X3, x3, rfl, xl0, xh0, xl1, xh1, xl2, xh2, xl3, xh3, HS⟩
  go_wp2_with fail
  refine (st_toInt64S_ (w0 := w) (Hold.box HS #[.slice X0 r0.length x0, .slice X1 r1.length x1, .slice X2 r2.length x2, .slice X3 r3.length x3, .int .i64 x4] 53) HR5.out HC5.out HT5.out).mono ?_
  rintro e w6 ⟨X5, x5, xl5, xh5, rfl, HS⟩
  try simp only [World.size_alloc] at HS
  have x0_0 : w6.cell? ⟨w5.heap.size, 0, none⟩ = some (.slice X0 r0.length x0) := HS.cell (List.mem_cons_of_mem _ List.mem_cons_self) 0 _ rfl
  have x0_1 : w6.cell? ⟨w5.heap.size, 1, none⟩ = some (.slice X1 r1.length x1) := HS.cell (List.mem_cons_of_mem _ List.mem_cons_self) 1 _ rfl
  have x0_2 : w6.cell? ⟨w5.heap.size, 2, none⟩ = some (.slice X2 r2.length x2) := HS.cell (List.mem_cons_of_mem _ List.mem_cons_self) 2 _ rfl
  have x0_3 : w6.cell? ⟨w5.heap.size, 3, none⟩ = some (.slice X3 r3.length x3) := HS.cell (List.mem_cons_of_mem _ List.mem_cons_self) 3 _ rfl
  have x0_4 : w6.cell? ⟨w5.heap.size, 4, none⟩ = some (.int .i64 x4) := HS.cell (List.mem_cons_of_mem _ List.mem_cons_self) 4 _ rfl
  go_wp2_with fail
  clear x0_0 x0_1 x0_2 x0_3 x0_4
  refine (st_implX (w0 := w) (by with_reducible exact HS) (List.mem_cons_of_mem _ (List.mem_cons_of_mem _ (List.mem_cons_of_mem _ (List.mem_cons_of_mem _ (List.mem_cons_of_mem _ List.mem_cons_self))))) (List.mem_cons_of_mem _ (List.mem_cons_of_mem _ (List.mem_cons_of_mem _ (List.mem_cons_of_mem _ List.mem_cons_self)))) (List.mem_cons_of_mem _ (List.mem_cons_of_mem _ (List.mem_cons_of_mem _ List.mem_cons_self))) (List.mem_cons_of_mem _ (List.mem_cons_of_mem _ List.mem_cons_self)) List.mem_cons_self IM.out).mono ?_
  rintro e w7 ⟨G0, g0, G1, g1, rfl, gl0, gh0, gl1, gh1, HS⟩
  go_wp2_with fail
  refine (st_eqInt64S_ (w0 := w) (by with_reducible exact HS) List.mem_cons_self (List.mem_cons_of_mem _ (List.mem_cons_of_mem _ (List.mem_cons_of_mem _ (List.mem_cons_of_mem _ (List.mem_cons_of_mem _ (List.mem_cons_of_mem _ (List.mem_cons_of_mem _ (List.mem_cons_of_mem _ List.mem_cons_self)))))))) EG0.out).mono ?_
  rintro e w8 ⟨rfl, HS⟩
  go_wp2_with fail
  refine (st_eqInt64S_ (w0 := w) (by with_reducible exact HS) (List.mem_cons_of_mem _ List.mem_cons_self) (List.mem_cons_of_mem _ (List.mem_cons_of_mem _ (List.mem_cons_of_mem _ (List.mem_cons_of_mem _ (List.mem_cons_of_mem _ (List.mem_cons_of_mem _ (List.mem_cons_of_mem _ (List.mem_cons_of_mem _ (List.mem_cons_of_mem _ List.mem_cons_self))))))))) EG1.out).mono ?_
  rintro e w9 ⟨rfl, HS⟩
  go_wp2_with fail
  have HD := Hold.drew HS
  refine start_ (n := 5) (S := fun w' => w'.cell? ⟨w5.heap.size, 0, none⟩ = some (.slice X0 r0.length x0) ∧ w'.cell? ⟨w5.heap.size, 1, none⟩ = some (.slice X1 r1.length x1) ∧ w'.cell? ⟨w5.heap.size, 2, none⟩ = some (.slice X2 r2.length x2) ∧ w'.cell? ⟨w5.heap.size, 3, none⟩ = some (.slice X3 r3.length x3) ∧ w'.cell? ⟨w5.heap.size, 4, none⟩ = some (.int .i64 x4) ∧ w'.cell? ⟨w.heap.size, 0, none⟩ = some (.slice A0 l0.length c0) ∧ w'.cell? ⟨w.heap.size, 1, none⟩ = some (.slice A1 l1.length c1) ∧ w'.cell? ⟨w.heap.size, 2, none⟩ = some (.slice A2 l2.length c2) ∧ w'.cell? ⟨w.heap.size, 3, none⟩ = some (.slice A3 l3.length c3) ∧ w'.cell? ⟨w.heap.size, 4, none⟩ = some (.int .i64 x4)) (ds := []) #[false, false, false, false, false] (by kernel_rfl) rfl rfl ⟨(HD.cell (List.mem_cons_of_mem _ (List.mem_cons_of_mem _ (List.mem_cons_of_mem _ List.mem_cons_self))) 0 _ rfl), (HD.cell (List.mem_cons_of_mem _ (List.mem_cons_of_mem _ (List.mem_cons_of_mem _ List.mem_cons_self))) 1 _ rfl), (HD.cell (List.mem_cons_of_mem _ (List.mem_cons_of_mem _ (List.mem_cons_of_mem _ List.mem_cons_self))) 2 _ rfl), (HD.cell (List.mem_cons_of_mem _ (List.mem_cons_of_mem _ (List.mem_cons_of_mem _ List.mem_cons_self))) 3 _ rfl), (HD.cell (List.mem_cons_of_mem _ (List.mem_cons_of_mem _ (List.mem_cons_of_mem _ List.mem_cons_self))) 4 _ rfl), (HD.cell (List.mem_cons_of_mem _ (List.mem_cons_of_mem _ (List.mem_cons_of_mem _ (List.mem_cons_of_mem _ (List.mem_cons_of_mem _ (List.mem_cons_of_mem _ (List.mem_cons_of_mem _ (List.mem_cons_of_mem _ (List.mem_cons_of_mem _ (List.mem_cons_of_mem _ (List.mem_cons_of_mem _ (List.mem_cons_of_mem _ (List.mem_cons_of_mem _ (List.mem_cons_of_mem _ (List.mem_cons_of_mem _ List.mem_cons_self))))))))))))))) 0 _ rfl), (HD.cell (List.mem_cons_of_mem _ (List.mem_cons_of_mem _ (List.mem_cons_of_mem _ (List.mem_cons_of_mem _ (List.mem_cons_of_mem _ (List.mem_cons_of_mem _ (List.mem_cons_of_mem _ (List.mem_cons_of_mem _ (List.mem_cons_of_mem _ (List.mem_cons_of_mem _ (List.mem_cons_of_mem _ (List.mem_cons_of_mem _ (List.mem_cons_of_mem _ (List.mem_cons_of_mem _ (List.mem_cons_of_mem _ List.mem_cons_self))))))))))))))) 1 _ rfl), (HD.cell (List.mem_cons_of_mem _ (List.mem_cons_of_mem _ (List.mem_cons_of_mem _ (List.mem_cons_of_mem _ (List.mem_cons_of_mem _ (List.mem_cons_of_mem _ (List.mem_cons_of_mem _ (List.mem_cons_of_mem _ (List.mem_cons_of_mem _ (List.mem_cons_of_mem _ (List.mem_cons_of_mem _ (List.mem_cons_of_mem _ (List.mem_cons_of_mem _ (List.mem_cons_of_mem _ (List.mem_cons_of_mem _ List.mem_cons_self))))))))))))))) 2 _ rfl), (HD.cell (List.mem_cons_of_mem _ (List.mem_cons_of_mem _ (List.mem_cons_of_mem _ (List.mem_cons_of_mem _ (List.mem_cons_of_mem _ (List.mem_cons_of_mem _ (List.mem_cons_of_mem _ (List.mem_cons_of_mem _ (List.mem_cons_of_mem _ (List.mem_cons_of_mem _ (List.mem_cons_of_mem _ (List.mem_cons_of_mem _ (List.mem_cons_of_mem _ (List.mem_cons_of_mem _ (List.mem_cons_of_mem _ List.mem_cons_self))))))))))))))) 3 _ rfl), (HD.cell (List.mem_cons_of_mem _ (List.mem_cons_of_mem _ (List.mem_cons_of_mem _ (List.mem_cons_of_mem _ (List.mem_cons_of_mem _ (List.mem_cons_of_mem _ (List.mem_cons_of_mem _ (List.mem_cons_of_mem _ (List.mem_cons_of_mem _ (List.mem_cons_of_mem _ (List.mem_cons_of_mem _ (List.mem_cons_of_mem _ (List.mem_cons_of_mem _ (List.mem_cons_of_mem _ (List.mem_cons_of_mem _ List.mem_cons_self))))))))))))))) 4 _ rfl)⟩ (fun hHeld => ?_)
  generalize w9.drew = wd at HD hHeld ⊢
  refine take_ (i := 0) (N := some 63) (v := ?_) (a' := ?_) #[true, false, false, false, false] rfl rfl (by kernel_rfl) (fun _ _ _ h => h) (Or.inl ⟨by rfl, ?_⟩) hHeld ?_ ?_
  rotate_left
  · rintro w' ⟨s0, s1, s2, s3, s4, s5, s6, s7, s8, s9⟩
    go_simp
    with_reducible rfl
  rotate_left
  · simp only [Act.put, List.setIfInBounds_toArray, List.set_cons_zero, List.set_cons_succ, i64_w, i32_w]
    rfl
  refine take_ (i := 1) (N := some 64) (v := ?_) (a' := ?_) #[true, true, false, false, false] rfl rfl (by kernel_rfl) (fun _ _ _ h => h) (Or.inl ⟨by rfl, ?_⟩) hHeld ?_ ?_
  rotate_left
  · rintro w' ⟨s0, s1, s2, s3, s4, s5, s6, s7, s8, s9⟩
    go_simp
    with_reducible rfl
  rotate_left
  · simp only [Act.put, List.setIfInBounds_toArray, List.set_cons_zero, List.set_cons_succ, i64_w, i32_w]
    rfl
  refine one_ (i := 2) (N := some 65) #[true, true, true, false, false] rfl rfl (by kernel_rfl) (by decide) (fun K hK => ?_)
  refine goes_ Try.func25 (by kernel_rfl) rfl #[.agg #[.slice A0 l0.length c0, .slice A1 l1.length c1, .slice A2 l2.length c2, .slice A3 l3.length c3, .int .i64 x4]] (by rfl) rfl rfl (by simp only [List.map_toArray, List.map_cons, List.map_nil]; rfl) ?_
  with_reducible refine (st_toLevels (w0 := w) (by with_reducible exact HD) HR0.out HC0.out HR1.out HC1.out HR2.out HC2.out HR3.out HC3.out HT0.out HT1.out HT2.out HT3.out).mono ?_
  rintro e w10 ⟨Y0_0, y0_0, Y0_1, y0_1, Y0_2, y0_2, Y0_3, y0_3, rfl, y0_l0, y0_h0, y0_l1, y0_h1, y0_l2, y0_h2, y0_l3, y0_h3, HD⟩
  refine ⟨_, rfl, ?_⟩
  have s0_ : w10.cell? ⟨w5.heap.size, 0, none⟩ = some (.slice X0 r0.length x0) := HD.cell (List.mem_cons_of_mem _ (List.mem_cons_of_mem _ (List.mem_cons_of_mem _ (List.mem_cons_of_mem _ (List.mem_cons_of_mem _ (List.mem_cons_of_mem _ (List.mem_cons_of_mem _ List.mem_cons_self))))))) 0 _ rfl
  have s1_ : w10.cell? ⟨w5.heap.size, 1, none⟩ = some (.slice X1 r1.length x1) := HD.cell (List.mem_cons_of_mem _ (List.mem_cons_of_mem _ (List.mem_cons_of_mem _ (List.mem_cons_of_mem _ (List.mem_cons_of_mem _ (List.mem_cons_of_mem _ (List.mem_cons_of_mem _ List.mem_cons_self))))))) 1 _ rfl
  have s2_ : w10.cell? ⟨w5.heap.size, 2, none⟩ = some (.slice X2 r2.length x2) := HD.cell (List.mem_cons_of_mem _ (List.mem_cons_of_mem _ (List.mem_cons_of_mem _ (List.mem_cons_of_mem _ (List.mem_cons_of_mem _ (List.mem_cons_of_mem _ (List.mem_cons_of_mem _ List.mem_cons_self))))))) 2 _ rfl
  have s3_ : w10.cell? ⟨w5.heap.size, 3, none⟩ = some (.slice X3 r3.length x3) := HD.cell (List.mem_cons_of_mem _ (List.mem_cons_of_mem _ (List.mem_cons_of_mem _ (List.mem_cons_of_mem _ (List.mem_cons_of_mem _ (List.mem_cons_of_mem _ (List.mem_cons_of_mem _ List.mem_cons_self))))))) 3 _ rfl
  have s4_ : w10.cell? ⟨w5.heap.size, 4, none⟩ = some (.int .i64 x4) := HD.cell (List.mem_cons_of_mem _ (List.mem_cons_of_mem _ (List.mem_cons_of_mem _ (List.mem_cons_of_mem _ (List.mem_cons_of_mem _ (List.mem_cons_of_mem _ (List.mem_cons_of_mem _ List.mem_cons_self))))))) 4 _ rfl
  have s5_ : w10.cell? ⟨w.heap.size, 0, none⟩ = some (.slice A0 l0.length c0) := HD.cell (List.mem_cons_of_mem _ (List.mem_cons_of_mem _ (List.mem_cons_of_mem _ (List.mem_cons_of_mem _ (List.mem_cons_of_mem _ (List.mem_cons_of_mem _ (List.mem_cons_of_mem _ (List.mem_cons_of_mem _ (List.mem_cons_of_mem _ (List.mem_cons_of_mem _ (List.mem_cons_of_mem _ (List.mem_cons_of_mem _ (List.mem_cons_of_mem _ (List.mem_cons_of_mem _ (List.mem_cons_of_mem _ (List.mem_cons_of_mem _ (List.mem_cons_of_mem _ (List.mem_cons_of_mem _ (List.mem_cons_of_mem _ List.mem_cons_self))))))))))))))))))) 0 _ rfl
  have s6_ : w10.cell? ⟨w.heap.size, 1, none⟩ = some (.slice A1 l1.length c1) := HD.cell (List.mem_cons_of_mem _ (List.mem_cons_of_mem _ (List.mem_cons_of_mem _ (List.mem_cons_of_mem _ (List.mem_cons_of_mem _ (List.mem_cons_of_mem _ (List.mem_cons_of_mem _ (List.mem_cons_of_mem _ (List.mem_cons_of_mem _ (List.mem_cons_of_mem _ (List.mem_cons_of_mem _ (List.mem_cons_of_mem _ (List.mem_cons_of_mem _ (List.mem_cons_of_mem _ (List.mem_cons_of_mem _ (List.mem_cons_of_mem _ (List.mem_cons_of_mem _ (List.mem_cons_of_mem _ (List.mem_cons_of_mem _ List.mem_cons_self))))))))))))))))))) 1 _ rfl
  have s7_ : w10.cell? ⟨w.heap.size, 2, none⟩ = some (.slice A2 l2.length c2) := HD.cell (List.mem_cons_of_mem _ (List.mem_cons_of_mem _ (List.mem_cons_of_mem _ (List.mem_cons_of_mem _ (List.mem_cons_of_mem _ (List.mem_cons_of_mem _ (List.mem_cons_of_mem _ (List.mem_cons_of_mem _ (List.mem_cons_of_mem _ (List.mem_cons_of_mem _ (List.mem_cons_of_mem _ (List.mem_cons_of_mem _ (List.mem_cons_of_mem _ (List.mem_cons_of_mem _ (List.mem_cons_of_mem _ (List.mem_cons_of_mem _ (List.mem_cons_of_mem _ (List.mem_cons_of_mem _ (List.mem_cons_of_mem _ List.mem_cons_self))))))))))))))))))) 2 _ rfl
  have s8_ : w10.cell? ⟨w.heap.size, 3, none⟩ = some (.slice A3 l3.length c3) := HD.cell (List.mem_cons_of_mem _ (List.mem_cons_of_mem _ (List.mem_cons_of_mem _ (List.mem_cons_of_mem _ (List.mem_cons_of_mem _ (List.mem_cons_of_mem _ (List.mem_cons_of_mem _ (List.mem_cons_of_mem _ (List.mem_cons_of_mem _ (List.mem_cons_of_mem _ (List.mem_cons_of_mem _ (List.mem_cons_of_mem _ (List.mem_cons_of_mem _ (List.mem_cons_of_mem _ (List.mem_cons_of_mem _ (List.mem_cons_of_mem _ (List.mem_cons_of_mem _ (List.mem_cons_of_mem _ (List.mem_cons_of_mem _ List.mem_cons_self))))))))))))))))))) 3 _ rfl
  have s9_ : w10.cell? ⟨w.heap.size, 4, none⟩ = some (.int .i64 x4) := HD.cell (List.mem_cons_of_mem _ (List.mem_cons_of_mem _ (List.mem_cons_of_mem _ (List.mem_cons_of_mem _ (List.mem_cons_of_mem _ (List.mem_cons_of_mem _ (List.mem_cons_of_mem _ (List.mem_cons_of_mem _ (List.mem_cons_of_mem _ (List.mem_cons_of_mem _ (List.mem_cons_of_mem _ (List.mem_cons_of_mem _ (List.mem_cons_of_mem _ (List.mem_cons_of_mem _ (List.mem_cons_of_mem _ (List.mem_cons_of_mem _ (List.mem_cons_of_mem _ (List.mem_cons_of_mem _ (List.mem_cons_of_mem _ List.mem_cons_self))))))))))))))))))) 4 _ rfl
  refine hK.out _ _ ⟨s0_, s1_, s2_, s3_, s4_, s5_, s6_, s7_, s8_, s9_⟩ (fun hHeld => ?_)
  clear hK K
  refine norm_ (a' := ?_) ?_ ?_
  rotate_left
  · show Act.put _ (some 65) _ = _
    simp only [Act.put, List.setIfInBounds_toArray, List.set_cons_zero, List.set_cons_succ, i64_w, i32_w]
    rfl
  refine one_ (i := 3) (N := some 66) #[true, true, true, true, false] rfl rfl (by kernel_rfl) (by decide) (fun K hK => ?_)
  clear s0_ s1_ s2_ s3_ s4_ s5_ s6_ s7_ s8_ s9_
  refine goes_ Try.func28 (by kernel_rfl) rfl #[.agg #[.slice X0 r0.length x0, .slice X1 r1.length x1, .slice X2 r2.length x2, .slice X3 r3.length x3, .int .i64 x4], .agg #[.slice Y0_0 r0.length y0_0, .slice Y0_1 r1.length y0_1, .slice Y0_2 r2.length y0_2, .slice Y0_3 r3.length y0_3, .int .i64 x4]] (by rfl) rfl rfl (by simp only [List.map_toArray, List.map_cons, List.map_nil]; rfl) ?_
  with_reducible refine (st_eqLevels (w0 := w) (by with_reducible exact HD) (List.mem_cons_of_mem _ (List.mem_cons_of_mem _ (List.mem_cons_of_mem _ (List.mem_cons_of_mem _ (List.mem_cons_of_mem _ (List.mem_cons_of_mem _ (List.mem_cons_of_mem _ (List.mem_cons_of_mem _ (List.mem_cons_of_mem _ (List.mem_cons_of_mem _ (List.mem_cons_of_mem _ List.mem_cons_self))))))))))) (List.mem_cons_of_mem _ (List.mem_cons_of_mem _ (List.mem_cons_of_mem _ List.mem_cons_self))) (List.mem_cons_of_mem _ (List.mem_cons_of_mem _ (List.mem_cons_of_mem _ (List.mem_cons_of_mem _ (List.mem_cons_of_mem _ (List.mem_cons_of_mem _ (List.mem_cons_of_mem _ (List.mem_cons_of_mem _ (List.mem_cons_of_mem _ (List.mem_cons_of_mem _ List.mem_cons_self)))))))))) (List.mem_cons_of_mem _ (List.mem_cons_of_mem _ List.mem_cons_self)) (List.mem_cons_of_mem _ (List.mem_cons_of_mem _ (List.mem_cons_of_mem _ (List.mem_cons_of_mem _ (List.mem_cons_of_mem _ (List.mem_cons_of_mem _ (List.mem_cons_of_mem _ (List.mem_cons_of_mem _ (List.mem_cons_of_mem _ List.mem_cons_self))))))))) (List.mem_cons_of_mem _ List.mem_cons_self) (List.mem_cons_of_mem _ (List.mem_cons_of_mem _ (List.mem_cons_of_mem _ (List.mem_cons_of_mem _ (List.mem_cons_of_mem _ (List.mem_cons_of_mem _ (List.mem_cons_of_mem _ (List.mem_cons_of_mem _ List.mem_cons_self)))))))) List.mem_cons_self EP0.out).mono ?_
  rintro e w11 ⟨rfl, HD⟩
  refine ⟨_, rfl, ?_⟩
  have s0_ : w11.cell? ⟨w5.heap.size, 0, none⟩ = some (.slice X0 r0.length x0) := HD.cell (List.mem_cons_of_mem _ (List.mem_cons_of_mem _ (List.mem_cons_of_mem _ (List.mem_cons_of_mem _ (List.mem_cons_of_mem _ (List.mem_cons_of_mem _ (List.mem_cons_of_mem _ List.mem_cons_self))))))) 0 _ rfl
  have s1_ : w11.cell? ⟨w5.heap.size, 1, none⟩ = some (.slice X1 r1.length x1) := HD.cell (List.mem_cons_of_mem _ (List.mem_cons_of_mem _ (List.mem_cons_of_mem _ (List.mem_cons_of_mem _ (List.mem_cons_of_mem _ (List.mem_cons_of_mem _ (List.mem_cons_of_mem _ List.mem_cons_self))))))) 1 _ rfl
  have s2_ : w11.cell? ⟨w5.heap.size, 2, none⟩ = some (.slice X2 r2.length x2) := HD.cell (List.mem_cons_of_mem _ (List.mem_cons_of_mem _ (List.mem_cons_of_mem _ (List.mem_cons_of_mem _ (List.mem_cons_of_mem _ (List.mem_cons_of_mem _ (List.mem_cons_of_mem _ List.mem_cons_self))))))) 2 _ rfl
  have s3_ : w11.cell? ⟨w5.heap.size, 3, none⟩ = some (.slice X3 r3.length x3) := HD.cell (List.mem_cons_of_mem _ (List.mem_cons_of_mem _ (List.mem_cons_of_mem _ (List.mem_cons_of_mem _ (List.mem_cons_of_mem _ (List.mem_cons_of_mem _ (List.mem_cons_of_mem _ List.mem_cons_self))))))) 3 _ rfl
  have s4_ : w11.cell? ⟨w5.heap.size, 4, none⟩ = some (.int .i64 x4) := HD.cell (List.mem_cons_of_mem _ (List.mem_cons_of_mem _ (List.mem_cons_of_mem _ (List.mem_cons_of_mem _ (List.mem_cons_of_mem _ (List.mem_cons_of_mem _ (List.mem_cons_of_mem _ List.mem_cons_self))))))) 4 _ rfl
  have s5_ : w11.cell? ⟨w.heap.size, 0, none⟩ = some (.slice A0 l0.length c0) := HD.cell (List.mem_cons_of_mem _ (List.mem_cons_of_mem _ (List.mem_cons_of_mem _ (List.mem_cons_of_mem _ (List.mem_cons_of_mem _ (List.mem_cons_of_mem _ (List.mem_cons_of_mem _ (List.mem_cons_of_mem _ (List.mem_cons_of_mem _ (List.mem_cons_of_mem _ (List.mem_cons_of_mem _ (List.mem_cons_of_mem _ (List.mem_cons_of_mem _ (List.mem_cons_of_mem _ (List.mem_cons_of_mem _ (List.mem_cons_of_mem _ (List.mem_cons_of_mem _ (List.mem_cons_of_mem _ (List.mem_cons_of_mem _ List.mem_cons_self))))))))))))))))))) 0 _ rfl
  have s6_ : w11.cell? ⟨w.heap.size, 1, none⟩ = some (.slice A1 l1.length c1) := HD.cell (List.mem_cons_of_mem _ (List.mem_cons_of_mem _ (List.mem_cons_of_mem _ (List.mem_cons_of_mem _ (List.mem_cons_of_mem _ (List.mem_cons_of_mem _ (List.mem_cons_of_mem _ (List.mem_cons_of_mem _ (List.mem_cons_of_mem _ (List.mem_cons_of_mem _ (List.mem_cons_of_mem _ (List.mem_cons_of_mem _ (List.mem_cons_of_mem _ (List.mem_cons_of_mem _ (List.mem_cons_of_mem _ (List.mem_cons_of_mem _ (List.mem_cons_of_mem _ (List.mem_cons_of_mem _ (List.mem_cons_of_mem _ List.mem_cons_self))))))))))))))))))) 1 _ rfl
  have s7_ : w11.cell? ⟨w.heap.size, 2, none⟩ = some (.slice A2 l2.length c2) := HD.cell (List.mem_cons_of_mem _ (List.mem_cons_of_mem _ (List.mem_cons_of_mem _ (List.mem_cons_of_mem _ (List.mem_cons_of_mem _ (List.mem_cons_of_mem _ (List.mem_cons_of_mem _ (List.mem_cons_of_mem _ (List.mem_cons_of_mem _ (List.mem_cons_of_mem _ (List.mem_cons_of_mem _ (List.mem_cons_of_mem _ (List.mem_cons_of_mem _ (List.mem_cons_of_mem _ (List.mem_cons_of_mem _ (List.mem_cons_of_mem _ (List.mem_cons_of_mem _ (List.mem_cons_of_mem _ (List.mem_cons_of_mem _ List.mem_cons_self))))))))))))))))))) 2 _ rfl
  have s8_ : w11.cell? ⟨w.heap.size, 3, none⟩ = some (.slice A3 l3.length c3) := HD.cell (List.mem_cons_of_mem _ (List.mem_cons_of_mem _ (List.mem_cons_of_mem _ (List.mem_cons_of_mem _ (List.mem_cons_of_mem _ (List.mem_cons_of_mem _ (List.mem_cons_of_mem _ (List.mem_cons_of_mem _ (List.mem_cons_of_mem _ (List.mem_cons_of_mem _ (List.mem_cons_of_mem _ (List.mem_cons_of_mem _ (List.mem_cons_of_mem _ (List.mem_cons_of_mem _ (List.mem_cons_of_mem _ (List.mem_cons_of_mem _ (List.mem_cons_of_mem _ (List.mem_cons_of_mem _ (List.mem_cons_of_mem _ List.mem_cons_self))))))))))))))))))) 3 _ rfl
  have s9_ : w11.cell? ⟨w.heap.size, 4, none⟩ = some (.int .i64 x4) := HD.cell (List.mem_cons_of_mem _ (List.mem_cons_of_mem _ (List.mem_cons_of_mem _ (List.mem_cons_of_mem _ (List.mem_cons_of_mem _ (List.mem_cons_of_mem _ (List.mem_cons_of_mem _ (List.mem_cons_of_mem _ (List.mem_cons_of_mem _ (List.mem_cons_of_mem _ (List.mem_cons_of_mem _ (List.mem_cons_of_mem _ (List.mem_cons_of_mem _ (List.mem_cons_of_mem _ (List.mem_cons_of_mem _ (List.mem_cons_of_mem _ (List.mem_cons_of_mem _ (List.mem_cons_of_mem _ (List.mem_cons_of_mem _ List.mem_cons_self))))))))))))))))))) 4 _ rfl
  refine hK.out _ _ ⟨s0_, s1_, s2_, s3_, s4_, s5_, s6_, s7_, s8_, s9_⟩ (fun hHeld => ?_)
  clear hK K
  refine norm_ (a' := ?_) ?_ ?_
  rotate_left
  · show Act.put _ (some 66) _ = _
    simp only [Act.put, List.setIfInBounds_toArray, List.set_cons_zero, List.set_cons_succ, i64_w, i32_w]
    rfl
  refine pure_ (i := 4) (N := some 67) (v := ?_) (a' := ?_) #[true, true, true, true, true] rfl rfl (by kernel_rfl) (fun _ _ _ h => h) (Or.inl ⟨by rfl, ?_⟩) ?_ ?_
  rotate_left
  · intro w'
    go_simp
    with_reducible rfl
  rotate_left
  · simp only [Act.put, List.setIfInBounds_toArray, List.set_cons_zero, List.set_cons_succ, i64_w, i32_w]
    rfl
  refine done_ (by kernel_rfl) ?_
  clear hHeld s0_ s1_ s2_ s3_ s4_ s5_ s6_ s7_ s8_ s9_
  replace HS := HD
  clear HD
  go_wp2_with fail
  refine (st_toInt64S_ (w0 := w) (by with_reducible exact HS) HR5.out HC5.out HT5.out).mono ?_
  rintro e w12 ⟨Y1_5, y1_5, y1_l5, y1_h5, rfl, HS⟩
  go_wp2_with fail
  refine (st_eqInt64S_ (w0 := w) (by with_reducible exact HS) (List.mem_cons_of_mem _ (List.mem_cons_of_mem _ (List.mem_cons_of_mem _ (List.mem_cons_of_mem _ (List.mem_cons_of_mem _ (List.mem_cons_of_mem _ (List.mem_cons_of_mem _ List.mem_cons_self))))))) List.mem_cons_self EP1.out).mono ?_
  rintro e w13 ⟨rfl, HS⟩
  have q0 : w13.cell? ⟨w5.heap.size, 0, none⟩ = some (.slice X0 r0.length x0) := HS.cell (List.mem_cons_of_mem _ (List.mem_cons_of_mem _ (List.mem_cons_of_mem _ (List.mem_cons_of_mem _ (List.mem_cons_of_mem _ (List.mem_cons_of_mem _ (List.mem_cons_of_mem _ (List.mem_cons_of_mem _ List.mem_cons_self)))))))) 0 _ rfl
  have q1 : w13.cell? ⟨w5.heap.size, 1, none⟩ = some (.slice X1 r1.length x1) := HS.cell (List.mem_cons_of_mem _ (List.mem_cons_of_mem _ (List.mem_cons_of_mem _ (List.mem_cons_of_mem _ (List.mem_cons_of_mem _ (List.mem_cons_of_mem _ (List.mem_cons_of_mem _ (List.mem_cons_of_mem _ List.mem_cons_self)))))))) 1 _ rfl
  have q2 : w13.cell? ⟨w5.heap.size, 2, none⟩ = some (.slice X2 r2.length x2) := HS.cell (List.mem_cons_of_mem _ (List.mem_cons_of_mem _ (List.mem_cons_of_mem _ (List.mem_cons_of_mem _ (List.mem_cons_of_mem _ (List.mem_cons_of_mem _ (List.mem_cons_of_mem _ (List.mem_cons_of_mem _ List.mem_cons_self)))))))) 2 _ rfl
  have q3 : w13.cell? ⟨w5.heap.size, 3, none⟩ = some (.slice X3 r3.length x3) := HS.cell (List.mem_cons_of_mem _ (List.mem_cons_of_mem _ (List.mem_cons_of_mem _ (List.mem_cons_of_mem _ (List.mem_cons_of_mem _ (List.mem_cons_of_mem _ (List.mem_cons_of_mem _ (List.mem_cons_of_mem _ List.mem_cons_self)))))))) 3 _ rfl
  have q4 : w13.cell? ⟨w5.heap.size, 4, none⟩ = some (.int .i64 x4) := HS.cell (List.mem_cons_of_mem _ (List.mem_cons_of_mem _ (List.mem_cons_of_mem _ (List.mem_cons_of_mem _ (List.mem_cons_of_mem _ (List.mem_cons_of_mem _ (List.mem_cons_of_mem _ (List.mem_cons_of_mem _ List.mem_cons_self)))))))) 4 _ rfl
  go_wp2_with fail
  clear q0 q1 q2 q3 q4
  refine (st_markLevels (w0 := w) (by with_reducible exact HS) (.there (.there (.there (.there (.there (.there (.there (.there (.there (.there (.there (.there .here)))))))))))) XP0.out XJ0.out XI0.out XB0.out XV0.out XE0.out (.there (.there (.there (.there (.there (.there (.there (.there (.there (.there (.there .here))))))))))) XE1.out (.there (.there (.there (.there (.there (.there (.there (.there (.there (.there .here)))))))))) XP2.out XJ2.out XI2.out XB2.out XV2.out XE2.out (.there (.there (.there (.there (.there (.there (.there (.there (.there .here))))))))) XE3.out).mono ?_
  rintro e w14 ⟨rfl, HS⟩
  go_wp2_with fail
  refine (st_markInt64S_ (w0 := w) (by with_reducible exact HS) (.there (.there (.there (.there (.there (.there (.there .here))))))) XE5.out).mono ?_
  rintro e w15 ⟨rfl, HS⟩
  go_wp2_with fail
  refine (st_eqInt64S_ (w0 := w) (by with_reducible exact HS) (List.mem_cons_of_mem _ (List.mem_cons_of_mem _ (List.mem_cons_of_mem _ (List.mem_cons_of_mem _ (List.mem_cons_of_mem _ List.mem_cons_self))))) (List.mem_cons_of_mem _ (List.mem_cons_of_mem _ (List.mem_cons_of_mem _ (List.mem_cons_of_mem _ (List.mem_cons_of_mem _ (List.mem_cons_of_mem _ (List.mem_cons_of_mem _ (List.mem_cons_of_mem _ (List.mem_cons_of_mem _ (List.mem_cons_of_mem _ (List.mem_cons_of_mem _ (List.mem_cons_of_mem _ (List.mem_cons_of_mem _ List.mem_cons_self))))))))))))) EG0.out).mono ?_
  rintro e w16 ⟨rfl, HS⟩
  go_wp2_with fail
  refine (st_eqInt64S_ (w0 := w) (by with_reducible exact HS) (List.mem_cons_of_mem _ (List.mem_cons_of_mem _ (List.mem_cons_of_mem _ (List.mem_cons_of_mem _ (List.mem_cons_of_mem _ (List.mem_cons_of_mem _ List.mem_cons_self)))))) (List.mem_cons_of_mem _ (List.mem_cons_of_mem _ (List.mem_cons_of_mem _ (List.mem_cons_of_mem _ (List.mem_cons_of_mem _ (List.mem_cons_of_mem _ (List.mem_cons_of_mem _ (List.mem_cons_of_mem _ (List.mem_cons_of_mem _ (List.mem_cons_of_mem _ (List.mem_cons_of_mem _ (List.mem_cons_of_mem _ (List.mem_cons_of_mem _ (List.mem_cons_of_mem _ List.mem_cons_self)))))))))))))) EG1.out).mono ?_
  rintro e w17 ⟨rfl, HS⟩
  go_wp2_with fail
  refine (st_markInt64S_ (w0 := w) (by with_reducible exact HS) (.there (.there (.there (.there (.there .here))))) MG0.out).mono ?_
  rintro e w18 ⟨rfl, HS⟩
  go_wp2_with fail
  refine (st_markInt64S_ (w0 := w) (by with_reducible exact HS) (.there (.there (.there (.there (.there (.there .here)))))) MG1.out).mono ?_
  rintro e w19 ⟨rfl, HS⟩
  go_wp2_with fail
  refine (st_heldInt64S_ (w0 := w) (by with_reducible exact HS) (List.mem_cons_of_mem _ (List.mem_cons_of_mem _ (List.mem_cons_of_mem _ (List.mem_cons_of_mem _ (List.mem_cons_of_mem _ List.mem_cons_self))))) HG0.out).mono ?_
  rintro e w20 ⟨rfl, HS⟩
  go_wp2_with fail
  refine (st_heldInt64S_ (w0 := w) (by with_reducible exact HS) (List.mem_cons_of_mem _ (List.mem_cons_of_mem _ (List.mem_cons_of_mem _ (List.mem_cons_of_mem _ (List.mem_cons_of_mem _ (List.mem_cons_of_mem _ List.mem_cons_self)))))) HG1.out).mono ?_
  rintro e w21 ⟨rfl, HS⟩
  have q0 : w21.cell? ⟨w.heap.size, 0, none⟩ = some (.slice A0 l0.length c0) := HS.cell (List.mem_cons_of_mem _ (List.mem_cons_of_mem _ (List.mem_cons_of_mem _ (List.mem_cons_of_mem _ (List.mem_cons_of_mem _ (List.mem_cons_of_mem _ (List.mem_cons_of_mem _ (List.mem_cons_of_mem _ (List.mem_cons_of_mem _ (List.mem_cons_of_mem _ (List.mem_cons_of_mem _ (List.mem_cons_of_mem _ (List.mem_cons_of_mem _ (List.mem_cons_of_mem _ (List.mem_cons_of_mem _ (List.mem_cons_of_mem _ (List.mem_cons_of_mem _ (List.mem_cons_of_mem _ (List.mem_cons_of_mem _ (List.mem_cons_of_mem _ List.mem_cons_self)))))))))))))))))))) 0 _ rfl
  have q1 : w21.cell? ⟨w.heap.size, 1, none⟩ = some (.slice A1 l1.length c1) := HS.cell (List.mem_cons_of_mem _ (List.mem_cons_of_mem _ (List.mem_cons_of_mem _ (List.mem_cons_of_mem _ (List.mem_cons_of_mem _ (List.mem_cons_of_mem _ (List.mem_cons_of_mem _ (List.mem_cons_of_mem _ (List.mem_cons_of_mem _ (List.mem_cons_of_mem _ (List.mem_cons_of_mem _ (List.mem_cons_of_mem _ (List.mem_cons_of_mem _ (List.mem_cons_of_mem _ (List.mem_cons_of_mem _ (List.mem_cons_of_mem _ (List.mem_cons_of_mem _ (List.mem_cons_of_mem _ (List.mem_cons_of_mem _ (List.mem_cons_of_mem _ List.mem_cons_self)))))))))))))))))))) 1 _ rfl
  have q2 : w21.cell? ⟨w.heap.size, 2, none⟩ = some (.slice A2 l2.length c2) := HS.cell (List.mem_cons_of_mem _ (List.mem_cons_of_mem _ (List.mem_cons_of_mem _ (List.mem_cons_of_mem _ (List.mem_cons_of_mem _ (List.mem_cons_of_mem _ (List.mem_cons_of_mem _ (List.mem_cons_of_mem _ (List.mem_cons_of_mem _ (List.mem_cons_of_mem _ (List.mem_cons_of_mem _ (List.mem_cons_of_mem _ (List.mem_cons_of_mem _ (List.mem_cons_of_mem _ (List.mem_cons_of_mem _ (List.mem_cons_of_mem _ (List.mem_cons_of_mem _ (List.mem_cons_of_mem _ (List.mem_cons_of_mem _ (List.mem_cons_of_mem _ List.mem_cons_self)))))))))))))))))))) 2 _ rfl
  have q3 : w21.cell? ⟨w.heap.size, 3, none⟩ = some (.slice A3 l3.length c3) := HS.cell (List.mem_cons_of_mem _ (List.mem_cons_of_mem _ (List.mem_cons_of_mem _ (List.mem_cons_of_mem _ (List.mem_cons_of_mem _ (List.mem_cons_of_mem _ (List.mem_cons_of_mem _ (List.mem_cons_of_mem _ (List.mem_cons_of_mem _ (List.mem_cons_of_mem _ (List.mem_cons_of_mem _ (List.mem_cons_of_mem _ (List.mem_cons_of_mem _ (List.mem_cons_of_mem _ (List.mem_cons_of_mem _ (List.mem_cons_of_mem _ (List.mem_cons_of_mem _ (List.mem_cons_of_mem _ (List.mem_cons_of_mem _ (List.mem_cons_of_mem _ List.mem_cons_self)))))))))))))))))))) 3 _ rfl
  have q4 : w21.cell? ⟨w.heap.size, 4, none⟩ = some (.int .i64 x4) := HS.cell (List.mem_cons_of_mem _ (List.mem_cons_of_mem _ (List.mem_cons_of_mem _ (List.mem_cons_of_mem _ (List.mem_cons_of_mem _ (List.mem_cons_of_mem _ (List.mem_cons_of_mem _ (List.mem_cons_of_mem _ (List.mem_cons_of_mem _ (List.mem_cons_of_mem _ (List.mem_cons_of_mem _ (List.mem_cons_of_mem _ (List.mem_cons_of_mem _ (List.mem_cons_of_mem _ (List.mem_cons_of_mem _ (List.mem_cons_of_mem _ (List.mem_cons_of_mem _ (List.mem_cons_of_mem _ (List.mem_cons_of_mem _ (List.mem_cons_of_mem _ List.mem_cons_self)))))))))))))))))))) 4 _ rfl
  go_wp2_with fail
  clear q0 q1 q2 q3 q4
  refine (st_toLevels (w0 := w) (by with_reducible exact HS) HR0.out HC0.out HR1.out HC1.out HR2.out HC2.out HR3.out HC3.out HT0.out HT1.out HT2.out HT3.out).mono ?_
  rintro e w22 ⟨Z0, z0, Z1, z1, Z2, z2, Z3, z3, rfl, zl0, zh0, zl1, zh1, zl2, zh2, zl3, zh3, HS⟩
  go_wp2_with fail
  refine (st_toInt64S_ (w0 := w) (by with_reducible exact HS) HR5.out HC5.out HT5.out).mono ?_
  rintro e w23 ⟨Z5, z5, zl5, zh5, rfl, HS⟩
  go_wp2_with fail
  refine (st_implX (w0 := w) (by with_reducible exact HS) (List.mem_cons_of_mem _ (List.mem_cons_of_mem _ (List.mem_cons_of_mem _ (List.mem_cons_of_mem _ List.mem_cons_self)))) (List.mem_cons_of_mem _ (List.mem_cons_of_mem _ (List.mem_cons_of_mem _ List.mem_cons_self))) (List.mem_cons_of_mem _ (List.mem_cons_of_mem _ List.mem_cons_self)) (List.mem_cons_of_mem _ List.mem_cons_self) List.mem_cons_self IM.out).mono ?_
  rintro e w24 ⟨H0, h0, H1, h1, rfl, hl0, hh0, hl1, hh1, HS⟩
  go_wp2_with fail
  refine (st_eqInt64S_ (w0 := w) (by with_reducible exact HS) List.mem_cons_self (List.mem_cons_of_mem _ (List.mem_cons_of_mem _ (List.mem_cons_of_mem _ (List.mem_cons_of_mem _ (List.mem_cons_of_mem _ (List.mem_cons_of_mem _ (List.mem_cons_of_mem _ (List.mem_cons_of_mem _ (List.mem_cons_of_mem _ (List.mem_cons_of_mem _ (List.mem_cons_of_mem _ (List.mem_cons_of_mem _ (List.mem_cons_of_mem _ (List.mem_cons_of_mem _ (List.mem_cons_of_mem _ (List.mem_cons_of_mem _ (List.mem_cons_of_mem _ (List.mem_cons_of_mem _ (List.mem_cons_of_mem _ (List.mem_cons_of_mem _ List.mem_cons_self)))))))))))))))))))) EG0.out).mono ?_
  rintro e w25 ⟨rfl, HS⟩
  go_wp2_with fail
  refine (st_eqInt64S_ (w0 := w) (by with_reducible exact HS) (List.mem_cons_of_mem _ List.mem_cons_self) (List.mem_cons_of_mem _ (List.mem_cons_of_mem _ (List.mem_cons_of_mem _ (List.mem_cons_of_mem _ (List.mem_cons_of_mem _ (List.mem_cons_of_mem _ (List.mem_cons_of_mem _ (List.mem_cons_of_mem _ (List.mem_cons_of_mem _ (List.mem_cons_of_mem _ (List.mem_cons_of_mem _ (List.mem_cons_of_mem _ (List.mem_cons_of_mem _ (List.mem_cons_of_mem _ (List.mem_cons_of_mem _ (List.mem_cons_of_mem _ (List.mem_cons_of_mem _ (List.mem_cons_of_mem _ (List.mem_cons_of_mem _ (List.mem_cons_of_mem _ (List.mem_cons_of_mem _ List.mem_cons_self))))))))))))))))))))) EG1.out).mono ?_
  rintro e w26 ⟨rfl, HS⟩
  go_wp2_with fail
  refine (st_heldInt64S_ (w0 := w) (by with_reducible exact HS) (List.mem_cons_of_mem _ (List.mem_cons_of_mem _ (List.mem_cons_of_mem _ (List.mem_cons_of_mem _ (List.mem_cons_of_mem _ (List.mem_cons_of_mem _ (List.mem_cons_of_mem _ (List.mem_cons_of_mem _ (List.mem_cons_of_mem _ (List.mem_cons_of_mem _ (List.mem_cons_of_mem _ (List.mem_cons_of_mem _ List.mem_cons_self)))))))))))) HG0.out).mono ?_
  rintro e w27 ⟨rfl, HS⟩
  go_wp2_with fail
  refine (st_heldInt64S_ (w0 := w) (by with_reducible exact HS) (List.mem_cons_of_mem _ (List.mem_cons_of_mem _ (List.mem_cons_of_mem _ (List.mem_cons_of_mem _ (List.mem_cons_of_mem _ (List.mem_cons_of_mem _ (List.mem_cons_of_mem _ (List.mem_cons_of_mem _ (List.mem_cons_of_mem _ (List.mem_cons_of_mem _ (List.mem_cons_of_mem _ (List.mem_cons_of_mem _ (List.mem_cons_of_mem _ List.mem_cons_self))))))))))))) HG1.out).mono ?_
  rintro e w28 ⟨rfl, HS⟩
  go_wp2_with fail
  go_ret
  exact ⟨rfl, HS.below⟩
theorem both_ev (h1 : List (List Int)) (m1 : List Int) (h2 : List (List Int)) (m2 : List Int) (md : Int) (u : List Int) (hl1 : h1.length ≤ 1048576) (hi1 : ∀ x ∈ h1, x.length ≤ 1048576) (hm1 : m1.length ≤ 1048576) (hl2 : h2.length ≤ 1048576) (hi2 : ∀ x ∈ h2, x.length ≤ 1048576) (hm2 : m2.length ≤ 1048576) (hu : u.length ≤ 1048576) :
    ∃ g0 g1 d, Ev (fun k => spec_LevelContents.f k h1 m1 h2 m2 md u) (g0, g1, d) ∧ impl_LevelContents.f h1 m1 h2 m2 md u = some (g0, g1, d) ∧ (g0.length ≤ 1048576 ∧ g1.length ≤ 1048576) := by
  unfold spec_LevelContents.f impl_LevelContents.f
  rw [implLevels_f h1 m1 h2 m2 md hi1 hm1 hi2 hm2, implUses_f]
  have e0 := specLevels_f h1 m1 h2 m2 md hl1 hi1 hm1 hl2 hi2 hm2
  simp only [Option.bind_some]
  cases hv : levB h1 m1 h2 m2 md with
  | false =>
    rw [hv] at e0
    exact ⟨[], [], false, Ev.bindc e0 (Ev.neg (by decide) (Ev.some rfl)), by rw [if_neg (by decide)], by simp⟩
  | true =>
    rw [hv] at e0
    cases hw : usesB u with
    | false =>
      have e1 := specUses_ev u hu
      rw [hw] at e1
      exact ⟨[], [], false, Ev.bindc e0 (Ev.pos rfl (Ev.bind e1 (Ev.neg (by decide) (Ev.some rfl)))), by rw [if_pos rfl, if_neg (by decide)], by simp⟩
    | true =>
      have e1 := specUses_ev u hu
      rw [hw] at e1
      have hl := uses_len hw
      obtain ⟨v1, v2⟩ := levB_facts hv
      obtain ⟨n1, n2, n3⟩ := stackV_len (md := md) v1 v2 u [] (List.replicate m1.length (-1)) (List.replicate m2.length (-1)) 0 (by simp) (by simp)
      refine ⟨(stackV h1 m1 h2 m2 md u [] (List.replicate m1.length (-1)) (List.replicate m2.length (-1)) 0).2.1, (stackV h1 m1 h2 m2 md u [] (List.replicate m1.length (-1)) (List.replicate m2.length (-1)) 0).2.2.1, true, Ev.bindc e0 (Ev.pos rfl (Ev.bind e1 (Ev.pos rfl (Ev.bindc (show spec_l07Stack.f h1 m1 h2 m2 md u = some _ by unfold spec_l07Stack.f; rw [if_pos ⟨hv, hu⟩]) (Ev.some rfl))))), ?_, by rw [n2, n3]; exact ⟨hm1, hm2⟩⟩
      rw [if_pos rfl, if_pos rfl, if_pos ⟨rfl, hl⟩]
def laws_FnExactLevelContents.f (l0_0 : List (List Int)) (l0_1 : List Int) (l0_2 : List (List Int)) (l0_3 : List Int) (a0_4 : Int) (l1 : List Int) : Option Bool := some true
theorem laws_FnExactLevelContents.calls (A0_0 : Option Addr) (c0_0 : Nat) (l0_0 : List (List Int)) (A0_1 : Option Addr) (c0_1 : Nat) (l0_1 : List Int) (A0_2 : Option Addr) (c0_2 : Nat) (l0_2 : List (List Int)) (A0_3 : Option Addr) (c0_3 : Nat) (l0_3 : List Int) (a0_4 : Int) (A1 : Option Addr) (c1 : Nat) (l1 : List Int) (r : Bool) (w : World) (hr0_0 : Kd.C (Kd.slice 2 (Kd.int .i64)) w A0_0 l0_0.length l0_0) (hc0_0 : l0_0.length ≤ c0_0) (hr0_1 : Kd.C (Kd.int .i64) w A0_1 l0_1.length l0_1) (hc0_1 : l0_1.length ≤ c0_1) (hr0_2 : Kd.C (Kd.slice 2 (Kd.int .i64)) w A0_2 l0_2.length l0_2) (hc0_2 : l0_2.length ≤ c0_2) (hr0_3 : Kd.C (Kd.int .i64) w A0_3 l0_3.length l0_3) (hc0_3 : l0_3.length ≤ c0_3) (hr1 : Kd.C (Kd.int .i64) w A1 l1.length l1) (hc1 : l1.length ≤ c1) (h : laws_FnExactLevelContents.f l0_0 l0_1 l0_2 l0_3 a0_4 l1 = some r) :
    Calls Try.prog 6 #[.agg #[.slice A0_0 l0_0.length c0_0, .slice A0_1 l0_1.length c0_1, .slice A0_2 l0_2.length c0_2, .slice A0_3 l0_3.length c0_3, .int .i64 a0_4], .slice A1 l1.length c1] w fun e w' => e = .returned (.bool r) ∧ Below w.heap.size w w' := by
  obtain rfl := Option.some.inj h
  by_cases hb : (l1.length : Int) > 1048576
  · exact bigl5 A0_0 c0_0 l0_0 A0_1 c0_1 l0_1 A0_2 c0_2 l0_2 A0_3 c0_3 l0_3 a0_4 A1 c1 l1 w hr0_0 hc0_0 hr0_1 hc0_1 hr0_2 hc0_2 hr0_3 hc0_3 hr1 hc1 (decide_eq_true hb)
  obtain ⟨z, ez, hz⟩ := szLevels_ev l0_0 l0_1 l0_2 l0_3 a0_4 hr0_0.2.1 (fun y hy => rows_len hr0_0 y hy) hr0_1.2.1 hr0_2.2.1 (fun y hy => rows_len hr0_2 y hy) hr0_3.2.1
  rcases hz with hz | ⟨hz, ⟨L1, I1, M1⟩, ⟨L2, I2, M2⟩, hS⟩
  · exact big0 A0_0 c0_0 l0_0 A0_1 c0_1 l0_1 A0_2 c0_2 l0_2 A0_3 c0_3 l0_3 a0_4 A1 c1 l1 w hr0_0 hc0_0 hr0_1 hc0_1 hr0_2 hc0_2 hr0_3 hc0_3 hr1 hc1 (decide_eq_false hb) z ez (decide_eq_true hz)
  have U : l1.length ≤ 1048576 := by omega
  obtain ⟨g0, g1, d, hsp, him, hg⟩ := both_ev l0_0 l0_1 l0_2 l0_3 a0_4 l1 L1 I1 M1 L2 I2 M2 U
  have t0 := toInt64SS_ev l0_0 L1 I1
  have t2 := toInt64SS_ev l0_2 L2 I2
  rw [List.map_id] at t0 t2
  exact walk A0_0 c0_0 l0_0 A0_1 c0_1 l0_1 A0_2 c0_2 l0_2 A0_3 c0_3 l0_3 a0_4 A1 c1 l1 w hr0_0 hc0_0 hr0_1 hc0_1 hr0_2 hc0_2 hr0_3 hc0_3 hr1 hc1 (decide_eq_false hb) z ez (decide_eq_false (by omega)) t0 (toInt64S_ev l0_1 M1) t2 (toInt64S_ev l0_3 M2) (toInt64S_ev l1 U) hsp him (eqInt64S_ev g0 hg.1) (eqInt64S_ev g1 hg.2) (eqLevels_ev l0_0 l0_1 l0_2 l0_3 a0_4 L1 I1 M1 L2 I2 M2) (eqInt64S_ev l1 U)
    L1 I1 (by omega) (by omega) (by omega) rfl (markInt64S_ev l0_1 _ M1 (by omega) (by omega)) L2 I2 (by omega) (by omega) (by omega) rfl (markInt64S_ev l0_3 _ M2 (by omega) (by omega)) (markInt64S_ev l1 _ U (by omega) (by omega)) (decide_eq_false (by omega)) (markInt64S_ev g0 1 hg.1 (by omega) (by omega)) (heldInt64S_ev g0.length 1 hg.1 (by omega) (by omega)) (decide_eq_false (by omega)) (markInt64S_ev g1 _ hg.2 (by omega) (by omega)) (heldInt64S_ev g1.length _ hg.2 (by omega) (by omega)) (decide_eq_false (by omega))

/-- THE ONE PURE STATEMENT of laws_FnExactLevelContents. -/
def laws_FnExactLevelContents.Pure : Prop := ∀ (l0_0 : List (List Int)) (l0_1 : List Int) (l0_2 : List (List Int)) (l0_3 : List Int) (a0_4 : Int) (l1 : List Int), (l0_0.length ≤ 9223372036854775807 ∧ ∀ le0_0 ∈ l0_0, (le0_0.length ≤ 9223372036854775807 ∧ ∀ lee0_0 ∈ le0_0, (Lit.int .i64 lee0_0).wf = true)) → (l0_1.length ≤ 9223372036854775807 ∧ ∀ le0_1 ∈ l0_1, (Lit.int .i64 le0_1).wf = true) → (l0_2.length ≤ 9223372036854775807 ∧ ∀ le0_2 ∈ l0_2, (le0_2.length ≤ 9223372036854775807 ∧ ∀ lee0_2 ∈ le0_2, (Lit.int .i64 lee0_2).wf = true)) → (l0_3.length ≤ 9223372036854775807 ∧ ∀ le0_3 ∈ l0_3, (Lit.int .i64 le0_3).wf = true) → (Lit.int .i64 a0_4).wf = true → (l1.length ≤ 9223372036854775807 ∧ ∀ le1 ∈ l1, (Lit.int .i64 le1).wf = true) → laws_FnExactLevelContents.f l0_0 l0_1 l0_2 l0_3 a0_4 l1 = some true

end Go.Proofs.Ytpndbaomhcehdaa.PFnExactLevelContents
