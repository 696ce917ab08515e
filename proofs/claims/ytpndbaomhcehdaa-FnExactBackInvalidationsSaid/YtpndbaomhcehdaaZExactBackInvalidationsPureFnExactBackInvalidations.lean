/- The statement FnExactBackInvalidations over lists alone: both programs test the same conditions, and run the same two levels. -/
import Derived.Test.YtpndbaomhcehdaaZExactBackInvalidationsPFnExactBackInvalidationsx
import Derived.Test.YtpndbaomhcehdaaZExactBackInvalidationsX2
import Derived.Test.YtpndbaomhcehdaaZExactBackInvalidationsX7
namespace Go.Proofs.Ytpndbaomhcehdaa.Pure
open Go.RowKit Go.Proofs.YtpndbaomhcehdaaW.PrintWords Go.Proofs.Ytpndbaomhcehdaa.PFnExactBackInvalidations
set_option linter.unusedVariables false
set_option linter.unusedSimpArgs false

theorem szInt64S_f (l : List Int) (a : Int) (h0 : 0 ≤ a) (h1 : a ≤ 1048576) (hl : l.length ≤ 9223372036854775807) : laws_szInt64S.f l a = some (if a < l.length then -1 else a - l.length) := by
  unfold laws_szInt64S.f
  rw [wrap_id (by omega) (by omega)]
  by_cases h : a < l.length
  · rw [if_pos (by omega), if_pos h]
  · rw [if_neg (by omega), if_neg h]
theorem szInt64SS_ev (l : List (List Int)) (a : Int) (h0 : 0 ≤ a) (h1 : a ≤ 1048576) (hl : l.length ≤ 9223372036854775807) (hi : ∀ x ∈ l, x.length ≤ 9223372036854775807) :
    Ev (fun k => laws_szInt64SS.f k l a) (if a < (l.length : Int) + (sumLen l : Int) then -1 else a - ((l.length : Int) + (sumLen l : Int))) := by
  unfold laws_szInt64SS.f
  rw [wrap_id (by omega) (by omega)]
  by_cases h : a < l.length
  · refine Ev.pos (by omega) (Ev.some ?_)
    rw [if_pos (by omega)]
  · refine Ev.neg (by omega) ?_
    have key : ∀ d i (b : Int), l.length - i = d → i ≤ l.length → 0 ≤ b → b ≤ 1048576 → Ev (fun k => laws_szInt64SS.l0 k l b (i : Int)) (if b < (sumLen (l.drop i) : Int) then -1 else b - (sumLen (l.drop i) : Int)) := by
      intro d
      induction d with
      | zero =>
        intro i b hd hi' hb0 hb1
        refine Ev.succ ?_
        simp only [laws_szInt64SS.l0]
        refine Ev.neg (by omega) (Ev.some ?_)
        rw [List.drop_eq_nil_of_le (by omega)]
        simp [sumLen]; omega
      | succ d ih =>
        intro i b hd hi' hb0 hb1
        refine Ev.succ ?_
        simp only [laws_szInt64SS.l0]
        have hx := hi _ (getD_mem l i [] (by omega))
        refine Ev.pos (by omega) (Ev.pos (by omega) (Ev.bindc (szInt64S_f (l.getD i []) b hb0 hb1 hx) ?_))
        rw [drop_cons l i [] (by omega), sumLen_cons]
        generalize l.getD i [] = x at hx ⊢
        by_cases hx2 : b < x.length
        · rw [if_pos hx2]
          refine Ev.pos (by omega) (Ev.some ?_)
          rw [if_pos (by omega)]
        · rw [if_neg hx2]
          refine Ev.neg (by omega) ?_
          rw [wrap_succ (show i < l.length by omega) (by omega)]
          have := ih (i + 1) (b - x.length) (by omega) (by omega) (by omega) (by omega)
          rw [show (if b < ((x.length + sumLen (l.drop (i + 1)) : Nat) : Int) then (-1 : Int) else b - ((x.length + sumLen (l.drop (i + 1)) : Nat) : Int)) = (if b - x.length < (sumLen (l.drop (i + 1)) : Int) then (-1 : Int) else b - x.length - (sumLen (l.drop (i + 1)) : Int)) by split <;> split <;> omega]
          exact this
    have := key l.length 0 (a - l.length) (by omega) (by omega) (by omega) (by omega)
    rw [List.drop_zero] at this
    rw [show (if a < (l.length : Int) + (sumLen l : Int) then (-1 : Int) else a - ((l.length : Int) + (sumLen l : Int))) = (if a - l.length < (sumLen l : Int) then (-1 : Int) else a - l.length - (sumLen l : Int)) by split <;> split <;> omega]
    exact this
theorem toInt64S_ev (l : List Int) (h : l.length ≤ 1048576) : Ev (fun k => laws_toInt64S.f k l) l := by
  unfold laws_toInt64S.f
  refine Ev.pos (by omega) (Ev.pos (by omega) ?_)
  refine Ev.upto (F := fun k s i => laws_toInt64S.l0 k l s i) (n := l.length) (r := l) (fun i s => s = (l.take i).map id ++ List.replicate (l.length - i) 0) ?_ ?_ 0 (Nat.zero_le _) _ (by simp)
  · intro i s hi hs ih
    have hsl : s.length = l.length := by rw [hs]; simp; omega
    refine Ev.succ ?_
    simp only [laws_toInt64S.l0]
    refine Ev.pos (by omega) (Ev.pos (by omega) (Ev.pos (by omega) ?_))
    rw [wrap_succ hi (by omega)]
    refine ih _ ?_
    rw [hs, Int.toNat_natCast]
    exact fill_next id l 0 0 i hi _ rfl
  · intro s hs
    refine Ev.succ ?_
    simp only [laws_toInt64S.l0]
    exact Ev.neg (by omega) (Ev.some (by rw [hs]; simp))
theorem toInt64SS_ev (l : List (List Int)) (h : l.length ≤ 1048576) (hi : ∀ x ∈ l, x.length ≤ 1048576) : Ev (fun k => laws_toInt64SS.f k l) (l.map id) := by
  unfold laws_toInt64SS.f
  refine Ev.pos (by omega) (Ev.pos (by omega) ?_)
  refine Ev.upto (F := fun k s i => laws_toInt64SS.l0 k l s i) (n := l.length) (r := l.map id) (fun i s => s = (l.take i).map id ++ List.replicate (l.length - i) []) ?_ ?_ 0 (Nat.zero_le _) _ (by simp)
  · intro i s hi' hs ih
    have hsl : s.length = l.length := by rw [hs]; simp; omega
    refine Ev.succ ?_
    simp only [laws_toInt64SS.l0]
    refine Ev.pos (by omega) (Ev.pos (by omega) (Ev.bind (toInt64S_ev (l.getD i []) (hi _ (getD_mem l i [] hi'))) (Ev.pos (by omega) ?_)))
    rw [wrap_succ hi' (by omega)]
    refine ih _ ?_
    rw [hs, Int.toNat_natCast]
    exact fill_next id l [] [] i hi' _ rfl
  · intro s hs
    refine Ev.succ ?_
    simp only [laws_toInt64SS.l0]
    exact Ev.neg (by omega) (Ev.some (by rw [hs]; simp))
theorem eqInt64S_ev (l : List Int) (h : l.length ≤ 1048576) : Ev (fun k => laws_eqInt64S.f k l l) true := by
  unfold laws_eqInt64S.f
  refine Ev.pos rfl ?_
  refine Ev.upto (F := fun k (_ : Unit) i => laws_eqInt64S.l0 k l l i) (n := l.length) (r := true) (fun _ _ => True) ?_ ?_ 0 (Nat.zero_le _) () trivial
  · intro i s hi _ ih
    refine Ev.succ ?_
    simp only [laws_eqInt64S.l0]
    refine Ev.pos (by omega) (Ev.pos (by omega) (Ev.pos (by omega) (Ev.pos (by simp) ?_)))
    rw [wrap_succ hi (by omega)]
    exact ih () trivial
  · intro s _
    refine Ev.succ ?_
    simp only [laws_eqInt64S.l0]
    exact Ev.neg (by omega) (Ev.some rfl)
theorem eqInt64SS_ev (l : List (List Int)) (h : l.length ≤ 1048576) (hi : ∀ x ∈ l, x.length ≤ 1048576) : Ev (fun k => laws_eqInt64SS.f k l l) true := by
  unfold laws_eqInt64SS.f
  refine Ev.pos rfl ?_
  refine Ev.upto (F := fun k (_ : Unit) i => laws_eqInt64SS.l0 k l l i) (n := l.length) (r := true) (fun _ _ => True) ?_ ?_ 0 (Nat.zero_le _) () trivial
  · intro i s hi' _ ih
    refine Ev.succ ?_
    simp only [laws_eqInt64SS.l0]
    refine Ev.pos (by omega) (Ev.pos (by omega) (Ev.pos (by omega) (Ev.bind (eqInt64S_ev (l.getD i []) (hi _ (getD_mem l i [] hi'))) (Ev.pos rfl ?_))))
    rw [wrap_succ hi' (by omega)]
    exact ih () trivial
  · intro s _
    refine Ev.succ ?_
    simp only [laws_eqInt64SS.l0]
    exact Ev.neg (by omega) (Ev.some rfl)
theorem szPolicy_ev (h : List (List Int)) (m : List Int) (a : Int) (h0 : 0 ≤ a) (h1 : a ≤ 1048576) (hl : h.length ≤ 9223372036854775807) (hi : ∀ x ∈ h, x.length ≤ 9223372036854775807) (hm : m.length ≤ 9223372036854775807) :
    Ev (fun k => laws_szPolicy.f k h m a) (if a < (h.length : Int) + (sumLen h : Int) + m.length then -1 else a - ((h.length : Int) + (sumLen h : Int) + m.length)) := by
  unfold laws_szPolicy.f
  refine Ev.bind (szInt64SS_ev h a h0 h1 hl hi) ?_
  by_cases hb : a < (h.length : Int) + (sumLen h : Int)
  · rw [if_pos hb]
    exact Ev.pos (by omega) (Ev.some (by rw [if_pos (by omega)]))
  · rw [if_neg hb]
    refine Ev.neg (by omega) (Ev.bindc (szInt64S_f m _ (by omega) (by omega) hm) ?_)
    by_cases hc : a - ((h.length : Int) + (sumLen h : Int)) < m.length
    · rw [if_pos hc]
      exact Ev.pos (by omega) (Ev.some (by rw [if_pos (by omega)]))
    · rw [if_neg hc]
      exact Ev.neg (by omega) (Ev.some (by rw [if_neg (by omega)]; omega))
theorem toPolicy_ev (h : List (List Int)) (m : List Int) (hl : h.length ≤ 1048576) (hi : ∀ x ∈ h, x.length ≤ 1048576) (hm : m.length ≤ 1048576) : Ev (fun k => laws_toPolicy.f k h m) (h, m) := by
  unfold laws_toPolicy.f
  have e := toInt64SS_ev h hl hi
  rw [List.map_id] at e
  exact Ev.bind e (Ev.bind (toInt64S_ev m hm) (Ev.some rfl))
theorem eqPolicy_ev (h : List (List Int)) (m : List Int) (hl : h.length ≤ 1048576) (hi : ∀ x ∈ h, x.length ≤ 1048576) (hm : m.length ≤ 1048576) : Ev (fun k => laws_eqPolicy.f k h m h m) true := by
  unfold laws_eqPolicy.f
  exact Ev.bind (eqInt64SS_ev h hl hi) (Ev.pos rfl (Ev.bind (eqInt64S_ev m hm) (Ev.pos rfl (Ev.some rfl))))
def usesB (l : List Int) : Bool := decide (l.length ≤ 60) && xAll l 0 63
theorem specAddress_f (a : Int) : spec_l02Address.f a = some (decide (0 ≤ a) && decide (a ≤ 63)) := by
  unfold spec_l02Address.f
  rw [in_spec]
  rfl
theorem specUses_ev (l : List Int) (hl : l.length ≤ 1048576) : Ev (fun k => spec_l02Uses.f k l) (usesB l) := by
  unfold spec_l02Uses.f
  refine Ev.upto (F := fun k (_ : Unit) i => spec_l02Uses.l0 k l i) (n := l.length) (r := usesB l) (fun i _ => ((l.take i).any fun n => !(decide (0 ≤ n) && decide (n ≤ 63))) = false) ?_ ?_ 0 (Nat.zero_le _) () (by simp)
  · intro i s hi hs ih
    refine Ev.succ ?_
    simp only [spec_l02Uses.l0]
    have hrd : rd l (i : Int) = l.getD i 0 := rfl
    rw [hrd, specAddress_f, wrap_succ hi (by omega)]
    refine Ev.pos (by omega) (Ev.pos (by omega) (Ev.bindc rfl ?_))
    by_cases hx : (decide (0 ≤ l.getD i 0) && decide (l.getD i 0 ≤ 63)) = true
    · refine Ev.pos hx (ih () ?_)
      rw [take_succ l i 0 hi, List.any_append, hs, List.any_cons, hx]
      rfl
    · refine Ev.neg hx (Ev.some ?_)
      have : (l.any fun n => !(decide (0 ≤ n) && decide (n ≤ 63))) = true := List.any_eq_true.2 ⟨_, getD_mem l i 0 hi, by rw [Bool.eq_false_iff.2 hx]; rfl⟩
      unfold usesB xAll
      rw [this, Bool.not_true, Bool.and_false]
  · intro s hs
    refine Ev.succ ?_
    simp only [spec_l02Uses.l0]
    refine Ev.neg (by omega) (Ev.some ?_)
    rw [List.take_length] at hs
    unfold usesB xAll
    rw [hs, Bool.not_false, Bool.and_true]
    exact decide_eq_decide.2 (by omega)
theorem implUses_f (l : List Int) : impl_ValidUses.f l = some (usesB l) := by
  unfold impl_ValidUses.f impl_allIn.f usesB
  by_cases h : l.length ≤ 60
  · rw [if_pos (by omega), decide_eq_true h]; rfl
  · rw [if_neg (by omega), decide_eq_false h]; rfl
theorem implIs_f (h : List (List Int)) (m : List Int) (hi : ∀ x ∈ h, x.length ≤ 1048576) (hm : m.length ≤ 1048576) : impl_ValidPolicy.f h m = some (validB h m) := by
  unfold impl_ValidPolicy.f
  rw [if_pos ⟨hm, hi⟩]
theorem implLevels_f (h1 : List (List Int)) (m1 : List Int) (h2 : List (List Int)) (m2 : List Int) (md : Int) (hi1 : ∀ x ∈ h1, x.length ≤ 1048576) (hm1 : m1.length ≤ 1048576) (hi2 : ∀ x ∈ h2, x.length ≤ 1048576) (hm2 : m2.length ≤ 1048576) :
    impl_ValidLevels.f h1 m1 h2 m2 md = some (levB h1 m1 h2 m2 md) := by
  unfold impl_ValidLevels.f levB
  rw [implIs_f h1 m1 hi1 hm1, implIs_f h2 m2 hi2 hm2, in_impl]
  simp only [Option.bind_some]
  cases validB h1 m1 <;> cases validB h2 m2 <;> rfl
theorem specLevels_f (h1 : List (List Int)) (m1 : List Int) (h2 : List (List Int)) (m2 : List Int) (md : Int) (hl1 : h1.length ≤ 1048576) (hi1 : ∀ x ∈ h1, x.length ≤ 1048576) (hm1 : m1.length ≤ 1048576) (hl2 : h2.length ≤ 1048576) (hi2 : ∀ x ∈ h2, x.length ≤ 1048576) (hm2 : m2.length ≤ 1048576) :
    spec_l07Levels.f h1 m1 h2 m2 md = some (levB h1 m1 h2 m2 md) := by
  unfold spec_l07Levels.f
  rw [if_pos ⟨⟨hl1, hi1, hm1⟩, hl2, hi2, hm2⟩]
theorem szLevels_ev (h1 : List (List Int)) (m1 : List Int) (h2 : List (List Int)) (m2 : List Int) (md : Int) (hl1 : h1.length ≤ 9223372036854775807) (hi1 : ∀ x ∈ h1, x.length ≤ 9223372036854775807) (hm1 : m1.length ≤ 9223372036854775807) (hl2 : h2.length ≤ 9223372036854775807) (hi2 : ∀ x ∈ h2, x.length ≤ 9223372036854775807) (hm2 : m2.length ≤ 9223372036854775807) :
    ∃ z, Ev (fun k => laws_szLevels.f k h1 m1 h2 m2 md 1048576) z ∧ (z < 0 ∨ 0 ≤ z ∧ (h1.length ≤ 1048576 ∧ (∀ x ∈ h1, x.length ≤ 1048576) ∧ m1.length ≤ 1048576) ∧ (h2.length ≤ 1048576 ∧ (∀ x ∈ h2, x.length ≤ 1048576) ∧ m2.length ≤ 1048576) ∧ sumLen h1 + m1.length + sumLen h2 + m2.length ≤ 1048576) := by
  unfold laws_szLevels.f
  by_cases hb1 : (1048576 : Int) < (h1.length : Int) + (sumLen h1 : Int) + m1.length
  · refine ⟨-1, Ev.bind (szPolicy_ev h1 m1 1048576 (by omega) (by omega) hl1 hi1 hm1) ?_, .inl (by omega)⟩
    rw [if_pos hb1]
    exact Ev.pos (by omega) (Ev.some rfl)
  by_cases hb2 : (1048576 : Int) - ((h1.length : Int) + (sumLen h1 : Int) + m1.length) < (h2.length : Int) + (sumLen h2 : Int) + m2.length
  · refine ⟨-1, Ev.bind (szPolicy_ev h1 m1 1048576 (by omega) (by omega) hl1 hi1 hm1) ?_, .inl (by omega)⟩
    rw [if_neg hb1]
    refine Ev.neg (by omega) (Ev.bind (szPolicy_ev h2 m2 _ (by omega) (by omega) hl2 hi2 hm2) ?_)
    rw [if_pos hb2]
    exact Ev.pos (by omega) (Ev.some rfl)
  · refine ⟨(1048576 : Int) - ((h1.length : Int) + (sumLen h1 : Int) + m1.length) - ((h2.length : Int) + (sumLen h2 : Int) + m2.length), Ev.bind (szPolicy_ev h1 m1 1048576 (by omega) (by omega) hl1 hi1 hm1) ?_, .inr ⟨?_, ⟨by omega, fun x hx => by have := sumLen_mem hx; omega, by omega⟩, ⟨by omega, fun x hx => by have := sumLen_mem hx; omega, by omega⟩, by omega⟩⟩
    · rw [if_neg hb1]
      refine Ev.neg (by omega) (Ev.bind (szPolicy_ev h2 m2 _ (by omega) (by omega) hl2 hi2 hm2) ?_)
      rw [if_neg hb2]
      exact Ev.neg (by omega) (Ev.some rfl)
    · omega
theorem toLevels_ev (h1 : List (List Int)) (m1 : List Int) (h2 : List (List Int)) (m2 : List Int) (md : Int) (hl1 : h1.length ≤ 1048576) (hi1 : ∀ x ∈ h1, x.length ≤ 1048576) (hm1 : m1.length ≤ 1048576) (hl2 : h2.length ≤ 1048576) (hi2 : ∀ x ∈ h2, x.length ≤ 1048576) (hm2 : m2.length ≤ 1048576) :
    Ev (fun k => laws_toLevels.f k h1 m1 h2 m2 md) (h1, m1, h2, m2, md) := by
  unfold laws_toLevels.f
  exact Ev.bind (toPolicy_ev h1 m1 hl1 hi1 hm1) (Ev.bind (toPolicy_ev h2 m2 hl2 hi2 hm2) (Ev.some rfl))
theorem eqLevels_ev (h1 : List (List Int)) (m1 : List Int) (h2 : List (List Int)) (m2 : List Int) (md : Int) (hl1 : h1.length ≤ 1048576) (hi1 : ∀ x ∈ h1, x.length ≤ 1048576) (hm1 : m1.length ≤ 1048576) (hl2 : h2.length ≤ 1048576) (hi2 : ∀ x ∈ h2, x.length ≤ 1048576) (hm2 : m2.length ≤ 1048576) :
    Ev (fun k => laws_eqLevels.f k h1 m1 h2 m2 md h1 m1 h2 m2 md) true := by
  unfold laws_eqLevels.f
  exact Ev.bind (eqPolicy_ev h1 m1 hl1 hi1 hm1) (Ev.pos rfl (Ev.bind (eqPolicy_ev h2 m2 hl2 hi2 hm2) (Ev.pos rfl (Ev.pos rfl (Ev.some rfl)))))

theorem both_ev (h1 : List (List Int)) (m1 : List Int) (h2 : List (List Int)) (m2 : List Int) (md : Int) (u : List Int) (hl1 : h1.length ≤ 1048576) (hi1 : ∀ x ∈ h1, x.length ≤ 1048576) (hm1 : m1.length ≤ 1048576) (hl2 : h2.length ≤ 1048576) (hi2 : ∀ x ∈ h2, x.length ≤ 1048576) (hm2 : m2.length ≤ 1048576) (hu : u.length ≤ 1048576) :
    ∃ v, Ev (fun k => spec_BackInvalidations.f k h1 m1 h2 m2 md u) v ∧ impl_BackInvalidations.f h1 m1 h2 m2 md u = some v := by
  unfold spec_BackInvalidations.f impl_BackInvalidations.f
  rw [implLevels_f h1 m1 h2 m2 md hi1 hm1 hi2 hm2, implUses_f]
  have e0 := specLevels_f h1 m1 h2 m2 md hl1 hi1 hm1 hl2 hi2 hm2
  simp only [Option.bind_some]
  cases hv : levB h1 m1 h2 m2 md with
  | false =>
    rw [hv] at e0
    exact ⟨(0, false), Ev.bindc e0 (Ev.neg (by decide) (Ev.some rfl)), by rw [if_neg (by decide)]⟩
  | true =>
    rw [hv] at e0
    cases hw : usesB u with
    | false =>
      have e1 := specUses_ev u hu
      rw [hw] at e1
      exact ⟨(0, false), Ev.bindc e0 (Ev.pos rfl (Ev.bind e1 (Ev.neg (by decide) (Ev.some rfl)))), by rw [if_pos rfl, if_neg (by decide)]⟩
    | true =>
      have e1 := specUses_ev u hu
      rw [hw] at e1
      have hl : u.length ≤ 60 := by
        unfold usesB at hw
        rw [Bool.and_eq_true, decide_eq_true_eq] at hw
        exact hw.1
      refine ⟨_, Ev.bindc e0 (Ev.pos rfl (Ev.bind e1 (Ev.pos rfl (Ev.bindc (show spec_l07Stack.f h1 m1 h2 m2 md u = some _ by unfold spec_l07Stack.f; rw [if_pos ⟨hv, hu⟩]) (Ev.some rfl))))), ?_⟩
      rw [if_pos rfl, if_pos rfl, if_pos ⟨rfl, hl⟩]

theorem FnExactBackInvalidations : laws_FnExactBackInvalidations.Pure := by
  intro h1 m1 h2 m2 md u ⟨hl1, he1⟩ ⟨hm1, _⟩ ⟨hl2, he2⟩ ⟨hm2, _⟩ _ ⟨hu, _⟩
  refine Ev.rounds ?_
  unfold laws_FnExactBackInvalidations.f
  by_cases hb : (u.length : Int) > 1048576
  · exact Ev.pos hb (Ev.some rfl)
  obtain ⟨z, ez, hz⟩ := szLevels_ev h1 m1 h2 m2 md hl1 (fun x hx => (he1 x hx).1) hm1 hl2 (fun x hx => (he2 x hx).1) hm2
  refine Ev.neg hb (Ev.bind ez ?_)
  rcases hz with hz | ⟨hz, ⟨L1, I1, M1⟩, ⟨L2, I2, M2⟩, _⟩
  · exact Ev.pos hz (Ev.some rfl)
  have U : u.length ≤ 1048576 := by omega
  obtain ⟨v, a, b⟩ := both_ev h1 m1 h2 m2 md u L1 I1 M1 L2 I2 M2 U
  have t := toLevels_ev h1 m1 h2 m2 md L1 I1 M1 L2 I2 M2
  have q := eqLevels_ev h1 m1 h2 m2 md L1 I1 M1 L2 I2 M2
  refine Ev.neg (by omega) (Ev.bind t (Ev.bind (toInt64S_ev u U) (Ev.bind a (Ev.bind t (Ev.bind (toInt64S_ev u U) (Ev.bindc b (Ev.pos rfl ?_)))))))
  refine Ev.succ ?_
  simp only [laws_FnExactBackInvalidations.j0]
  exact Ev.neg (by simp) (Ev.bind t (Ev.bind q (Ev.pos rfl (Ev.bind (toInt64S_ev u U) (Ev.bind (eqInt64S_ev u U) (Ev.pos rfl (Ev.some rfl)))))))

end Go.Proofs.Ytpndbaomhcehdaa.Pure
