/- The statement FnExactValidLitmus over lists alone: both programs test the number of threads, their lengths and all steps. -/
import Derived.Test.YtnocikchdkaabaaPFnExactValidLitmusx
import Derived.Test.YtnocikchdkaabaaX2
namespace Go.Proofs.Ytnocikchdkaabaa.Pure
open Go.RowKit Go.Proofs.YtnocikchdkaabaaW.PrintWords Go.Proofs.Ytnocikchdkaabaa.PFnExactValidLitmus
set_option linter.unusedVariables false
set_option linter.unusedSimpArgs false

theorem in_impl (a b c : Int) : impl_inRange.f a b c = some (decide (b ≤ a) && decide (a ≤ c)) := by
  unfold impl_inRange.f
  by_cases h : b ≤ a <;> simp [h]
theorem in_spec (a b c : Int) : spec_l00In.f a b c = some (decide (b ≤ a) && decide (a ≤ c)) := by
  unfold spec_l00In.f
  by_cases h : b ≤ a <;> simp [h]
def sumLen {α : Type} (l : List (List α)) : Nat := (l.map List.length).sum
theorem sumLen_cons {α : Type} (x : List α) (l : List (List α)) : sumLen (x :: l) = x.length + sumLen l := by simp [sumLen]
theorem sumLen_mem {α : Type} {l : List (List α)} {x : List α} (h : x ∈ l) : x.length ≤ sumLen l := by
  induction l with
  | nil => simp at h
  | cons y l ih =>
    rw [sumLen_cons]
    rcases List.mem_cons.1 h with rfl | h
    · omega
    · have := ih h; omega
theorem getD_mem {α : Type} (l : List α) (i : Nat) (z : α) (h : i < l.length) : l.getD i z ∈ l := by
  rw [getD_lt l i z h]; exact List.getElem_mem h
theorem szStepS_f (l : List S186) (a : Int) (h0 : 0 ≤ a) (h1 : a ≤ 1048576) (hl : l.length ≤ 9223372036854775807) : laws_szStepS.f l a = some (if a < l.length then -1 else a - l.length) := by
  unfold laws_szStepS.f
  rw [wrap_id (by omega) (by omega)]
  by_cases h : a < l.length
  · rw [if_pos (by omega), if_pos h]
  · rw [if_neg (by omega), if_neg h]
def cvStep (x : S186) : S126 := ⟨x.f0, x.f1, x.f2⟩
theorem toStepS_ev (l : List S186) (h : l.length ≤ 1048576) : Ev (fun k => laws_toStepS.f k l) (l.map cvStep) := by
  unfold laws_toStepS.f
  refine Ev.pos (by omega) (Ev.pos (by omega) ?_)
  refine Ev.upto (F := fun k s i => laws_toStepS.l0 k l s i) (n := l.length) (r := l.map cvStep) (fun i s => s = (l.take i).map cvStep ++ List.replicate (l.length - i) z126) ?_ ?_ 0 (Nat.zero_le _) _ (by simp)
  · intro i s hi hs ih
    have hsl : s.length = l.length := by rw [hs]; simp; omega
    refine Ev.succ ?_
    simp only [laws_toStepS.l0]
    refine Ev.pos (by omega) (Ev.pos (by omega) (Ev.bindc (a := ((rd_T186 l (i : Int)).f0, (rd_T186 l (i : Int)).f1, (rd_T186 l (i : Int)).f2)) rfl (Ev.pos (by omega) ?_)))
    rw [wrap_succ hi (by omega)]
    refine ih _ ?_
    rw [hs, Int.toNat_natCast]
    exact fill_next cvStep l z126 z186 i hi _ rfl
  · intro s hs
    refine Ev.succ ?_
    simp only [laws_toStepS.l0]
    exact Ev.neg (by omega) (Ev.some (by rw [hs]; simp))
theorem eqStepS_ev (l : List S126) (h : l.length ≤ 1048576) : Ev (fun k => laws_eqStepS.f k l l) true := by
  unfold laws_eqStepS.f
  refine Ev.pos rfl ?_
  refine Ev.upto (F := fun k (_ : Unit) i => laws_eqStepS.l0 k l l i) (n := l.length) (r := true) (fun _ _ => True) ?_ ?_ 0 (Nat.zero_le _) () trivial
  · intro i s hi _ ih
    refine Ev.succ ?_
    simp only [laws_eqStepS.l0]
    refine Ev.pos (by omega) (Ev.pos (by omega) (Ev.pos (by omega) (Ev.bindc (a := true) (by simp [laws_eqStep.f]) (Ev.pos rfl ?_))))
    rw [wrap_succ hi (by omega)]
    exact ih () trivial
  · intro s _
    refine Ev.succ ?_
    simp only [laws_eqStepS.l0]
    exact Ev.neg (by omega) (Ev.some rfl)
theorem szStepSS_ev (l : List (List (S186))) (a : Int) (h0 : 0 ≤ a) (h1 : a ≤ 1048576) (hl : l.length ≤ 9223372036854775807) (hi : ∀ x ∈ l, x.length ≤ 9223372036854775807) :
    Ev (fun k => laws_szStepSS.f k l a) (if a < (l.length : Int) + (sumLen l : Int) then -1 else a - ((l.length : Int) + (sumLen l : Int))) := by
  unfold laws_szStepSS.f
  rw [wrap_id (by omega) (by omega)]
  by_cases h : a < l.length
  · refine Ev.pos (by omega) (Ev.some ?_)
    rw [if_pos (by omega)]
  · refine Ev.neg (by omega) ?_
    have key : ∀ d i (b : Int), l.length - i = d → i ≤ l.length → 0 ≤ b → b ≤ 1048576 → Ev (fun k => laws_szStepSS.l0 k l b (i : Int)) (if b < (sumLen (l.drop i) : Int) then -1 else b - (sumLen (l.drop i) : Int)) := by
      intro d
      induction d with
      | zero =>
        intro i b hd hi' hb0 hb1
        refine Ev.succ ?_
        simp only [laws_szStepSS.l0]
        refine Ev.neg (by omega) (Ev.some ?_)
        rw [List.drop_eq_nil_of_le (by omega)]
        simp [sumLen]; omega
      | succ d ih =>
        intro i b hd hi' hb0 hb1
        refine Ev.succ ?_
        simp only [laws_szStepSS.l0]
        have hx := hi _ (getD_mem l i [] (by omega))
        refine Ev.pos (by omega) (Ev.pos (by omega) (Ev.bindc (szStepS_f (l.getD i []) b hb0 hb1 hx) ?_))
        rw [drop_cons l i [] (by omega), sumLen_cons]
        generalize l.getD i [] = x at hx ⊢
        by_cases hx2 : b < x.length
        · rw [if_pos hx2]
          refine Ev.pos (by omega) (Ev.some ?_)
          rw [if_pos (by omega)]
        · rw [if_neg hx2]
          refine Ev.neg (by omega) ?_
          rw [wrap_succ (show i < l.length by omega) (by omega)]
          have := ih (i + 1) (b - x.length) (by omega) (by omega) (by omega) (by omega)
          rw [show (if b < ((x.length + sumLen (l.drop (i + 1)) : Nat) : Int) then (-1 : Int) else b - ((x.length + sumLen (l.drop (i + 1)) : Nat) : Int)) = (if b - x.length < (sumLen (l.drop (i + 1)) : Int) then (-1 : Int) else b - x.length - (sumLen (l.drop (i + 1)) : Int)) by split <;> split <;> omega]
          exact this
    have := key l.length 0 (a - l.length) (by omega) (by omega) (by omega) (by omega)
    rw [List.drop_zero] at this
    rw [show (if a < (l.length : Int) + (sumLen l : Int) then (-1 : Int) else a - ((l.length : Int) + (sumLen l : Int))) = (if a - l.length < (sumLen l : Int) then (-1 : Int) else a - l.length - (sumLen l : Int)) by split <;> split <;> omega]
    exact this
theorem toStepSS_ev (l : List (List (S186))) (h : l.length ≤ 1048576) (hi : ∀ x ∈ l, x.length ≤ 1048576) : Ev (fun k => laws_toStepSS.f k l) (l.map (List.map cvStep)) := by
  unfold laws_toStepSS.f
  refine Ev.pos (by omega) (Ev.pos (by omega) ?_)
  refine Ev.upto (F := fun k s i => laws_toStepSS.l0 k l s i) (n := l.length) (r := l.map (List.map cvStep)) (fun i s => s = (l.take i).map (List.map cvStep) ++ List.replicate (l.length - i) []) ?_ ?_ 0 (Nat.zero_le _) _ (by simp)
  · intro i s hi' hs ih
    have hsl : s.length = l.length := by rw [hs]; simp; omega
    refine Ev.succ ?_
    simp only [laws_toStepSS.l0]
    refine Ev.pos (by omega) (Ev.pos (by omega) (Ev.bind (toStepS_ev (l.getD i []) (hi _ (getD_mem l i [] hi'))) (Ev.pos (by omega) ?_)))
    rw [wrap_succ hi' (by omega)]
    refine ih _ ?_
    rw [hs, Int.toNat_natCast]
    exact fill_next (List.map cvStep) l [] [] i hi' _ rfl
  · intro s hs
    refine Ev.succ ?_
    simp only [laws_toStepSS.l0]
    exact Ev.neg (by omega) (Ev.some (by rw [hs]; simp))
theorem eqStepSS_ev (l : List (List (S126))) (h : l.length ≤ 1048576) (hi : ∀ x ∈ l, x.length ≤ 1048576) : Ev (fun k => laws_eqStepSS.f k l l) true := by
  unfold laws_eqStepSS.f
  refine Ev.pos rfl ?_
  refine Ev.upto (F := fun k (_ : Unit) i => laws_eqStepSS.l0 k l l i) (n := l.length) (r := true) (fun _ _ => True) ?_ ?_ 0 (Nat.zero_le _) () trivial
  · intro i s hi' _ ih
    refine Ev.succ ?_
    simp only [laws_eqStepSS.l0]
    refine Ev.pos (by omega) (Ev.pos (by omega) (Ev.pos (by omega) (Ev.bind (eqStepS_ev (l.getD i []) (hi _ (getD_mem l i [] hi'))) (Ev.pos rfl ?_))))
    rw [wrap_succ hi' (by omega)]
    exact ih () trivial
  · intro s _
    refine Ev.succ ?_
    simp only [laws_eqStepSS.l0]
    exact Ev.neg (by omega) (Ev.some rfl)
def wrStep (a b c : Int) : Bool := decide (a = 1) && ((decide (0 ≤ b) && decide (b ≤ 1)) && (decide (1 ≤ c) && decide (c ≤ 2)))
def rdStep (a b c : Int) : Bool := decide (a = 0) && ((decide (0 ≤ b) && decide (b ≤ 1)) && (c == 0))
def fnStep (a b c : Int) : Bool := decide (a = 2) && (decide (b = 0) && (c == 0))
theorem okStep_eq (x : S126) : (fnStep x.f0 x.f1 x.f2 || (rdStep x.f0 x.f1 x.f2 || wrStep x.f0 x.f1 x.f2)) = !xpStep x := by
  unfold fnStep rdStep wrStep xpStep
  by_cases h0 : x.f0 = 0
  · simp [h0]
  · by_cases h1 : x.f0 = 1
    · simp [h1]
    · by_cases h2 : x.f0 = 2
      · by_cases h3 : x.f1 = 0 <;> simp [h2, h3]
      · simp [h0, h1, h2]
theorem litJ3_ev (l : List (List (S126))) (i q : Int) (x6 x7 : Bool) (a b c : Int) (R : Bool) (hn : Ev (fun k => spec_l10Litmus.l1 k l i (wrap64 (q + 1))) R) :
    Ev (fun k => spec_l10Litmus.j3 k l i q x6 x7 a b c) (if (x6 || (x7 || wrStep a b c)) = true then R else false) := by
  refine Ev.succ ?_
  simp only [spec_l10Litmus.j3, in_spec, Option.bind_some]
  unfold wrStep
  by_cases ha : a = 1
  · refine Ev.pos ha ?_
    cases (decide (0 ≤ b) && decide (b ≤ 1)) with
    | true =>
      refine Ev.pos rfl ?_
      cases x6 with
      | true => exact Ev.pos rfl (by simpa using hn)
      | false =>
        refine Ev.neg (by simp) ?_
        cases x7 with
        | true => exact Ev.pos rfl (by simpa using hn)
        | false =>
          refine Ev.neg (by simp) ?_
          cases (decide (1 ≤ c) && decide (c ≤ 2)) with
          | true => exact Ev.pos rfl (by simpa [ha] using hn)
          | false => exact Ev.neg (by simp) (Ev.some (by simp))
    | false =>
      refine Ev.neg (by simp) ?_
      cases x6 with
      | true => exact Ev.pos rfl (by simpa using hn)
      | false =>
        refine Ev.neg (by simp) ?_
        cases x7 with
        | true => exact Ev.pos rfl (by simpa using hn)
        | false => exact Ev.neg (by simp) (Ev.some (by simp))
  · refine Ev.neg ha ?_
    cases x6 with
    | true => exact Ev.pos rfl (by simpa using hn)
    | false =>
      refine Ev.neg (by simp) ?_
      cases x7 with
      | true => exact Ev.pos rfl (by simpa using hn)
      | false => exact Ev.neg (by simp) (Ev.some (by simp [ha]))
theorem litJ2_ev (l : List (List (S126))) (i q : Int) (x6 : Bool) (a b c : Int) (R : Bool) (hn : Ev (fun k => spec_l10Litmus.l1 k l i (wrap64 (q + 1))) R) :
    Ev (fun k => spec_l10Litmus.j2 k l i q x6 a b c) (if (x6 || (rdStep a b c || wrStep a b c)) = true then R else false) := by
  refine Ev.succ ?_
  simp only [spec_l10Litmus.j2, in_spec, Option.bind_some]
  unfold rdStep
  by_cases ha : a = 0
  · refine Ev.pos ha ?_
    cases (decide (0 ≤ b) && decide (b ≤ 1)) with
    | true =>
      refine Ev.pos rfl ?_
      have := litJ3_ev l i q x6 (c == 0) a b c R hn
      simpa [ha] using this
    | false =>
      refine Ev.neg (by simp) ?_
      have := litJ3_ev l i q x6 false a b c R hn
      simpa [ha] using this
  · refine Ev.neg ha ?_
    have := litJ3_ev l i q x6 false a b c R hn
    simpa [ha] using this
theorem litL1_ev (l : List (List (S126))) (i : Nat) (hi : i < l.length) (hl : l.length ≤ 1048576) (hr : (l.getD i []).length ≤ 1048576) (R : Bool) (hn : Ev (fun k => spec_l10Litmus.l0 k l ((i + 1 : Nat) : Int)) R) :
    ∀ d q, (l.getD i []).length - q = d → q ≤ (l.getD i []).length → Ev (fun k => spec_l10Litmus.l1 k l (i : Int) (q : Int)) (!(((l.getD i []).drop q).any xpStep) && R) := by
  intro d
  induction d with
  | zero =>
    intro q hd hq
    refine Ev.succ ?_
    simp only [spec_l10Litmus.l1]
    refine Ev.pos (by omega) (Ev.pos (by omega) (Ev.neg (show ¬ ((q : Int) < ((l.getD i []).length : Int)) by omega) ?_))
    rw [wrap_succ hi (by omega), List.drop_eq_nil_of_le (by omega)]
    simpa using hn
  | succ d ih =>
    intro q hd hq
    refine Ev.succ ?_
    simp only [spec_l10Litmus.l1]
    refine Ev.pos (by omega) (Ev.pos (by omega) (Ev.pos (show (q : Int) < ((l.getD i []).length : Int) by omega) (Ev.pos (by omega) ?_)))
    have hnx := ih (q + 1) (by omega) (by omega)
    rw [drop_cons (l.getD i []) q z126 (by omega), List.any_cons]
    obtain ⟨x, hx⟩ : ∃ x, x = (l.getD i []).getD q z126 := ⟨_, rfl⟩
    have hx' : rd_T126 (l.getD i []) (q : Int) = x := hx.symm
    rw [← hx]
    show Ev (fun k => if (rd_T126 (l.getD i []) (q : Int)).f0 = 2 then (if (rd_T126 (l.getD i []) (q : Int)).f1 = 0 then spec_l10Litmus.j2 k l (i : Int) (q : Int) ((rd_T126 (l.getD i []) (q : Int)).f2 == 0) (rd_T126 (l.getD i []) (q : Int)).f0 (rd_T126 (l.getD i []) (q : Int)).f1 (rd_T126 (l.getD i []) (q : Int)).f2
      else spec_l10Litmus.j2 k l (i : Int) (q : Int) false (rd_T126 (l.getD i []) (q : Int)).f0 (rd_T126 (l.getD i []) (q : Int)).f1 (rd_T126 (l.getD i []) (q : Int)).f2)
      else spec_l10Litmus.j2 k l (i : Int) (q : Int) false (rd_T126 (l.getD i []) (q : Int)).f0 (rd_T126 (l.getD i []) (q : Int)).f1 (rd_T126 (l.getD i []) (q : Int)).f2) _
    rw [hx']
    have hnx2 : Ev (fun k => spec_l10Litmus.l1 k l (i : Int) (wrap64 ((q : Int) + 1))) (!(((l.getD i []).drop (q + 1)).any xpStep) && R) := by
      rw [wrap_succ (show q < (l.getD i []).length by omega) (by omega)]; exact hnx
    have goal : ∀ x6 : Bool, x6 = fnStep x.f0 x.f1 x.f2 → Ev (fun k => spec_l10Litmus.j2 k l (i : Int) (q : Int) x6 x.f0 x.f1 x.f2) (!(xpStep x || ((l.getD i []).drop (q + 1)).any xpStep) && R) := by
      intro x6 h6
      have := litJ2_ev l (i : Int) (q : Int) x6 x.f0 x.f1 x.f2 _ hnx2
      rw [h6, okStep_eq] at this
      rw [h6]
      cases hp : xpStep x <;> simpa [hp] using this
    by_cases h2 : x.f0 = 2
    · refine Ev.pos h2 ?_
      by_cases h1 : x.f1 = 0
      · exact Ev.pos h1 (goal _ (by simp [fnStep, h2, h1]))
      · exact Ev.neg h1 (goal _ (by simp [fnStep, h1]))
    · exact Ev.neg h2 (goal _ (by simp [fnStep, h2]))
theorem specLitmus_ev (l : List (List (S126))) (hl : l.length ≤ 1048576) (hr : ∀ x ∈ l, x.length ≤ 1048576) :
    Ev (fun k => spec_ValidLitmus.f k l) ((decide (1 ≤ (l.length : Int)) && decide ((l.length : Int) ≤ 2)) && !(l.any xpSteps)) := by
  unfold spec_ValidLitmus.f spec_l10Litmus.f
  refine Ev.bind ?_ (Ev.some rfl)
  have key : ∀ d i, l.length - i = d → i ≤ l.length → Ev (fun k => spec_l10Litmus.l0 k l (i : Int)) ((decide (1 ≤ (l.length : Int)) && decide ((l.length : Int) ≤ 2)) && !((l.drop i).any xpSteps)) := by
    intro d
    induction d with
    | zero =>
      intro i hd hi
      refine Ev.succ ?_
      simp only [spec_l10Litmus.l0, in_spec, Option.bind_some]
      refine Ev.neg (by omega) (Ev.some ?_)
      rw [List.drop_eq_nil_of_le (by omega)]
      simp
    | succ d ih =>
      intro i hd hi
      refine Ev.succ ?_
      simp only [spec_l10Litmus.l0, in_spec, Option.bind_some]
      refine Ev.pos (by omega) (Ev.pos (by omega) ?_)
      rw [drop_cons l i [] (by omega), List.any_cons]
      have hn := ih (i + 1) (by omega) (by omega)
      by_cases h4 : 4 < (l.getD i []).length
      · refine Ev.pos (show ((l.getD i []).length : Int) > 4 by omega) (Ev.some ?_)
        have e : xpSteps (l.getD i []) = true := by unfold xpSteps; rw [decide_eq_true h4]; rfl
        rw [e]; simp
      · refine Ev.neg (show ¬ ((l.getD i []).length : Int) > 4 by omega) ?_
        have := litL1_ev l i (by omega) hl (hr _ (getD_mem l i [] (by omega))) _ hn _ 0 rfl (Nat.zero_le _)
        rw [List.drop_zero] at this
        have e : xpSteps (l.getD i []) = (l.getD i []).any xpStep := by unfold xpSteps; rw [decide_eq_false h4, Bool.false_or]
        rw [e]
        generalize (l.getD i []).any xpStep = b at this ⊢
        cases b <;> simpa using this
  have := key l.length 0 (by omega) (by omega)
  simpa using this

theorem FnExactValidLitmus : laws_FnExactValidLitmus.Pure := by
  intro l ⟨hl, hi⟩
  refine Ev.rounds ?_
  unfold laws_FnExactValidLitmus.f
  refine Ev.bind (szStepSS_ev l 1048576 (by omega) (by omega) hl (fun x hx => (hi x hx).1)) ?_
  by_cases hb : (1048576 : Int) < (l.length : Int) + (sumLen l : Int)
  · rw [if_pos hb]
    exact Ev.pos (by omega) (Ev.some rfl)
  · rw [if_neg hb]
    have hn : l.length ≤ 1048576 := by omega
    have hr : ∀ x ∈ l, x.length ≤ 1048576 := fun x hx => by have := sumLen_mem hx; omega
    have hn2 : (l.map (List.map cvStep)).length ≤ 1048576 := by simpa using hn
    have hr2 : ∀ x ∈ l.map (List.map cvStep), x.length ≤ 1048576 := by
      intro x hx
      obtain ⟨y, hy, rfl⟩ := List.mem_map.1 hx
      simpa using hr y hy
    have h1 := toStepSS_ev l hn hr
    exact Ev.neg (by omega) (Ev.bind h1 (Ev.bind (specLitmus_ev _ hn2 hr2) (Ev.bind h1 (Ev.bindc rfl (Ev.neg (by simp) (Ev.bind h1 (Ev.bind (eqStepSS_ev _ hn2 hr2) (Ev.pos rfl (Ev.some rfl)))))))))

end Go.Proofs.Ytnocikchdkaabaa.Pure
