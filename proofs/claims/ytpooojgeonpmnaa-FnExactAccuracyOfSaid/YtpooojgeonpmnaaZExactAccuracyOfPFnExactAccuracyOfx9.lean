import Derived.Test.YtpooojgeonpmnaaZExactAccuracyOfPFnExactAccuracyOfx0
import Derived.Test.YtpooojgeonpmnaaZExactAccuracyOfPFnExactAccuracyOfx1
import Derived.Test.YtpooojgeonpmnaaZExactAccuracyOfPFnExactAccuracyOfx2
import Derived.Test.YtpooojgeonpmnaaZExactAccuracyOfPFnExactAccuracyOfx3
import Derived.Test.YtpooojgeonpmnaaZExactAccuracyOfPFnExactAccuracyOfx4
import Derived.Test.YtpooojgeonpmnaaZExactAccuracyOfPFnExactAccuracyOfx5
import Derived.Test.YtpooojgeonpmnaaZExactAccuracyOfPFnExactAccuracyOfx6
import Derived.Test.YtpooojgeonpmnaaZExactAccuracyOfPFnExactAccuracyOfx7
import Derived.Test.YtpooojgeonpmnaaZExactAccuracyOfPFnExactAccuracyOfx8
namespace Go.Proofs.Ytpooojgeonpmnaa.PFnExactAccuracyOf
open Go.RowKit Go.Proofs.YtpooojgeonpmnaaW.PrintWords Go.Proofs.YtpooojgeonpmnaaW.PrintLast Go.Proofs.YtpooojgeonpmnaaW.PrintMore
attribute [local go_sem] max2_int min2_int max_two min_two max_three min_three max_four min_four   -- for this text's walks alone
set_option linter.unusedVariables false
set_option linter.unusedSimpArgs false
theorem in_impl (a b c : Int) : impl_inRange.f a b c = some (decide (b ≤ a) && decide (a ≤ c)) := by
 unfold impl_inRange.f
 by_cases h : b ≤ a <;> simp [h]
theorem in_spec (a b c : Int) : spec_l00In.f a b c = some (decide (b ≤ a) && decide (a ≤ c)) := by
 unfold spec_l00In.f
 by_cases h : b ≤ a <;> simp [h]
def okLoad (x : S27) : Bool := (decide (0 ≤ x.f0) && decide (x.f0 ≤ 3)) && (decide (0 ≤ x.f1) && decide (x.f1 ≤ 63))
theorem xpLoad_not (x : S27) : xpLoad x = !okLoad x := by
 unfold xpLoad okLoad
 cases decide (0 ≤ x.f0) <;> cases decide (x.f0 ≤ 3) <;> cases decide (0 ≤ x.f1) <;> cases decide (x.f1 ≤ 63) <;> rfl
theorem specLoads0_ev (l : List (S27)) (h : l.length ≤ 1048576) : Ev (fun k => spec_l09Loads.f k l) (decide (l.length ≤ 60) && !(l.any xpLoad)) := by
 unfold spec_l09Loads.f
 have key : ∀ i, i ≤ l.length → Ev (fun k => spec_l09Loads.l0 k l (i : Int)) (decide (l.length ≤ 60) && !((l.drop i).any xpLoad)) := by
  intro i hi
  obtain ⟨d, hd⟩ : ∃ d, l.length - i = d := ⟨_, rfl⟩
  induction d generalizing i with
  | zero =>
   obtain rfl : i = l.length := by omega
   refine Ev.succ ?_
   simp only [spec_l09Loads.l0]
   refine Ev.neg (by omega) (Ev.some ?_)
   simp
   omega
  | succ d ih =>
   refine Ev.succ ?_
   simp only [spec_l09Loads.l0, spec_l09Stream.f, spec_l03Address.f, in_spec, Option.bind_some]
   refine Ev.pos (by omega) (Ev.pos (by omega) ?_)
   have hc := drop_cons l i z27 (by omega)
   have hrd : rd_T27 l (i : Int) = l.getD i z27 := rfl
   rw [hrd]
   generalize l.getD i z27 = x at *
   rw [hc, List.any_cons, xpLoad_not]
   cases ha : (decide (0 ≤ x.f0) && decide (x.f0 ≤ 3)) with
   | false => exact Ev.neg (by simp) (Ev.some (by simp [okLoad, ha]))
   | true =>
    refine Ev.pos rfl ?_
    cases hb : (decide (0 ≤ x.f1) && decide (x.f1 ≤ 63)) with
    | false => exact Ev.neg (by simp) (Ev.some (by simp [okLoad, ha, hb]))
    | true =>
     refine Ev.pos rfl ?_
     rw [wrap_succ (show i < l.length by omega) (by omega)]
     have := ih (i + 1) (by omega) (by omega)
     simpa [okLoad, ha, hb] using this
 have := key 0 (Nat.zero_le _)
 simpa using this
theorem getD_mem {α : Type} (l : List α) (i : Nat) (z : α) (h : i < l.length) : l.getD i z ∈ l := by
 rw [getD_lt l i z h]; exact List.getElem_mem h
/-- The lines of a stream. -/
def linesL (l : List (S27)) (s : Int) : List Int := (l.filter fun x => decide (x.f0 = s)).map fun x => x.f1
theorem linesL_length (l : List (S27)) (s : Int) : (linesL l s).length ≤ l.length := by
 unfold linesL; rw [List.length_map]; exact List.length_filter_le _ _
def strideV (t : List Int) : Int :=
 if (t.length : Int) < 3 then 0
 else if (wrap64 ((rd t (wrap64 ((t.length : Int) - 1))) - (rd t (wrap64 ((t.length : Int) - 2))))) = (wrap64 ((rd t (wrap64 ((t.length : Int) - 2))) - (rd t (wrap64 ((t.length : Int) - 3)))))
  then wrap64 ((rd t (wrap64 ((t.length : Int) - 1))) - (rd t (wrap64 ((t.length : Int) - 2)))) else 0
theorem strideV_eq (t : List Int) (ht : t.length ≤ 1048576) : (if (t.length : Int) < 3 then (some 0) else (if 0 ≤ (wrap64 ((t.length : Int) - 1)) then (if (wrap64 ((t.length : Int) - 1)) < (t.length : Int) then (if 0 ≤ (wrap64 ((t.length : Int) - 2)) then (if (wrap64 ((t.length : Int) - 2)) < (t.length : Int) then (if 0 ≤ (wrap64 ((t.length : Int) - 3)) then (if (wrap64 ((t.length : Int) - 3)) < (t.length : Int) then (if (wrap64 ((rd t (wrap64 ((t.length : Int) - 1))) - (rd t (wrap64 ((t.length : Int) - 2))))) = (wrap64 ((rd t (wrap64 ((t.length : Int) - 2))) - (rd t (wrap64 ((t.length : Int) - 3))))) then (some (wrap64 ((rd t (wrap64 ((t.length : Int) - 1))) - (rd t (wrap64 ((t.length : Int) - 2)))))) else (some 0)) else (none)) else (none)) else (none)) else (none)) else (none)) else (none))) = some (strideV t) := by
 unfold strideV
 by_cases h : (t.length : Int) < 3
 ·rw [if_pos h, if_pos h]
 ·rw [if_neg h, if_neg h]
  have e1 : wrap64 ((t.length : Int) - 1) = (t.length : Int) - 1 := wrap_id (by omega) (by omega)
  have e2 : wrap64 ((t.length : Int) - 2) = (t.length : Int) - 2 := wrap_id (by omega) (by omega)
  have e3 : wrap64 ((t.length : Int) - 3) = (t.length : Int) - 3 := wrap_id (by omega) (by omega)
  rw [if_pos (by rw [e1]; omega), if_pos (by rw [e1]; omega), if_pos (by rw [e2]; omega), if_pos (by rw [e2]; omega), if_pos (by rw [e3]; omega), if_pos (by rw [e3]; omega)]
  split <;> rfl
theorem linesL_cons (x : S27) (l : List (S27)) (s : Int) : linesL (x :: l) s = if x.f0 = s then x.f1 :: linesL l s else linesL l s := by
 unfold linesL
 rw [List.filter_cons]
 by_cases h : x.f0 = s <;> simp [h]
theorem implLines_ev (l : List (S27)) (s : Int) (h : l.length ≤ 1048576) : Ev (fun k => impl_linesOf.f k l s) (linesL l s) := by
 unfold impl_linesOf.f
 have key : ∀ d i (acc : List Int), l.length - i = d → i ≤ l.length → acc.length ≤ i → Ev (fun k => impl_linesOf.l0 k s acc l (l.length : Int) (i : Int)) (acc ++ linesL (l.drop i) s) := by
  intro d
  induction d with
  | zero =>
   intro i acc hd hi ha
   refine Ev.succ ?_
   simp only [impl_linesOf.l0]
   refine Ev.neg (by omega) (Ev.some ?_)
   rw [List.drop_eq_nil_of_le (by omega)]
   simp [linesL]
  | succ d ih =>
   intro i acc hd hi ha
   refine Ev.succ ?_
   simp only [impl_linesOf.l0]
   refine Ev.pos (by omega) (Ev.pos (by omega) (Ev.pos (by omega) ?_))
   have hrd : rd_T27 l (i : Int) = l.getD i z27 := rfl
   rw [drop_cons l i z27 (by omega), linesL_cons, hrd, wrap_succ (show i < l.length by omega) (by omega)]
   by_cases hs : (l.getD i z27).f0 = s
   ·refine Ev.pos hs (Ev.pos (by omega) ?_)
    rw [if_pos hs]
    have := ih (i + 1) (acc ++ [(l.getD i z27).f1]) (by omega) (by omega) (by simp; omega)
    simpa using this
   ·refine Ev.neg hs ?_
    rw [if_neg hs]
    exact ih (i + 1) acc (by omega) (by omega) (by omega)
 have := key l.length 0 [] (by omega) (by omega) (by simp)
 simpa using this
theorem specLines_ev (l : List (S27)) (n : Nat) (s : Int) (h : l.length ≤ 1048576) (hn : n ≤ l.length) : Ev (fun k => spec_l09Of.f k l (n : Int) s) (linesL (l.take n) s) := by
 unfold spec_l09Of.f
 have key : ∀ d i (acc : List Int), n - i = d → i ≤ n → acc.length ≤ i → Ev (fun k => spec_l09Of.l0 k l (n : Int) s acc (i : Int)) (acc ++ linesL ((l.take n).drop i) s) := by
  intro d
  induction d with
  | zero =>
   intro i acc hd hi ha
   refine Ev.succ ?_
   simp only [spec_l09Of.l0]
   refine Ev.neg (by omega) (Ev.some ?_)
   rw [List.drop_eq_nil_of_le (by rw [List.length_take]; omega)]
   simp [linesL]
  | succ d ih =>
   intro i acc hd hi ha
   refine Ev.succ ?_
   simp only [spec_l09Of.l0]
   refine Ev.pos (by omega) (Ev.pos (by omega) (Ev.pos (by omega) ?_))
   have hrd : rd_T27 l (i : Int) = l.getD i z27 := rfl
   have hg : (l.take n).getD i z27 = l.getD i z27 := by
    rw [List.getD_eq_getElem?_getD, List.getD_eq_getElem?_getD, List.getElem?_take_of_lt (by omega)]
   rw [drop_cons (l.take n) i z27 (by rw [List.length_take]; omega), linesL_cons, hg, hrd, wrap_succ (show i < l.length by omega) (by omega)]
   by_cases hs : (l.getD i z27).f0 = s
   ·refine Ev.pos hs (Ev.pos (by omega) ?_)
    rw [if_pos hs]
    have := ih (i + 1) (acc ++ [(l.getD i z27).f1]) (by omega) (by omega) (by simp; omega)
    simpa using this
   ·refine Ev.neg hs ?_
    rw [if_neg hs]
    exact ih (i + 1) acc (by omega) (by omega) (by omega)
 have := key n 0 [] (by omega) (by omega) (by simp)
 simpa using this
/-- The stride behind load i. -/
def strideAt (l : List (S27)) (i : Nat) : Int := strideV (linesL (l.take (i + 1)) (l.getD i z27).f0)
theorem implStride_ev (l : List (S27)) (i : Nat) (h : l.length ≤ 1048576) (hi : i < l.length) : Ev (fun k => impl_stride.f k (l.take (i + 1))) (strideAt l i) := by
 have hl : (l.take (i + 1)).length = i + 1 := by rw [List.length_take]; omega
 have e1 : wrap64 (((l.take (i + 1)).length : Int) - 1) = (i : Int) := by rw [hl, wrap_id (by omega) (by omega)]; omega
 have hg : rd_T27 (l.take (i + 1)) (i : Int) = l.getD i z27 := by
  show (l.take (i + 1)).getD i z27 = _
  rw [List.getD_eq_getElem?_getD, List.getD_eq_getElem?_getD, List.getElem?_take_of_lt (by omega)]
 unfold impl_stride.f
 rw [e1, hg]
 refine Ev.pos (by omega) (Ev.pos (by omega) (Ev.bind (implLines_ev _ _ (by omega)) ?_))
 exact Ev.congr (fun _ => strideV_eq _ (Nat.le_trans (linesL_length _ _) (by omega))) (Ev.some rfl)
theorem specStride_ev (l : List (S27)) (i : Nat) (h : l.length ≤ 1048576) (hi : i < l.length) : Ev (fun k => spec_l09Stride.f k l (i : Int)) (strideAt l i) := by
 unfold spec_l09Stride.f
 rw [wrap_succ hi (by omega)]
 have hg : rd_T27 l (i : Int) = l.getD i z27 := rfl
 rw [hg]
 refine Ev.pos (by omega) (Ev.pos (by omega) (Ev.bind (specLines_ev l (i + 1) _ h (by omega)) ?_))
 exact Ev.congr (fun _ => strideV_eq _ (Nat.le_trans (linesL_length _ _) (by rw [List.length_take]; omega))) (Ev.some rfl)
/-- The line that followed the latest place before n of a line; -1 if there is none. -/
def follUp (l : List Int) (x : Int) : Nat → Int
 | 0 => -1
 | n + 1 => if rd l (n : Int) = x then rd l ((n + 1 : Nat) : Int) else follUp l x n
def follV (l : List Int) (x : Int) : Int := follUp l x (l.length - 1)
theorem specFoll_ev (l : List Int) (x : Int) (h : l.length ≤ 1048576) : Ev (fun k => spec_l09Follower.f k l x) (follV l x) := by
 unfold spec_l09Follower.f follV
 have key : ∀ n, n + 1 ≤ l.length → Ev (fun k => spec_l09Follower.l0 k l x ((n : Int) - 1)) (follUp l x n) := by
  intro n
  induction n with
  | zero =>
   intro _
   refine Ev.succ ?_
   simp only [spec_l09Follower.l0]
   exact Ev.neg (by omega) (Ev.some rfl)
  | succ n ih =>
   intro hn
   have e0 : ((n + 1 : Nat) : Int) - 1 = (n : Int) := by omega
   rw [e0]
   refine Ev.succ ?_
   simp only [spec_l09Follower.l0]
   refine Ev.pos (by omega) (Ev.pos (by omega) (Ev.pos (by omega) ?_))
   have e1 : wrap64 ((n : Int) + 1) = ((n + 1 : Nat) : Int) := wrap_succ (Nat.lt_succ_self n) (by omega)
   have e2 : wrap64 ((n : Int) - 1) = (n : Int) - 1 := wrap_id (by omega) (by omega)
   rw [e1, e2]
   unfold follUp
   by_cases hx : rd l (n : Int) = x
   ·rw [if_pos hx]
    exact Ev.pos hx (Ev.pos (by omega) (Ev.pos (by omega) (Ev.some rfl)))
   ·rw [if_neg hx]
    exact Ev.neg hx (ih (by omega))
 rcases Nat.eq_zero_or_pos l.length with h0 | h0
 ·rw [wrap_id (by omega) (by omega), h0]
  refine Ev.succ ?_
  simp only [spec_l09Follower.l0]
  exact Ev.neg (by omega) (Ev.some rfl)
 ·have := key (l.length - 1) (by omega)
  rw [wrap_id (by omega) (by omega)]
  rw [show (l.length : Int) - 2 = ((l.length - 1 : Nat) : Int) - 1 by omega]
  exact this
theorem foll_l0 (l : List Int) (x : Int) : ∀ k i, impl_follower.l0 k l x i = spec_l09Follower.l0 k l x i := by
 intro k
 induction k with
 | zero => intro i; rfl
 | succ k ih => intro i; simp only [impl_follower.l0, spec_l09Follower.l0, ih]
theorem implFoll_ev (l : List Int) (x : Int) (h : l.length ≤ 1048576) : Ev (fun k => impl_follower.f k l x) (follV l x) :=
 Ev.congr (fun k => show impl_follower.f k l x = spec_l09Follower.f k l x from foll_l0 l x k _) (specFoll_ev l x h)
theorem specHas_ev (l : List Int) (x : Int) (h : l.length ≤ 1048576) : Ev (fun k => spec_l00Has.f k l x) (l.any fun y => decide (y = x)) := by
 unfold spec_l00Has.f
 have key : ∀ d i, l.length - i = d → i ≤ l.length → Ev (fun k => spec_l00Has.l0 k l x (i : Int)) ((l.drop i).any fun y => decide (y = x)) := by
  intro d
  induction d with
  | zero =>
   intro i hd hi
   refine Ev.succ ?_
   simp only [spec_l00Has.l0]
   refine Ev.neg (by omega) (Ev.some ?_)
   rw [List.drop_eq_nil_of_le (by omega)]
   rfl
  | succ d ih =>
   intro i hd hi
   refine Ev.succ ?_
   simp only [spec_l00Has.l0]
   refine Ev.pos (by omega) (Ev.pos (by omega) ?_)
   have hrd : rd l (i : Int) = l.getD i 0 := rfl
   rw [drop_cons l i 0 (by omega), List.any_cons, hrd, wrap_succ (show i < l.length by omega) (by omega)]
   by_cases hx : l.getD i 0 = x
   ·exact Ev.pos hx (Ev.some (by rw [decide_eq_true hx]; rfl))
   ·refine Ev.neg hx ?_
    have := ih (i + 1) (by omega) (by omega)
    rw [decide_eq_false hx, Bool.false_or]
    exact this
 have := key l.length 0 (by omega) (by omega)
 simpa using this
theorem implIndex_ev (l : List Int) (x : Int) (h : l.length ≤ 1048576) : Ev (fun k => slices_Index_int64_int64.f k l x) (xIdx (fun y => decide (y = x)) l 0) := by
 unfold slices_Index_int64_int64.f
 have key : ∀ d i, l.length - i = d → i ≤ l.length → Ev (fun k => slices_Index_int64_int64.l0 k l x (l.length : Int) (i : Int)) (xIdx (fun y => decide (y = x)) (l.drop i) (i : Int)) := by
  intro d
  induction d with
  | zero =>
   intro i hd hi
   refine Ev.succ ?_
   simp only [slices_Index_int64_int64.l0]
   refine Ev.neg (by omega) (Ev.some ?_)
   rw [xIdx_drop_end _ _ _ (by omega)]
  | succ d ih =>
   intro i hd hi
   refine Ev.succ ?_
   simp only [slices_Index_int64_int64.l0]
   refine Ev.pos (by omega) (Ev.pos (by omega) (Ev.pos (by omega) ?_))
   have hrd : rd l (i : Int) = l.getD i 0 := rfl
   rw [hrd, wrap_succ (show i < l.length by omega) (by omega)]
   by_cases hx : l.getD i 0 = x
   ·refine Ev.pos hx.symm (Ev.some ?_)
    rw [xIdx_drop_hit _ _ _ 0 (by omega) _ (by rw [hx]; simp)]
   ·refine Ev.neg (fun e => hx e.symm) ?_
    rw [xIdx_drop_miss _ _ _ 0 (by omega) _ (by simpa using hx)]
    exact ih (i + 1) (by omega) (by omega)
 have := key l.length 0 (by omega) (by omega)
 simpa using this
theorem implHas_ev (l : List Int) (x : Int) (h : l.length ≤ 1048576) : Ev (fun k => slices_Contains_int64_int64.f k l x) (l.any fun y => decide (y = x)) := by
 unfold slices_Contains_int64_int64.f
 refine Ev.bind (implIndex_ev l x h) (Ev.some ?_)
 rw [xIdx_nonneg _ _ _ (by omega)]
/-- The guesses of followers: at most n. -/
def pairGo (t : List Int) (line : Int) : Nat → List Int → Int → List Int
 | 0, out, _ => out
 | n + 1, out, now => if follV t now < 0 then out else if follV t now = line then out else if (out.any fun y => decide (y = follV t now)) = true then out else pairGo t line n (out ++ [follV t now]) (follV t now)
theorem pairGo_length (t : List Int) (line : Int) : ∀ n out now, (pairGo t line n out now).length ≤ out.length + n := by
 intro n
 induction n with
 | zero => intro out now; simp [pairGo]
 | succ n ih =>
  intro out now
  unfold pairGo
  split
  ·omega
  ·split
   ·omega
   ·split
    ·omega
    ·have := ih (out ++ [follV t now]) (follV t now)
     simp at this; omega
theorem specPair_ev (t : List Int) (line a0 d a2 a3 : Int) (ht : t.length ≤ 1048576) (hd : d ≤ 1000) : ∀ (n : Nat) (out : List Int) (now : Int), (out.length : Int) ≤ 1000 → (n : Int) = d - out.length → Ev (fun k => spec_l09Guess.l0 k line out t now a0 d a2 a3) (pairGo t line n out now) := by
 intro n
 induction n with
 | zero =>
  intro out now ho hn
  refine Ev.succ ?_
  simp only [spec_l09Guess.l0]
  exact Ev.neg (by omega) (Ev.some rfl)
 | succ n ih =>
  intro out now ho hn
  refine Ev.succ ?_
  simp only [spec_l09Guess.l0, pairGo]
  refine Ev.pos (by omega) (Ev.bind (specFoll_ev t now ht) ?_)
  by_cases h1 : follV t now < 0
  ·rw [if_pos h1]; exact Ev.pos h1 (Ev.some rfl)
  ·rw [if_neg h1]
   refine Ev.neg h1 ?_
   by_cases h2 : follV t now = line
   ·rw [if_pos h2]; exact Ev.pos h2 (Ev.some rfl)
   ·rw [if_neg h2]
    refine Ev.neg h2 (Ev.bind (specHas_ev out (follV t now) (by omega)) ?_)
    by_cases h3 : (out.any fun y => decide (y = follV t now)) = true
    ·rw [if_pos h3]; exact Ev.pos h3 (Ev.some rfl)
    ·rw [if_neg h3]
     exact Ev.neg h3 (Ev.pos (by omega) (ih _ _ (by simp; omega) (by simp; omega)))
theorem implPair_ev (t : List Int) (line a0 d a2 a3 s : Int) (ht : t.length ≤ 1048576) (hd : d ≤ 1000) : ∀ (n : Nat) (out : List Int) (now : Int), (out.length : Int) ≤ 1000 → (n : Int) = d - out.length → Ev (fun k => impl_Prefetcher_guesses.l0 k out t now a0 d a2 a3 s line) (pairGo t line n out now) := by
 intro n
 induction n with
 | zero =>
  intro out now ho hn
  refine Ev.succ ?_
  simp only [impl_Prefetcher_guesses.l0]
  exact Ev.bindc (a := (out.length : Int)) rfl (Ev.neg (by omega) (Ev.some rfl))
 | succ n ih =>
  intro out now ho hn
  refine Ev.succ ?_
  simp only [impl_Prefetcher_guesses.l0, pairGo]
  refine Ev.bindc (a := (out.length : Int)) rfl (Ev.pos (by omega) (Ev.bind (implFoll_ev t now ht) ?_))
  by_cases h1 : follV t now < 0
  ·rw [if_pos h1]; exact Ev.pos h1 (Ev.some rfl)
  ·rw [if_neg h1]
   refine Ev.neg h1 ?_
   by_cases h2 : follV t now = line
   ·rw [if_pos h2]; exact Ev.pos h2 (Ev.some rfl)
   ·rw [if_neg h2]
    refine Ev.neg h2 (Ev.bind (implHas_ev out (follV t now) (by omega)) ?_)
    by_cases h3 : (out.any fun y => decide (y = follV t now)) = true
    ·rw [if_pos h3]; exact Ev.pos h3 (Ev.some rfl)
    ·rw [if_neg h3]
     exact Ev.neg h3 (Ev.pos (by omega) (ih _ _ (by simp; omega) (by simp; omega)))
/-- The guesses of a step: while they are addresses, at most n from the k-th one on. -/
def stepGo (line by_ : Int) : Nat → List Int → Int → List Int
 | 0, out, _ => out
 | n + 1, out, k => if 0 ≤ line + k * by_ ∧ line + k * by_ ≤ 63 then stepGo line by_ n (out ++ [line + k * by_]) (k + 1) else out
theorem stepGo_length (line by_ : Int) : ∀ n out k, (stepGo line by_ n out k).length ≤ out.length + n := by
 intro n
 induction n with
 | zero => intro out k; simp [stepGo]
 | succ n ih =>
  intro out k
  unfold stepGo
  split
  ·have := ih (out ++ [line + k * by_]) (k + 1)
   simp at this; omega
  ·omega
/-- Behind the first that is no address there is none any more. -/
theorem specRest_ev (line by_ a0 d a2 a3 : Int) (hb : by_ ≠ 0) (hl0 : 0 ≤ line) (hl1 : line ≤ 63) (hb0 : -100 ≤ by_) (hb1 : by_ ≤ 100) (hd : d ≤ 4) : ∀ (n : Nat) (out : List Int) (k : Int), 1 ≤ k → k ≤ 5 → (n : Int) = d + 1 - k → ¬ (0 ≤ line + k * by_ ∧ line + k * by_ ≤ 63) →
  Ev (fun f => spec_l09Guess.l1 f line out by_ k a0 d a2 a3) out := by
 intro n
 induction n with
 | zero =>
  intro out k hk hk5 hn hx
  refine Ev.succ ?_
  simp only [spec_l09Guess.l1]
  refine Ev.neg (by omega) (Ev.succ ?_)
  simp only [spec_l09Guess.j3]
  exact Ev.neg (by simp) (Ev.some rfl)
 | succ n ih =>
  intro out k hk hk5 hn hx
  have hk4 : k ≤ 4 := by omega
  refine Ev.succ ?_
  simp only [spec_l09Guess.l1]
  refine Ev.pos (by omega) (Ev.succ ?_)
  simp only [spec_l09Guess.j3, spec_l03Address.f, in_spec, Option.bind_some]
  have hw : wrap64 (line + wrap64 (k * by_)) = line + k * by_ := by
   obtain h | h | h | h : k = 1 ∨ k = 2 ∨ k = 3 ∨ k = 4 := by omega
   all_goals subst h; rw [wrap_id (x := _ * by_) (by omega) (by omega), wrap_id (by omega) (by omega)]
  rw [hw, wrap_id (x := k + 1) (by omega) (by omega)]
  refine Ev.pos (by simpa using hb) (Ev.neg ?_ (ih out (k + 1) (by omega) (by omega) (by omega) ?_))
  ·simp only [Bool.and_eq_true, decide_eq_true_eq]; exact hx
  ·obtain h | h | h | h : k = 1 ∨ k = 2 ∨ k = 3 ∨ k = 4 := by omega
   all_goals subst h; omega
theorem specStep_ev (line by_ a0 d a2 a3 : Int) (hb : by_ ≠ 0) (hl0 : 0 ≤ line) (hl1 : line ≤ 63) (hb0 : -100 ≤ by_) (hb1 : by_ ≤ 100) (hd : d ≤ 4) : ∀ (n : Nat) (out : List Int) (k : Int), 1 ≤ k → k ≤ 5 → (n : Int) = d + 1 - k → (out.length : Int) < k →
  Ev (fun f => spec_l09Guess.l1 f line out by_ k a0 d a2 a3) (stepGo line by_ n out k) := by
 intro n
 induction n with
 | zero =>
  intro out k hk hk5 hn ho
  refine Ev.succ ?_
  simp only [spec_l09Guess.l1]
  refine Ev.neg (by omega) (Ev.succ ?_)
  simp only [spec_l09Guess.j3]
  exact Ev.neg (by simp) (Ev.some rfl)
 | succ n ih =>
  intro out k hk hk5 hn ho
  by_cases hx : 0 ≤ line + k * by_ ∧ line + k * by_ ≤ 63
  ·have hk4 : k ≤ 4 := by omega
   refine Ev.succ ?_
   simp only [spec_l09Guess.l1]
   refine Ev.pos (by omega) (Ev.succ ?_)
   simp only [spec_l09Guess.j3, spec_l03Address.f, in_spec, Option.bind_some]
   have hw : wrap64 (line + wrap64 (k * by_)) = line + k * by_ := by
    obtain h | h | h | h : k = 1 ∨ k = 2 ∨ k = 3 ∨ k = 4 := by omega
    all_goals subst h; rw [wrap_id (x := _ * by_) (by omega) (by omega), wrap_id (by omega) (by omega)]
   rw [hw, wrap_id (x := k + 1) (by omega) (by omega)]
   unfold stepGo
   rw [if_pos hx]
   exact Ev.pos (by simpa using hb) (Ev.pos (by simpa using hx) (Ev.pos (by omega) (ih _ _ (by omega) (by omega) (by omega) (by simp; omega))))
  ·unfold stepGo
   rw [if_neg hx]
   exact specRest_ev line by_ a0 d a2 a3 hb hl0 hl1 hb0 hb1 hd (n + 1) out k hk hk5 hn hx
theorem implStep_ev (line by_ a0 d a2 a3 s : Int) (hb : by_ ≠ 0) (hl0 : 0 ≤ line) (hl1 : line ≤ 63) (hb0 : -100 ≤ by_) (hb1 : by_ ≤ 100) (hd : d ≤ 4) : ∀ (n : Nat) (out : List Int) (k : Int), 1 ≤ k → k ≤ 5 → (n : Int) = d + 1 - k → (out.length : Int) < k →
  Ev (fun f => impl_Prefetcher_guesses.l1 f out by_ k a0 d a2 a3 s line) (stepGo line by_ n out k) := by
 intro n
 induction n with
 | zero =>
  intro out k hk hk5 hn ho
  refine Ev.succ ?_
  simp only [impl_Prefetcher_guesses.l1]
  exact Ev.neg hb (Ev.neg (by omega) (Ev.some rfl))
 | succ n ih =>
  intro out k hk hk5 hn ho
  have hk4 : k ≤ 4 := by omega
  refine Ev.succ ?_
  simp only [impl_Prefetcher_guesses.l1, impl_isAddress.f, in_impl, Option.bind_some]
  have hw : wrap64 (line + wrap64 (k * by_)) = line + k * by_ := by
   obtain h | h | h | h : k = 1 ∨ k = 2 ∨ k = 3 ∨ k = 4 := by omega
   all_goals subst h; rw [wrap_id (x := _ * by_) (by omega) (by omega), wrap_id (by omega) (by omega)]
  rw [hw, wrap_id (x := k + 1) (by omega) (by omega)]
  refine Ev.neg hb (Ev.pos (by omega) ?_)
  unfold stepGo
  by_cases hx : 0 ≤ line + k * by_ ∧ line + k * by_ ≤ 63
  ·rw [if_pos hx]
   exact Ev.pos (by simpa using hx) (Ev.pos (by omega) (ih _ _ (by omega) (by omega) (by omega) (by simp; omega)))
  ·rw [if_neg hx]
   exact Ev.neg (by simp only [Bool.and_eq_true, decide_eq_true_eq]; exact hx) (Ev.some rfl)
/-- The guesses behind load i. -/
def guessAt (f0 f1 : Int) (l : List (S27)) (i : Nat) : List Int :=
 if f0 = 2 then pairGo (linesL (l.take (i + 1)) (l.getD i z27).f0) (l.getD i z27).f1 f1.toNat [] (l.getD i z27).f1
 else if (if f0 = 1 then strideAt l i else 1) = 0 then [] else stepGo (l.getD i z27).f1 (if f0 = 1 then strideAt l i else 1) f1.toNat [] 1
theorem guessAt_length (f0 f1 : Int) (l : List (S27)) (i : Nat) (h : f1 ≤ 4) : (guessAt f0 f1 l i).length ≤ 4 := by
 have key : ∀ b : Int, (if b = 0 then [] else stepGo (l.getD i z27).f1 b f1.toNat [] 1).length ≤ 4 := by
  intro b
  by_cases hb : b = 0
  ·rw [if_pos hb]; simp
  ·rw [if_neg hb]
   have := stepGo_length (l.getD i z27).f1 b f1.toNat [] 1
   rw [List.length_nil] at this; omega
 unfold guessAt
 by_cases h2 : f0 = 2
 ·rw [if_pos h2]
  have := pairGo_length (linesL (l.take (i + 1)) (l.getD i z27).f0) (l.getD i z27).f1 f1.toNat [] (l.getD i z27).f1
  rw [List.length_nil] at this; omega
 ·rw [if_neg h2]
  exact key _
theorem rd_bound (t : List Int) (i : Int) (h : ∀ x ∈ t, 0 ≤ x ∧ x ≤ 63) : 0 ≤ rd t i ∧ rd t i ≤ 63 := by
 unfold rd
 by_cases hi : i.toNat < t.length
 ·exact h _ (getD_mem t i.toNat 0 hi)
 ·rw [List.getD_eq_getElem?_getD, List.getElem?_eq_none (by omega)]; simp
theorem strideV_bound (t : List Int) (h : ∀ x ∈ t, 0 ≤ x ∧ x ≤ 63) : -100 ≤ strideV t ∧ strideV t ≤ 100 := by
 unfold strideV
 split
 ·omega
 ·split
  ·have h1 := rd_bound t (wrap64 ((t.length : Int) - 1)) h
   have h2 := rd_bound t (wrap64 ((t.length : Int) - 2)) h
   rw [wrap_id (x := _ - _) (by omega) (by omega)]
   omega
  ·omega
theorem okLoads_at (l : List (S27)) (hv : (l.any xpLoad) = false) (x : S27) (hx : x ∈ l) : (0 ≤ x.f0 ∧ x.f0 ≤ 3) ∧ 0 ≤ x.f1 ∧ x.f1 ≤ 63 := by
 have := List.any_eq_false.1 hv x hx
 rw [xpLoad_not] at this
 simpa [okLoad] using this
theorem linesL_ok (l : List (S27)) (s : Int) (h : ∀ x ∈ l, 0 ≤ x.f1 ∧ x.f1 ≤ 63) : ∀ y ∈ linesL l s, 0 ≤ y ∧ y ≤ 63 := by
 intro y hy
 unfold linesL at hy
 obtain ⟨x, hx, rfl⟩ := List.mem_map.1 hy
 exact h x (List.mem_filter.1 hx).1
theorem guess_ev (a0 a1 a2 a3 : Int) (l : List (S27)) (i : Nat) (hl : l.length ≤ 60) (hv : (l.any xpLoad) = false) (h1 : 0 ≤ a1) (h2 : a1 ≤ 4) (hi : i < l.length) :
  Ev (fun k => spec_l09Guess.f k a0 a1 a2 a3 l (i : Int)) (guessAt a0 a1 l i) ∧ Ev (fun k => impl_Prefetcher_guesses.f k a0 a1 a2 a3 (l.take (i + 1))) (guessAt a0 a1 l i) := by
 have hx := okLoads_at l hv _ (getD_mem l i z27 hi)
 have hlt : (l.take (i + 1)).length = i + 1 := by rw [List.length_take]; omega
 have e1 : wrap64 (((l.take (i + 1)).length : Int) - 1) = (i : Int) := by rw [hlt, wrap_id (by omega) (by omega)]; omega
 have hg : rd_T27 (l.take (i + 1)) (i : Int) = l.getD i z27 := by
  show (l.take (i + 1)).getD i z27 = _
  rw [List.getD_eq_getElem?_getD, List.getD_eq_getElem?_getD, List.getElem?_take_of_lt (by omega)]
 have hg2 : rd_T27 l (i : Int) = l.getD i z27 := rfl
 have htl : (linesL (l.take (i + 1)) (l.getD i z27).f0).length ≤ 1048576 := Nat.le_trans (linesL_length _ _) (by omega)
 have hst : -100 ≤ strideAt l i ∧ strideAt l i ≤ 100 := strideV_bound _ (linesL_ok _ _ (fun x hx => (okLoads_at l hv x (List.mem_of_mem_take hx)).2))
 unfold spec_l09Guess.f impl_Prefetcher_guesses.f guessAt
 rw [e1, hg, hg2, wrap_succ hi (by omega)]
 by_cases hk : a0 = 2
 ·rw [if_pos hk]
  exact ⟨Ev.pos (by omega) (Ev.pos (by omega) (Ev.bindc rfl (Ev.pos hk (Ev.bind (specLines_ev l (i + 1) _ (by omega) (by omega)) (specPair_ev _ _ a0 a1 a2 a3 htl (by omega) a1.toNat [] _ (by simp) (by simp; omega)))))),
   Ev.pos (by omega) (Ev.pos (by omega) (Ev.bindc rfl (Ev.pos hk (Ev.bind (implLines_ev _ _ (by omega)) (implPair_ev _ _ a0 a1 a2 a3 _ htl (by omega) a1.toNat [] _ (by simp) (by simp; omega))))))⟩
 ·rw [if_neg hk]
  have hs : ∀ b : Int, -100 ≤ b → b ≤ 100 → Ev (fun k => spec_l09Guess.j1 k (l.getD i z27).f1 [] b a0 a1 a2 a3) (if b = 0 then [] else stepGo (l.getD i z27).f1 b a1.toNat [] 1) := by
   intro b b0 b1
   refine Ev.succ ?_
   simp only [spec_l09Guess.j1]
   by_cases hb : b = 0
   ·rw [if_pos hb]
    refine Ev.succ ?_
    simp only [spec_l09Guess.l1]
    by_cases h3 : 1 ≤ a1
    ·exact Ev.pos h3 (Ev.succ (by simp only [spec_l09Guess.j3]; exact Ev.neg (by simp [hb]) (Ev.some rfl)))
    ·exact Ev.neg h3 (Ev.succ (by simp only [spec_l09Guess.j3]; exact Ev.neg (by simp) (Ev.some rfl)))
   ·rw [if_neg hb]
    exact specStep_ev _ b a0 a1 a2 a3 hb hx.2.1 hx.2.2 b0 b1 h2 a1.toNat [] 1 (by omega) (by omega) (by omega) (by simp)
  have hm : ∀ b s : Int, -100 ≤ b → b ≤ 100 → Ev (fun k => impl_Prefetcher_guesses.j1 k [] b a0 a1 a2 a3 s (l.getD i z27).f1) (if b = 0 then [] else stepGo (l.getD i z27).f1 b a1.toNat [] 1) := by
   intro b s b0 b1
   refine Ev.succ ?_
   simp only [impl_Prefetcher_guesses.j1]
   by_cases hb : b = 0
   ·rw [if_pos hb]
    refine Ev.succ ?_
    simp only [impl_Prefetcher_guesses.l1]
    exact Ev.pos hb (Ev.some rfl)
   ·rw [if_neg hb]
    exact implStep_ev _ b a0 a1 a2 a3 s hb hx.2.1 hx.2.2 b0 b1 h2 a1.toNat [] 1 (by omega) (by omega) (by omega) (by simp)
  by_cases h1' : a0 = 1
  ·rw [if_pos h1']
   exact ⟨Ev.pos (by omega) (Ev.pos (by omega) (Ev.bindc rfl (Ev.neg hk (Ev.pos h1' (Ev.bind (specStride_ev l i (by omega) hi) (hs _ hst.1 hst.2)))))),
    Ev.pos (by omega) (Ev.pos (by omega) (Ev.bindc rfl (Ev.neg hk (Ev.pos h1' (Ev.bind (implStride_ev l i (by omega) hi) (hm _ _ hst.1 hst.2))))))⟩
  ·rw [if_neg h1']
   exact ⟨Ev.pos (by omega) (Ev.pos (by omega) (Ev.bindc rfl (Ev.neg hk (Ev.neg h1' (hs 1 (by omega) (by omega)))))),
    Ev.pos (by omega) (Ev.pos (by omega) (Ev.bindc rfl (Ev.neg hk (Ev.neg h1' (hm 1 _ (by omega) (by omega))))))⟩
def okPref (a0 a1 a2 a3 : Int) : Bool := (decide (0 ≤ a0) && decide (a0 ≤ 2)) && ((decide (0 ≤ a1) && decide (a1 ≤ 4)) && ((decide (0 ≤ a2) && decide (a2 ≤ 8)) && (decide (1 ≤ a3) && decide (a3 ≤ 6))))
theorem specPref_f (a0 a1 a2 a3 : Int) : spec_l09Is.f a0 a1 a2 a3 = some (okPref a0 a1 a2 a3) := by
 unfold spec_l09Is.f spec_l03Ways.f okPref
 simp only [in_spec, Option.bind_some]
 cases (decide (0 ≤ a0) && decide (a0 ≤ 2)) <;> cases (decide (0 ≤ a1) && decide (a1 ≤ 4)) <;> cases (decide (0 ≤ a2) && decide (a2 ≤ 8)) <;> cases (decide (1 ≤ a3) && decide (a3 ≤ 6)) <;> rfl
theorem implPref_f (a0 a1 a2 a3 : Int) : impl_ValidPrefetcher.f a0 a1 a2 a3 = some (okPref a0 a1 a2 a3) := by
 unfold impl_ValidPrefetcher.f impl_isWays.f okPref
 simp only [in_impl, Option.bind_some]
 cases (decide (0 ≤ a0) && decide (a0 ≤ 2)) <;> cases (decide (0 ≤ a1) && decide (a1 ≤ 4)) <;> cases (decide (0 ≤ a2) && decide (a2 ≤ 8)) <;> cases (decide (1 ≤ a3) && decide (a3 ≤ 6)) <;> rfl
theorem stepV_mem {hit : List (List Int)} {miss c : List Int} {x : Int} (hok : okStep hit miss c x = true) : ∀ y ∈ (stepV hit miss c x).1, y = x ∨ y ∈ c := by
 intro y hy
 simp only [okStep, Bool.and_eq_true, decide_eq_true_eq, List.all_eq_true] at hok
 obtain ⟨⟨h1, h2⟩, h3, h4, h5⟩ := hok
 simp only [stepV, List.mem_map] at hy
 obtain ⟨j, hj, rfl⟩ := hy
 obtain ⟨j0, j1⟩ := h5 j hj
 have hm : rd (stepOld c x) j ∈ stepOld c x := by
  show (stepOld c x).getD j.toNat 0 ∈ stepOld c x
  rw [getD_lt _ _ _ (by rw [stepOld_length]; omega)]
  exact List.getElem_mem _
 unfold stepOld at hm ⊢
 split at hm
 ·rename_i hh
  rw [if_pos hh]
  exact .inr hm
 ·rename_i hh
  rw [if_neg hh]
  exact (List.mem_or_eq_of_mem_set hm).symm
/-- What a run of loads keeps: what is cached, the marked lines (rising), and how many marks were useless. -/
structure CoreF where
 cont : List Int
 ms : List Int
 us : Int
def hasF (l : List Int) (x : Int) : Bool := l.any fun y => decide (y = x)
def dropM (l : List Int) (x : Int) : List Int := l.filter fun y => decide (y ≠ x)
def unmarkF (line : Int) (useless : Bool) (ms : List Int) (us : Int) : List Int × Int := if hasF ms line = true then (dropM ms line, if useless = true then us + 1 else us) else (ms, us)
def lastF (c : List Int) : Int := c.getD (c.length - 1) 0
def putF (hit : List (List Int)) (miss : List Int) (line : Int) (c : CoreF) : CoreF :=
 if hasF c.cont line = true then { c with cont := (stepV hit miss c.cont line).1 } else ⟨(stepV hit miss c.cont line).1, (unmarkF (lastF c.cont) true c.ms c.us).1, (unmarkF (lastF c.cont) true c.ms c.us).2⟩
/-- A number among rising ones, once. -/
def putR (x : Int) : List Int → List Int
 | [] => [x]
 | y :: t => if y < x then y :: putR x t else if y = x then y :: t else x :: y :: t
def markF (hit : List (List Int)) (miss : List Int) (line : Int) (c : CoreF) : CoreF := { putF hit miss line c with ms := putR line (putF hit miss line c).ms }
def arrF (hit : List (List Int)) (miss : List Int) (now : Int) : List (Int × Int) → CoreF → CoreF
 | [], c => c
 | x :: t, c => if now < x.2 then arrF hit miss now t c else arrF hit miss now t (markF hit miss x.1 c)
def leftF (now : Int) (pd : List (Int × Int)) : List (Int × Int) := pd.filter fun x => decide (now < x.2)
def linesF (pd : List (Int × Int)) : List Int := pd.map fun x => x.1
def duesF (pd : List (Int × Int)) : List Int := pd.map fun x => x.2
def placeF (pd : List (Int × Int)) (line : Int) : Int := xIdx (fun y => decide (y = line)) (linesF pd) 0
/-- Which of the four a load is, and what is pending behind it. -/
def kindF (c : CoreF) (pd : List (Int × Int)) (line : Int) : Int := if hasF c.cont line = true then (if hasF c.ms line = true then 2 else 1) else if 0 ≤ placeF pd line then 3 else 0
def pendF (c : CoreF) (pd : List (Int × Int)) (line : Int) : List (Int × Int) := if hasF c.cont line = true then pd else if 0 ≤ placeF pd line then pd.eraseIdx (placeF pd line).toNat else pd
def newF (cont : List Int) (pd : List (Int × Int)) (g : Int) : Bool := !hasF cont g && !hasF (linesF pd) g
def issueF (due : Int) (cont : List Int) : List Int → List (Int × Int) → Int → List (Int × Int) × Int
 | [], pd, n => (pd, n)
 | g :: t, pd, n => if newF cont pd g = true then issueF due cont t (pd ++ [(g, due)]) (n + 1) else issueF due cont t pd n
structure FetchV where
 c : CoreF
 pd : List (Int × Int)
 is : Int
 n0 : Int
 n1 : Int
 n2 : Int
 n3 : Int
 out : List Int
/-- Behind what has arrived: the load itself, and its guesses. -/
def useF (hit : List (List Int)) (miss : List Int) (line : Int) (c : CoreF) : CoreF := { putF hit miss line c with ms := dropM (putF hit miss line c).ms line }
def countF (k : Int) (s : FetchV) : FetchV := { s with n0 := if k = 0 then s.n0 + 1 else s.n0, n1 := if k = 1 then s.n1 + 1 else s.n1, n2 := if k = 2 then s.n2 + 1 else s.n2, n3 := if k = 3 then s.n3 + 1 else s.n3, out := s.out ++ [k] }
def arriveF (hit : List (List Int)) (miss : List Int) (k : Nat) (s : FetchV) : FetchV := { s with c := arrF hit miss k s.pd s.c, pd := leftF k s.pd }
def takeF (hit : List (List Int)) (miss : List Int) (line : Int) (s : FetchV) : FetchV := { countF (kindF s.c s.pd line) s with c := useF hit miss line s.c, pd := pendF s.c s.pd line }
def guessF (due : Int) (gs : List Int) (s : FetchV) : FetchV := { s with pd := (issueF due s.c.cont gs s.pd s.is).1, is := (issueF due s.c.cont gs s.pd s.is).2 }
def oneF (hit : List (List Int)) (miss : List Int) (delay : Int) (k : Nat) (x : Int × List Int) (s : FetchV) : FetchV := guessF ((k : Int) + 1 + delay) x.2 (takeF hit miss x.1 (arriveF hit miss k s))
def runF (hit : List (List Int)) (miss : List Int) (delay : Int) : Nat → List (Int × List Int) → FetchV → FetchV
 | _, [], s => s
 | k, x :: t, s => runF hit miss delay (k + 1) t (oneF hit miss delay k x s)
def startF (m : Nat) : FetchV := ⟨⟨List.replicate m (-1), [], 0⟩, [], 0, 0, 0, 0, 0, []⟩
theorem hasF_mem (l : List Int) (x : Int) : hasF l x = true ↔ x ∈ l := by
 unfold hasF
 rw [List.any_eq_true]
 constructor
 ·rintro ⟨y, hy, h⟩
  rw [decide_eq_true_eq] at h
  exact h ▸ hy
 ·intro h
  exact ⟨x, h, by simp⟩
theorem hasF_not (l : List Int) (x : Int) : hasF l x = false ↔ x ∉ l := by
 rw [← hasF_mem]
 cases hasF l x <;> simp
theorem dropM_mem (l : List Int) (x y : Int) : y ∈ dropM l x ↔ y ∈ l ∧ y ≠ x := by
 unfold dropM
 rw [List.mem_filter, decide_eq_true_eq]
theorem dropM_not {l : List Int} {x : Int} (h : x ∉ l) : dropM l x = l := by
 unfold dropM
 rw [List.filter_eq_self]
 intro y hy
 rw [decide_eq_true_eq]
 exact fun e => h (e ▸ hy)
theorem dropM_rising {l : List Int} {x : Int} (h : l.Pairwise (· < ·)) : (dropM l x).Pairwise (· < ·) := h.filter _
theorem dropM_len {l : List Int} {x : Int} (h : l.Pairwise (· < ·)) (hx : x ∈ l) : (dropM l x).length + 1 = l.length := by
 induction l with
 | nil => cases hx
 | cons y t ih =>
  rw [List.pairwise_cons] at h
  by_cases e : y = x
  ·subst e
   have : dropM (y :: t) y = t := by
    unfold dropM
    rw [List.filter_cons_of_neg (by simp)]
    exact dropM_not (fun k => by have := h.1 y k; omega)
   rw [this, List.length_cons]
  ·have : dropM (y :: t) x = y :: dropM t x := by
    unfold dropM
    rw [List.filter_cons_of_pos (by simpa using e)]
   rw [this, List.length_cons, ih h.2 ((List.mem_cons.1 hx).resolve_left (fun k => e k.symm)), List.length_cons]
theorem putR_mem (x y : Int) : ∀ l : List Int, y ∈ putR x l ↔ y = x ∨ y ∈ l
 | [] => by simp [putR]
 | z :: t => by
  unfold putR
  split
  ·rw [List.mem_cons, putR_mem x y t, List.mem_cons]
   constructor
   ·rintro (h | h | h)
    ·exact .inr (.inl h)
    ·exact .inl h
    ·exact .inr (.inr h)
   ·rintro (h | h | h)
    ·exact .inr (.inl h)
    ·exact .inl h
    ·exact .inr (.inr h)
  ·split
   ·rename_i h1 h2
    subst h2
    rw [List.mem_cons]
    exact ⟨fun h => .inr h, fun h => h.elim .inl id⟩
   ·rw [List.mem_cons]
theorem putR_rising (x : Int) : ∀ l : List Int, l.Pairwise (· < ·) → (putR x l).Pairwise (· < ·)
 | [], _ => by simp [putR]
 | z :: t, h => by
  have h2 := List.pairwise_cons.1 h
  unfold putR
  split
  ·rename_i h1
   refine List.pairwise_cons.2 ⟨fun y hy => ?_, putR_rising x t h2.2⟩
   rcases (putR_mem x y t).1 hy with e | e
   ·rw [e]; exact h1
   ·exact h2.1 y e
  ·split
   ·exact h
   ·refine List.pairwise_cons.2 ⟨fun y hy => ?_, h⟩
    rcases List.mem_cons.1 hy with e | e
    ·omega
    ·have := h2.1 y e; omega
theorem putR_len (x : Int) : ∀ l : List Int, l.Pairwise (· < ·) → (putR x l).length = (dropM l x).length + 1
 | [], _ => rfl
 | z :: t, h => by
  have h2 := List.pairwise_cons.1 h
  unfold putR
  split
  ·rename_i h1
   have : dropM (z :: t) x = z :: dropM t x := by
    unfold dropM
    rw [List.filter_cons_of_pos (by simp; omega)]
   rw [this, List.length_cons, List.length_cons, putR_len x t h2.2]
  ·split
   ·rename_i h1 h3
    subst h3
    have := dropM_len h at0
    omega
   ·rw [dropM_not (fun k => (List.mem_cons.1 k).elim (fun e => by omega) (fun e => by have := h2.1 x e; omega))]
    rfl
/-- What is true of a run all along: m entries, lines; marks rising. -/
structure CoreF.Ok (m : Nat) (c : CoreF) : Prop where
 cont : c.cont.length = m
 lines : ∀ x ∈ c.cont, -1 ≤ x ∧ x ≤ 63
 rising : c.ms.Pairwise (· < ·)
 marks : ∀ x ∈ c.ms, 0 ≤ x ∧ x ≤ 63
theorem unmark_ok {l : List Int} (h : l.Pairwise (· < ·)) (hm : ∀ x ∈ l, 0 ≤ x ∧ x ≤ 63) (x : Int) (b : Bool) (us : Int) : (unmarkF x b l us).1.Pairwise (· < ·) ∧ ∀ y ∈ (unmarkF x b l us).1, 0 ≤ y ∧ y ≤ 63 := by
 unfold unmarkF
 split
 ·exact ⟨dropM_rising h, fun y hy => hm y ((dropM_mem _ _ _).1 hy).1⟩
 ·exact ⟨h, hm⟩
section
variable {m : Nat} {hit : List (List Int)} {miss : List Int} (hok : ∀ (c : List Int) (x : Int), c.length = m → okStep hit miss c x = true) (hlen : ∀ (c : List Int) (x : Int), c.length = m → (stepV hit miss c x).1.length = m)
include hok hlen
theorem put_ok {c : CoreF} (h : c.Ok m) {line : Int} (hl : 0 ≤ line ∧ line ≤ 63) : (putF hit miss line c).Ok m := by
 have hmem : ∀ y ∈ (stepV hit miss c.cont line).1, -1 ≤ y ∧ y ≤ 63 := fun y hy => by
  rcases stepV_mem (hok _ _ h.cont) y hy with e | e
  ·omega
  ·exact h.lines y e
 unfold putF
 split
 ·exact ⟨hlen _ _ h.cont, hmem, h.rising, h.marks⟩
 ·exact ⟨hlen _ _ h.cont, hmem, (unmark_ok h.rising h.marks _ _ _).1, (unmark_ok h.rising h.marks _ _ _).2⟩
theorem use_ok {c : CoreF} (h : c.Ok m) {line : Int} (hl : 0 ≤ line ∧ line ≤ 63) : (useF hit miss line c).Ok m := by
 have h1 := put_ok hok hlen h hl
 exact ⟨h1.cont, h1.lines, dropM_rising h1.rising, fun y hy => h1.marks y ((dropM_mem _ _ _).1 hy).1⟩
theorem mark_ok {c : CoreF} (h : c.Ok m) {line : Int} (hl : 0 ≤ line ∧ line ≤ 63) : (markF hit miss line c).Ok m := by
 have h1 := put_ok hok hlen h hl
 refine ⟨h1.cont, h1.lines, putR_rising _ _ h1.rising, fun y hy => ?_⟩
 rcases (putR_mem _ _ _).1 hy with e | e
 ·rw [e]; exact hl
 ·exact h1.marks y e
end
theorem unmark_sum {l : List Int} (h : l.Pairwise (· < ·)) (x us : Int) : (unmarkF x true l us).2 + (unmarkF x true l us).1.length = us + l.length ∧ us ≤ (unmarkF x true l us).2 := by
 unfold unmarkF
 split
 ·rename_i hh
  have := dropM_len h ((hasF_mem _ _).1 hh)
  refine ⟨?_, ?_⟩
  ·show (us + 1) + ((dropM l x).length : Int) = us + l.length
   omega
  ·show us ≤ us + 1
   omega
 ·exact ⟨rfl, Int.le_refl _⟩
theorem put_sum (hit : List (List Int)) (miss : List Int) (line : Int) {c : CoreF} (h : c.ms.Pairwise (· < ·)) : (putF hit miss line c).us + (putF hit miss line c).ms.length = c.us + c.ms.length ∧ c.us ≤ (putF hit miss line c).us := by
 unfold putF
 split
 ·exact ⟨rfl, Int.le_refl _⟩
 ·exact unmark_sum h _ _
theorem dropM_le (l : List Int) (x : Int) : (dropM l x).length ≤ l.length := List.length_filter_le _ _
theorem put_rising {hit : List (List Int)} {miss : List Int} {line : Int} {c : CoreF} (h : c.ms.Pairwise (· < ·)) : (putF hit miss line c).ms.Pairwise (· < ·) := by
 unfold putF
 split
 ·exact h
 ·show (unmarkF (lastF c.cont) true c.ms c.us).1.Pairwise (· < ·)
  unfold unmarkF
  split
  ·exact dropM_rising h
  ·exact h
theorem mark_sum (hit : List (List Int)) (miss : List Int) (line : Int) {c : CoreF} (h : c.ms.Pairwise (· < ·)) : (markF hit miss line c).us + (markF hit miss line c).ms.length ≤ c.us + c.ms.length + 1 ∧ c.us ≤ (markF hit miss line c).us := by
 have h1 := put_sum hit miss line h
 refine ⟨?_, h1.2⟩
 show (putF hit miss line c).us + ((putR line (putF hit miss line c).ms).length : Int) ≤ _
 rw [putR_len _ _ (put_rising h)]
 have := dropM_le (putF hit miss line c).ms line
 have := h1.1
 omega
theorem use_sum (hit : List (List Int)) (miss : List Int) (line : Int) {c : CoreF} (h : c.ms.Pairwise (· < ·)) : (useF hit miss line c).us + (useF hit miss line c).ms.length ≤ c.us + c.ms.length ∧ c.us ≤ (useF hit miss line c).us := by
 have h1 := put_sum hit miss line h
 refine ⟨?_, h1.2⟩
 show (putF hit miss line c).us + ((dropM (putF hit miss line c).ms line).length : Int) ≤ _
 have := dropM_le (putF hit miss line c).ms line
 have := h1.1
 omega
section
variable {m : Nat} {hit : List (List Int)} {miss : List Int} (hok : ∀ (c : List Int) (x : Int), c.length = m → okStep hit miss c x = true) (hlen : ∀ (c : List Int) (x : Int), c.length = m → (stepV hit miss c x).1.length = m)
include hok hlen
theorem arr_ok (now : Int) : ∀ (pd : List (Int × Int)) (c : CoreF), c.Ok m → (∀ x ∈ pd, 0 ≤ x.1 ∧ x.1 ≤ 63) → (arrF hit miss now pd c).Ok m ∧ (arrF hit miss now pd c).us + (arrF hit miss now pd c).ms.length + (leftF now pd).length ≤ c.us + c.ms.length + pd.length ∧ c.us ≤ (arrF hit miss now pd c).us
 | [], c, h, _ => ⟨h, Int.le_refl _, Int.le_refl _⟩
 | x :: t, c, h, hp => by
  unfold arrF leftF
  by_cases hx : now < x.2
  ·rw [if_pos hx, List.filter_cons_of_pos (by simpa using hx)]
   obtain ⟨h1, h2, h3⟩ := arr_ok now t c h (fun y hy => hp y (List.mem_cons_of_mem _ hy))
   refine ⟨h1, ?_, h3⟩
   simp only [List.length_cons]
   have : leftF now t = t.filter (fun x => decide (now < x.2)) := rfl
   rw [← this]
   omega
  ·rw [if_neg hx, List.filter_cons_of_neg (by simpa using hx)]
   obtain ⟨h1, h2, h3⟩ := arr_ok now t (markF hit miss x.1 c) (mark_ok hok hlen h (hp x at0)) (fun y hy => hp y (List.mem_cons_of_mem _ hy))
   have h4 := mark_sum hit miss x.1 h.rising
   refine ⟨h1, ?_, Int.le_trans h4.2 h3⟩
   simp only [List.length_cons]
   have : leftF now t = t.filter (fun x => decide (now < x.2)) := rfl
   rw [← this]
   have := h4.1
   omega
end
theorem pend_sub (c : CoreF) (pd : List (Int × Int)) (line : Int) : (pendF c pd line).Sublist pd := by
 unfold pendF
 split
 ·exact List.Sublist.refl _
 ·split
  ·exact List.eraseIdx_sublist ..
  ·exact List.Sublist.refl _
theorem issue_le (due : Int) (cont : List Int) : ∀ (gs : List Int) (pd : List (Int × Int)) (n : Int), (∀ g ∈ gs, 0 ≤ g ∧ g ≤ 63) → (∀ x ∈ pd, 0 ≤ x.1 ∧ x.1 ≤ 63) →
  n ≤ (issueF due cont gs pd n).2 ∧ (issueF due cont gs pd n).2 ≤ n + gs.length ∧ ((issueF due cont gs pd n).1.length : Int) - pd.length = (issueF due cont gs pd n).2 - n ∧ ∀ x ∈ (issueF due cont gs pd n).1, 0 ≤ x.1 ∧ x.1 ≤ 63
 | [], pd, n, _, hp => ⟨Int.le_refl _, by simp [issueF], by simp [issueF], hp⟩
 | g :: t, pd, n, hg, hp => by
  unfold issueF
  simp only [List.length_cons]
  split
  ·obtain ⟨h1, h2, h3, h4⟩ := issue_le due cont t (pd ++ [(g, due)]) (n + 1) (fun y hy => hg y (List.mem_cons_of_mem _ hy)) (fun y hy => by
    rcases List.mem_append.1 hy with e | e
    ·exact hp y e
    ·rw [List.mem_singleton.1 e]; exact hg g at0)
   simp only [List.length_append, List.length_cons, List.length_nil] at h3
   exact ⟨by omega, by omega, by omega, h4⟩
  ·obtain ⟨h1, h2, h3, h4⟩ := issue_le due cont t pd n (fun y hy => hg y (List.mem_cons_of_mem _ hy)) hp
   exact ⟨h1, by omega, h3, h4⟩
structure FetchV.Bnd (k : Nat) (s : FetchV) : Prop where
 lines : ∀ x ∈ s.pd, 0 ≤ x.1 ∧ x.1 ≤ 63
 is : 0 ≤ s.is ∧ s.is ≤ 4 * k
 us : 0 ≤ s.c.us
 all : s.c.us + s.c.ms.length + s.pd.length ≤ s.is
 n0 : 0 ≤ s.n0 ∧ s.n0 ≤ k
 n1 : 0 ≤ s.n1 ∧ s.n1 ≤ k
 n2 : 0 ≤ s.n2 ∧ s.n2 ≤ k
 n3 : 0 ≤ s.n3 ∧ s.n3 ≤ k
 out : s.out.length = k
theorem start_okF (m : Nat) : (startF m).c.Ok m ∧ (startF m).Bnd 0 :=
 ⟨⟨by simp [startF], fun x hx => (by have : x = -1 := List.eq_of_mem_replicate hx; omega), List.Pairwise.nil, fun x hx => (by cases hx)⟩, ⟨fun x hx => (by cases hx), by simp [startF], by simp [startF], by simp [startF], by simp [startF], by simp [startF], by simp [startF], by simp [startF], rfl⟩⟩
theorem kindF_range (c : CoreF) (pd : List (Int × Int)) (line : Int) : kindF c pd line = 0 ∨ kindF c pd line = 1 ∨ kindF c pd line = 2 ∨ kindF c pd line = 3 := by
 unfold kindF
 split
 ·split <;> simp
 ·split <;> simp
section
variable {m : Nat} {hit : List (List Int)} {miss : List Int} (hok : ∀ (c : List Int) (x : Int), c.length = m → okStep hit miss c x = true) (hlen : ∀ (c : List Int) (x : Int), c.length = m → (stepV hit miss c x).1.length = m)
include hok hlen
theorem arrive_okF {s : FetchV} {k : Nat} (h : s.c.Ok m) (hb : s.Bnd k) (j : Nat) : (arriveF hit miss j s).c.Ok m ∧ (arriveF hit miss j s).Bnd k := by
 obtain ⟨h1, h2, h3⟩ := arr_ok hok hlen (j : Int) s.pd s.c h hb.lines
 refine ⟨h1, ⟨fun x hx => hb.lines x (List.mem_filter.1 hx).1, hb.is, Int.le_trans hb.us h3, ?_, hb.n0, hb.n1, hb.n2, hb.n3, hb.out⟩⟩
 exact Int.le_trans h2 hb.all
theorem take_okF {s : FetchV} {k : Nat} (h : s.c.Ok m) (hb : s.Bnd k) {line : Int} (hl : 0 ≤ line ∧ line ≤ 63) : (takeF hit miss line s).c.Ok m ∧ (takeF hit miss line s).Bnd (k + 1) := by
 have h1 := use_sum hit miss line h.rising
 have h2 := pend_sub s.c s.pd line
 have h3 := h2.length_le
 have a0 := hb.n0; have a1 := hb.n1; have a2 := hb.n2; have a3 := hb.n3; have a4 := hb.is; have a5 := hb.all; have a6 := hb.us
 refine ⟨use_ok hok hlen h hl, ⟨fun x hx => hb.lines x (h2.subset hx), ?_, Int.le_trans hb.us h1.2, ?_, ?_, ?_, ?_, ?_, ?_⟩⟩
 ·show 0 ≤ s.is ∧ s.is ≤ 4 * ((k + 1 : Nat) : Int)
  omega
 ·show (useF hit miss line s.c).us + (useF hit miss line s.c).ms.length + ((pendF s.c s.pd line).length : Int) ≤ s.is
  have := h1.1
  omega
 ·show 0 ≤ (if kindF s.c s.pd line = 0 then s.n0 + 1 else s.n0) ∧ (if kindF s.c s.pd line = 0 then s.n0 + 1 else s.n0) ≤ ((k + 1 : Nat) : Int)
  split <;> omega
 ·show 0 ≤ (if kindF s.c s.pd line = 1 then s.n1 + 1 else s.n1) ∧ (if kindF s.c s.pd line = 1 then s.n1 + 1 else s.n1) ≤ ((k + 1 : Nat) : Int)
  split <;> omega
 ·show 0 ≤ (if kindF s.c s.pd line = 2 then s.n2 + 1 else s.n2) ∧ (if kindF s.c s.pd line = 2 then s.n2 + 1 else s.n2) ≤ ((k + 1 : Nat) : Int)
  split <;> omega
 ·show 0 ≤ (if kindF s.c s.pd line = 3 then s.n3 + 1 else s.n3) ∧ (if kindF s.c s.pd line = 3 then s.n3 + 1 else s.n3) ≤ ((k + 1 : Nat) : Int)
  split <;> omega
 ·show (s.out ++ [_]).length = k + 1
  rw [List.length_append, hb.out]; rfl
end
theorem guess_okF {s : FetchV} {k m : Nat} (h : s.c.Ok m) (hb : s.Bnd (k + 1)) (h4 : s.is ≤ 4 * k) (due : Int) {gs : List Int} (hg : ∀ g ∈ gs, 0 ≤ g ∧ g ≤ 63) (hl : gs.length ≤ 4) : (guessF due gs s).c.Ok m ∧ (guessF due gs s).Bnd (k + 1) := by
 obtain ⟨h1, h2, h3, h5⟩ := issue_le due s.c.cont gs s.pd s.is hg hb.lines
 refine ⟨h, ⟨h5, ?_, hb.us, ?_, hb.n0, hb.n1, hb.n2, hb.n3, hb.out⟩⟩
 ·show 0 ≤ (issueF due s.c.cont gs s.pd s.is).2 ∧ (issueF due s.c.cont gs s.pd s.is).2 ≤ 4 * ((k + 1 : Nat) : Int)
  have := hb.is
  omega
 ·show s.c.us + s.c.ms.length + ((issueF due s.c.cont gs s.pd s.is).1.length : Int) ≤ (issueF due s.c.cont gs s.pd s.is).2
  have := hb.all
  omega
section
variable {m : Nat} {hit : List (List Int)} {miss : List Int} (hok : ∀ (c : List Int) (x : Int), c.length = m → okStep hit miss c x = true) (hlen : ∀ (c : List Int) (x : Int), c.length = m → (stepV hit miss c x).1.length = m)
include hok hlen
theorem one_okF {s : FetchV} {k : Nat} (h : s.c.Ok m) (hb : s.Bnd k) (delay : Int) (j : Nat) {x : Int × List Int} (hl : 0 ≤ x.1 ∧ x.1 ≤ 63) (hg : ∀ g ∈ x.2, 0 ≤ g ∧ g ≤ 63) (hgl : x.2.length ≤ 4) : (oneF hit miss delay j x s).c.Ok m ∧ (oneF hit miss delay j x s).Bnd (k + 1) := by
 obtain ⟨h1, h2⟩ := arrive_okF hok hlen h hb j
 obtain ⟨h3, h4⟩ := take_okF hok hlen h1 h2 hl
 exact guess_okF h3 h4 h2.is.2 _ hg hgl
theorem run_okF (delay : Int) : ∀ (t : List (Int × List Int)) (j : Nat) (s : FetchV), (∀ x ∈ t, (0 ≤ x.1 ∧ x.1 ≤ 63) ∧ (∀ g ∈ x.2, 0 ≤ g ∧ g ≤ 63) ∧ x.2.length ≤ 4) → s.c.Ok m → s.Bnd j → (runF hit miss delay j t s).c.Ok m ∧ (runF hit miss delay j t s).Bnd (j + t.length)
 | [], _, _, _, h, hb => ⟨h, hb⟩
 | x :: t, j, s, ht, h, hb => by
  obtain ⟨e1, e2, e3⟩ := ht x at0
  obtain ⟨h1, h2⟩ := one_okF hok hlen h hb delay j e1 e2 e3
  have := run_okF delay t (j + 1) _ (fun y hy => ht y (List.mem_cons_of_mem _ hy)) h1 h2
  rw [List.length_cons, show j + (t.length + 1) = j + 1 + t.length by omega]
  exact this
end
/-- The policy that replaces what has not been used for longest, as both programs tell it. -/
def lruHit (n : Nat) : List (List Int) := (List.range n).map (movedV n)
def lruMiss (n : Nat) : List Int := movedV n (n - 1)
theorem specLru_ev {n : Nat} (h1 : 1 ≤ n) (hn : n ≤ 6) : Ev (fun k => spec_l03Lru.f k (n : Int)) (lruHit n, lruMiss n) := by
 refine Ev.of (k := 20) (fun k => spec_l03Lru.mono _ k) ?_
 obtain h | h | h | h | h | h : n = 1 ∨ n = 2 ∨ n = 3 ∨ n = 4 ∨ n = 5 ∨ n = 6 := by omega
 all_goals subst h; decide +kernel
theorem specPut_ev (l : List Int) (x : Int) (h : l.length ≤ 1048576) : Ev (fun k => spec_l00Put.f k l x) (putR x l) := by
 unfold spec_l00Put.f
 have tail : ∀ d i (acc : List Int), l.length - i = d → i ≤ l.length → acc.length ≤ i + 1 → Ev (fun k => spec_l00Put.l0 k l x acc true (i : Int)) (acc ++ l.drop i) := by
  intro d
  induction d with
  | zero =>
   intro i acc hd hi ha
   refine Ev.succ ?_
   simp only [spec_l00Put.l0]
   refine Ev.neg (by omega) (Ev.pos (by simp) (Ev.some ?_))
   rw [List.drop_eq_nil_of_le (by omega), List.append_nil]
  | succ d ih =>
   intro i acc hd hi ha
   refine Ev.succ ?_
   simp only [spec_l00Put.l0]
   refine Ev.pos (by omega) (Ev.pos (by simp) (Ev.succ ?_))
   simp only [spec_l00Put.j1]
   have hrd : rd l (i : Int) = l.getD i 0 := rfl
   rw [drop_cons l i 0 (by omega), hrd, wrap_succ (show i < l.length by omega) (by omega)]
   refine Ev.neg (by simp) (Ev.pos (by omega) (Ev.pos (by omega) (Ev.pos (by omega) ?_)))
   have := ih (i + 1) (acc ++ [l.getD i 0]) (by omega) (by omega) (by simp; omega)
   simpa using this
 have key : ∀ d i (acc : List Int), l.length - i = d → i ≤ l.length → acc.length ≤ i → Ev (fun k => spec_l00Put.l0 k l x acc false (i : Int)) (acc ++ putR x (l.drop i)) := by
  intro d
  induction d with
  | zero =>
   intro i acc hd hi ha
   refine Ev.succ ?_
   simp only [spec_l00Put.l0]
   refine Ev.neg (by omega) (Ev.neg (by simp) (Ev.pos (by omega) (Ev.some ?_)))
   rw [List.drop_eq_nil_of_le (by omega)]; rfl
  | succ d ih =>
   intro i acc hd hi ha
   refine Ev.succ ?_
   simp only [spec_l00Put.l0]
   have hrd : rd l (i : Int) = l.getD i 0 := rfl
   refine Ev.pos (by omega) (Ev.neg (by simp) (Ev.pos (by omega) (Ev.succ ?_)))
   simp only [spec_l00Put.j1]
   rw [drop_cons l i 0 (by omega), hrd, wrap_succ (show i < l.length by omega) (by omega)]
   generalize hy : l.getD i 0 = y
   have ht := fun acc2 ha2 => tail (l.length - (i + 1)) (i + 1) acc2 rfl (by omega) ha2
   unfold putR
   by_cases h1 : y < x
   ·rw [if_pos h1, decide_eq_false (show ¬ y ≥ x by omega)]
    refine Ev.neg (by simp) (Ev.pos (by omega) (Ev.pos (by omega) (Ev.pos (by omega) ?_)))
    have := ih (i + 1) (acc ++ [y]) (by omega) (by omega) (by simp; omega)
    simpa using this
   ·rw [if_neg h1, decide_eq_true (show y ≥ x by omega)]
    refine Ev.pos rfl (Ev.pos (by omega) (Ev.pos (by omega) ?_))
    by_cases h2 : y = x
    ·rw [if_pos h2]
     refine Ev.neg (by omega) (Ev.pos (by omega) ?_)
     have := ht (acc ++ [y]) (by simp; omega)
     simpa using this
    ·rw [if_neg h2]
     refine Ev.pos (by omega) (Ev.pos (by omega) (Ev.bindc rfl (Ev.pos (by simp; omega) ?_)))
     have := ht ((acc ++ [x]) ++ [y]) (by simp; omega)
     simpa using this
 have := key l.length 0 [] (by omega) (by omega) (by simp)
 simpa using this
theorem follUp_range (t : List Int) (x : Int) (h : ∀ y ∈ t, 0 ≤ y ∧ y ≤ 63) : ∀ n, -1 ≤ follUp t x n ∧ follUp t x n ≤ 63
 | 0 => by simp [follUp]
 | n + 1 => by
  unfold follUp
  split
  ·have := rd_bound t ((n + 1 : Nat) : Int) h
   omega
  ·exact follUp_range t x h n
theorem pairGo_range (t : List Int) (line : Int) (h : ∀ y ∈ t, 0 ≤ y ∧ y ≤ 63) : ∀ (n : Nat) (out : List Int) (now : Int), (∀ g ∈ out, 0 ≤ g ∧ g ≤ 63) → ∀ g ∈ pairGo t line n out now, 0 ≤ g ∧ g ≤ 63
 | 0, out, now, ho => ho
 | n + 1, out, now, ho => by
  unfold pairGo
  have hf := follUp_range t now h (t.length - 1)
  have hf' : -1 ≤ follV t now ∧ follV t now ≤ 63 := hf
  split
  ·exact ho
  ·split
   ·exact ho
   ·split
    ·exact ho
    ·refine pairGo_range t line h n _ _ (fun g hg => ?_)
     rcases List.mem_append.1 hg with e | e
     ·exact ho g e
     ·rw [List.mem_singleton.1 e]
      omega
theorem stepGo_range (line by_ : Int) : ∀ (n : Nat) (out : List Int) (k : Int), (∀ g ∈ out, 0 ≤ g ∧ g ≤ 63) → ∀ g ∈ stepGo line by_ n out k, 0 ≤ g ∧ g ≤ 63
 | 0, out, k, ho => ho
 | n + 1, out, k, ho => by
  unfold stepGo
  split
  ·rename_i hh
   refine stepGo_range line by_ n _ _ (fun g hg => ?_)
   rcases List.mem_append.1 hg with e | e
   ·exact ho g e
   ·rw [List.mem_singleton.1 e]; exact hh
  ·exact ho
theorem guessAt_range (f0 f1 : Int) (l : List (S27)) (hv : (l.any xpLoad) = false) (i : Nat) : ∀ g ∈ guessAt f0 f1 l i, 0 ≤ g ∧ g ≤ 63 := by
 unfold guessAt
 split
 ·exact pairGo_range _ _ (linesL_ok _ _ (fun x hx => (okLoads_at l hv x (List.mem_of_mem_take hx)).2)) _ _ _ (fun g hg => by cases hg)
 ·have key : ∀ b : Int, ∀ g ∈ (if b = 0 then [] else stepGo (l.getD i z27).f1 b f1.toNat [] 1), 0 ≤ g ∧ g ≤ 63 := by
   intro b
   by_cases hb : b = 0
   ·rw [if_pos hb]
    exact fun g hg => absurd hg List.not_mem_nil
   ·rw [if_neg hb]
    exact stepGo_range _ _ _ _ _ (fun g hg => absurd hg List.not_mem_nil)
  exact key _
/-- The loads as the plain run takes them: each line, and the guesses behind it. -/
def itemF (a0 a1 : Int) (l : List (S27)) (i : Nat) : Int × List Int := ((l.getD i z27).f1, guessAt a0 a1 l i)
def itemsF (a0 a1 : Int) (l : List (S27)) : List (Int × List Int) := (List.range l.length).map (itemF a0 a1 l)
theorem itemsF_drop (a0 a1 : Int) (l : List (S27)) {i : Nat} (h : i < l.length) : (itemsF a0 a1 l).drop i = itemF a0 a1 l i :: (itemsF a0 a1 l).drop (i + 1) := by
 have hl : i < (itemsF a0 a1 l).length := by unfold itemsF; rw [List.length_map, List.length_range]; exact h
 rw [drop_cons _ i (0, []) hl]
 congr 1
 show ((List.range l.length).map (itemF a0 a1 l)).getD i (0, []) = _
 rw [List.getD_eq_getElem?_getD, List.getElem?_map, List.getElem?_range h]
 rfl
theorem itemsF_len (a0 a1 : Int) (l : List (S27)) : (itemsF a0 a1 l).length = l.length := by unfold itemsF; rw [List.length_map, List.length_range]
theorem itemF_ok (a0 : Int) {a1 : Int} {l : List (S27)} (hv : (l.any xpLoad) = false) (h1 : a1 ≤ 4) {i : Nat} (hi : i < l.length) : (0 ≤ (itemF a0 a1 l i).1 ∧ (itemF a0 a1 l i).1 ≤ 63) ∧ (∀ g ∈ (itemF a0 a1 l i).2, 0 ≤ g ∧ g ≤ 63) ∧ (itemF a0 a1 l i).2.length ≤ 4 :=
 ⟨(okLoads_at l hv _ (getD_mem l i z27 hi)).2, guessAt_range a0 a1 l hv i, guessAt_length a0 a1 l i h1⟩
theorem itemsF_ok (a0 : Int) {a1 : Int} {l : List (S27)} (hv : (l.any xpLoad) = false) (h1 : a1 ≤ 4) : ∀ x ∈ itemsF a0 a1 l, (0 ≤ x.1 ∧ x.1 ≤ 63) ∧ (∀ g ∈ x.2, 0 ≤ g ∧ g ≤ 63) ∧ x.2.length ≤ 4 := by
 intro x hx
 obtain ⟨i, hi, rfl⟩ := List.mem_map.1 hx
 exact itemF_ok a0 hv h1 (List.mem_range.1 hi)
theorem runF_drop (hit : List (List Int)) (miss : List Int) (delay a0 a1 : Int) (l : List (S27)) {i : Nat} (h : i < l.length) (s : FetchV) : runF hit miss delay i ((itemsF a0 a1 l).drop i) s = runF hit miss delay (i + 1) ((itemsF a0 a1 l).drop (i + 1)) (oneF hit miss delay i (itemF a0 a1 l i) s) := by
 rw [itemsF_drop a0 a1 l h]; rfl
theorem issueF_app (due : Int) (cont : List Int) : ∀ (l r : List Int) (pd : List (Int × Int)) (n : Int), issueF due cont (l ++ r) pd n = issueF due cont r (issueF due cont l pd n).1 (issueF due cont l pd n).2
 | [], _, _, _ => rfl
 | g :: t, r, pd, n => by
  rw [List.cons_append, issueF, issueF]
  split
  ·exact issueF_app due cont t r _ _
  ·exact issueF_app due cont t r _ _
theorem pref_facts {a0 a1 a2 a3 : Int} (h : okPref a0 a1 a2 a3 = true) : (0 ≤ a1 ∧ a1 ≤ 4) ∧ (0 ≤ a2 ∧ a2 ≤ 8) ∧ (1 ≤ a3 ∧ a3 ≤ 6) := by
 simp only [okPref, Bool.and_eq_true, decide_eq_true_eq] at h
 omega
/-- The run, whole; the tally it tells. -/
def endF (a0 a1 a2 a3 : Int) (l : List (S27)) : FetchV := runF (lruHit a3.toNat) (lruMiss a3.toNat) a2 0 (itemsF a0 a1 l) (startF a3.toNat)
def uselessF (s : FetchV) : Int := s.c.us + ((s.c.ms.length : Int) + (s.pd.length : Int))
def okFetch (a0 a1 a2 a3 : Int) (l : List (S27)) : Bool := okPref a0 a1 a2 a3 && (decide (l.length ≤ 60) && !(l.any xpLoad))
def fetchR (a0 a1 a2 a3 : Int) (l : List (S27)) : List Int × Int × Int × Int × Int × Int × Int := ((endF a0 a1 a2 a3 l).out, (endF a0 a1 a2 a3 l).n0, (endF a0 a1 a2 a3 l).n1, (endF a0 a1 a2 a3 l).n2, (endF a0 a1 a2 a3 l).n3, (endF a0 a1 a2 a3 l).is, uselessF (endF a0 a1 a2 a3 l))
theorem lru_validF {n : Nat} (h1 : 1 ≤ n) (hn : n ≤ 6) : (∀ (c : List Int) (x : Int), c.length = n → okStep (lruHit n) (lruMiss n) c x = true) ∧ (∀ (c : List Int) (x : Int), c.length = n → (stepV (lruHit n) (lruMiss n) c x).1.length = n) ∧ (lruHit n).length = n ∧ (lruMiss n).length = n := by
 have hm : ∀ i, i < n → (movedV n i).length = n ∧ ∀ x ∈ movedV n i, 0 ≤ x ∧ x < (n : Int) := by
  obtain h | h | h | h | h | h : n = 1 ∨ n = 2 ∨ n = 3 ∨ n = 4 ∨ n = 5 ∨ n = 6 := by omega
  all_goals subst h; decide +kernel
 have hhl : (lruHit n).length = n := by unfold lruHit; rw [List.length_map, List.length_range]
 have hord : ∀ (c : List Int) (x : Int), c.length = n → (stepOrd (lruHit n) (lruMiss n) c x).length = n ∧ ∀ y ∈ stepOrd (lruHit n) (lruMiss n) c x, 0 ≤ y ∧ y < (n : Int) := by
  intro c x hc
  unfold stepOrd
  by_cases h0 : 0 ≤ ageOf c x
  ·rw [if_pos h0]
   have h2 : (ageOf c x).toNat < n := by
    have := xIdx_ge (fun y => decide (y = x)) c 0
    have : ageOf c x = -1 ∨ 0 ≤ ageOf c x ∧ ageOf c x < 0 + c.length := this
    omega
   have e : (lruHit n).getD (ageOf c x).toNat [] = movedV n (ageOf c x).toNat := by
    unfold lruHit
    rw [List.getD_eq_getElem?_getD, List.getElem?_map, List.getElem?_range h2]; rfl
   rw [e]
   exact hm _ h2
  ·rw [if_neg h0]
   exact hm (n - 1) (by omega)
 refine ⟨fun c x hc => ?_, fun c x hc => ?_, hhl, (hm (n - 1) (by omega)).1⟩
 ·have ho := hord c x hc
  have ha := xIdx_ge (fun y => decide (y = x)) c 0
  have ha' : ageOf c x = -1 ∨ 0 ≤ ageOf c x ∧ ageOf c x < 0 + c.length := ha
  simp only [okStep, Bool.and_eq_true, decide_eq_true_eq, List.all_eq_true]
  have hol : (stepOld c x).length = n := (stepOld_length c x).trans hc
  refine ⟨⟨by omega, by omega⟩, by omega, by omega, fun j hj => ?_⟩
  have := ho.2 j hj
  omega
 ·show ((stepOrd (lruHit n) (lruMiss n) c x).map _).length = n
  rw [List.length_map]
  exact (hord c x hc).1
theorem dropM_app (l r : List Int) (x : Int) : dropM (l ++ r) x = dropM l x ++ dropM r x := List.filter_append ..
theorem dropM_one {x y : Int} (h : y = x) : dropM [y] x = [] := by subst h; simp [dropM]
theorem dropM_one_not {x y : Int} (h : ¬ y = x) : dropM [y] x = [y] := by simp [dropM, h]
set_option maxHeartbeats 4000000 in
set_option maxRecDepth 100000 in
theorem unmark_calls {w0 w : World} {R : List (Thing × Nat × Nat)} {g km lm hm : Nat} {KM : Option Addr} {v0 v1 v2 v3 v4 v6 v7 v8 v9 v10 : Value} {ms : List Int} {us line : Int} {b : Bool} (h : Hold w0 w ((boxT #[v0, v1, v2, v3, v4, .slice KM ms.length km, v6, v7, v8, v9, v10, .int .i64 us] 125, g, g + 1) :: (flat (Kd.int .i64) 2 (.slice KM ms.length km) ms, lm, hm) :: R)) (hl : ms.length ≤ 1000) (hus : 0 ≤ us ∧ us ≤ 1048576) :
  Calls Try.prog 93 #[.pointer (some ⟨g, 0, none⟩), .int .i64 line, .bool b] w fun e w' => e = .returned (.tuple #[]) ∧ ∃ KM2 km2 lm2 hm2, Hold w0 w' ((boxT #[v0, v1, v2, v3, v4, .slice KM2 (unmarkF line b ms us).1.length km2, v6, v7, v8, v9, v10, .int .i64 (unmarkF line b ms us).2] 125, g, g + 1) :: (flat (Kd.int .i64) 2 (.slice KM2 (unmarkF line b ms us).1.length km2) ((unmarkF line b ms us).1), lm2, hm2) :: R) := by
 have HS := h
 clear h
 have HL := Aside0.mk hl
 have HUS := Aside0.mk hus
 have u1 := hus.1
 have u2 := hus.2
 have EV := Aside0.mk (specHas_ev ms line (by omega))
 obtain ⟨bb, hbb⟩ : ∃ bb, hasF ms line = bb := ⟨_, rfl⟩
 have HBB := Aside0.mk hbb
 rw [show (ms.any fun y => decide (y = line)) = bb from hbb] at EV
 clear hbb hl hus
 go_enter Try.func93, Try.ntmps93
 have q5 : w.cell? ⟨g, 5, none⟩ = some (.slice KM ms.length km) := HS.cell at0 5 _ rfl
 have fzq : ∀ j, w.frozen? ⟨g, j, none⟩ = false := HS.thaw at0
 go_wp2_with fail
 clear q5 fzq
 refine (spec_l00Has.calls (Ev.num EV.out) _ _ ms line bb _ (HS.reads' at1).2.2 (HS.reads' at1).2.1 (Ev.is EV.out)).mono ?_
 rintro e w1 ⟨rfl, hb⟩
 clear EV
 replace HS := HS.step (by first | exact hb | exact hb.below)
 clear hb
 cases bb
 ·go_wp2_with fail
  (try simp only [Exit.inBlock, Exit.then]); first | refine bodyPost_ret (results_none rfl _ _ _) rfl ?_ | refine bodyPost_end (results_none rfl _ _ _) rfl ?_
  refine ⟨rfl, KM, km, lm, hm, ?_⟩
  rw [show unmarkF line b ms us = (ms, us) from if_neg (by rw [HBB.out]; simp)]
  exact HS
 ·go_wp2_with fail
  replace HS := HS.empty (Kd.int .i64) 2
  generalize w1.alloc (.cells #[] 2) = w2 at HS ⊢
  generalize w1.heap.size = bo at HS ⊢
  have H0 := Aside0.mk HS
  clear HS
  go_loopg [6, 7] ms.length (fun gg s6 s7 wr => ∃ (kk : Nat) (A : Option Addr) (c lo hi : Nat), kk ≤ ms.length ∧ ms.length - kk ≤ gg ∧ s6 = .slice A (dropM (ms.take kk) line).length c ∧ s7 = .int .i64 kk ∧ Aside0 (Hold w0 wr ((flat (Kd.int .i64) 2 (.slice A (dropM (ms.take kk) line).length c) (dropM (ms.take kk) line), lo, hi) :: (boxT #[v0, v1, v2, v3, v4, .slice KM ms.length km, v6, v7, v8, v9, v10, .int .i64 us] 125, g, g + 1) :: (flat (Kd.int .i64) 2 (.slice KM ms.length km) ms, lm, hm) :: R)))
  case atStart => exact ⟨0, _, _, _, _, Nat.zero_le _, Nat.le_refl _, rfl, rfl, H0⟩
  case round =>
   clear H0
   obtain ⟨kk, A, c, lo, hi, hkk, hg_, rfl, rfl, HSS⟩ := hrel
   have HS := HSS.out
   clear HSS
   by_cases hlt : kk < ms.length
   ·have hltz : (kk : Int) < (ms.length : Int) := by omega
    have hk0 : (0 : Int) ≤ kk := Int.natCast_nonneg kk
    obtain ⟨bm_, bm_c, e_, _, _⟩ := HS.row_form at2 (by omega)
    injection e_ with e1_ _ e3_
    subst e1_ e3_
    have ry := (HS.cellI at2 (kk : Int) (Int.natCast_nonneg _) (by exact Int.ofNat_lt.2 hlt)).1
    rw [Int.toNat_natCast] at ry
    have hT := take_succ ms kk 0 hlt
    obtain ⟨y, hy⟩ : ∃ y, ms.getD kk 0 = y := ⟨_, rfl⟩
    rw [hy] at ry hT
    have HT := Aside0.mk hT
    clear hy hT
    obtain ⟨e0, he0⟩ : ∃ e0, (y == line) = e0 := ⟨_, rfl⟩
    have he1 : (y != line) = !e0 := by rw [← he0]; rfl
    have HE0 := Aside0.mk he0
    have wk := wrap_succ hlt (by have := HL.out; omega)
    have q5 : wr.cell? ⟨g, 5, none⟩ = some (.slice (some ⟨bm_, 0, none⟩) ms.length km) := HS.cell at1 5 _ rfl
    have fzq : ∀ j, wr.frozen? ⟨g, j, none⟩ = false := HS.thaw at1
    cases e0
    ·go_wp2_with ((with_reducible refine gate_builtin (b := .append) (xs := #[.tmp 34, .tmp 42]) rfl ?_); at_builtin; refine Hold.appendI HS rfl (.tmp 34) (.tmp 42) 30 2 rfl Try.underlying30 svInfo (.slice A (dropM (ms.take kk) line).length c) (dropM (ms.take kk) line) y rfl rfl at0 (by have := dropM_le (ms.take kk) line; have := List.length_take_le kk ms; have := HL.out; omega) ?_; intro A2 c2 lo2 hi2 w3 HQ; clear q5 fzq ry; replace HS := HQ _ .here; clear HQ)
     have HF := Aside0.mk HS
     clear HS
     have HN : dropM (ms.take (kk + 1)) line = (dropM (ms.take kk) line ++ [y]) := by rw [HT.out, dropM_app, dropM_one_not (by have := HE0.out; simpa using this)]
     have HN2 : (dropM (ms.take kk) line).length + 1 = (dropM (ms.take kk) line ++ [y]).length := by simp
     go_roundg (ms.length - (kk + 1))
     case measure => omega
     case rel => exact ⟨kk + 1, A2, c2, lo2, hi2, hlt, Nat.le_refl _, by rw [HN, ← HN2], by first | rfl | (rw [wk]), ⟨by rw [HN, ← HN2]; exact HF.out⟩⟩
    ·go_wp2_with fail
     have HF := Aside0.mk HS
     clear HS
     have HN : dropM (ms.take (kk + 1)) line = dropM (ms.take kk) line := by rw [HT.out, dropM_app, dropM_one (by have := HE0.out; simpa using this), List.append_nil]
     go_roundg (ms.length - (kk + 1))
     case measure => omega
     case rel => exact ⟨kk + 1, A, c, lo, hi, hlt, Nat.le_refl _, by rw [HN], by first | rfl | (rw [wk]), ⟨by rw [HN]; exact HF.out⟩⟩
   ·obtain rfl : kk = ms.length := by omega
    have hltz : ¬ ((ms.length : Nat) : Int) < (ms.length : Int) := by omega
    rw [List.take_length] at HS ⊢
    have q5 : wr.cell? ⟨g, 5, none⟩ = some (.slice KM ms.length km) := HS.cell at1 5 _ rfl
    have fzq : ∀ j, wr.frozen? ⟨g, j, none⟩ = false := HS.thaw at1
    cases b
    ·go_wp2_with fail
     clear q5 fzq
     replace HS := HS.setBox 5 (.slice A (dropM ms line).length c) (.there .here)
     simp only [List.setIfInBounds_toArray, List.set_cons_zero, List.set_cons_succ] at HS
     generalize wr.setCell ⟨g, 5, none⟩ (.slice A (dropM ms line).length c) = w5 at HS ⊢
     replace HS := HS.pick tk2
     replace HS := HS.tail
     replace HS := HS.pick tk1
     (try simp only [Exit.inBlock, Exit.then]); first | refine bodyPost_ret (results_none rfl _ _ _) rfl ?_ | refine bodyPost_end (results_none rfl _ _ _) rfl ?_
     refine ⟨rfl, A, c, lo, hi, ?_⟩
     rw [show unmarkF line false ms us = (dropM ms line, us) from if_pos HBB.out]
     exact HS
    ·go_upto_region 9 with fail
     clear q5 fzq
     replace HS := HS.setBox 5 (.slice A (dropM ms line).length c) (.there .here)
     simp only [List.setIfInBounds_toArray, List.set_cons_zero, List.set_cons_succ] at HS
     generalize wr.setCell ⟨g, 5, none⟩ (.slice A (dropM ms line).length c) = w5 at HS ⊢
     have q11 : w5.cell? ⟨g, 11, none⟩ = some (.int .i64 us) := HS.cell at1 11 _ rfl
     have fzq : ∀ j, w5.frozen? ⟨g, j, none⟩ = false := HS.thaw at1
     go_wp2_with fail
     clear q11 fzq
     replace HS := HS.setBox 11 (.int .i64 (us + 1)) (.there .here)
     simp only [List.setIfInBounds_toArray, List.set_cons_zero, List.set_cons_succ] at HS
     generalize w5.setCell ⟨g, 11, none⟩ (.int .i64 (us + 1)) = w6 at HS ⊢
     replace HS := HS.pick tk2
     replace HS := HS.tail
     replace HS := HS.pick tk1
     (try simp only [Exit.inBlock, Exit.then]); first | refine bodyPost_ret (results_none rfl _ _ _) rfl ?_ | refine bodyPost_end (results_none rfl _ _ _) rfl ?_
     refine ⟨rfl, A, c, lo, hi, ?_⟩
     rw [show unmarkF line true ms us = (dropM ms line, us + 1) from if_pos HBB.out]
     exact HS
theorem preF_w {m : Nat} (h0 : 1 ≤ m) (h1 : m ≤ 6) : wrap64 ((m : Int) - 1) = ((m - 1 : Nat) : Int) ∧ (((m - 1 : Nat) : Int) < (m : Int)) ∧ ((0 : Int) ≤ ((m - 1 : Nat) : Int)) :=
 ⟨by rw [wrap_id (by omega) (by omega)]; omega, by omega, by omega⟩
set_option maxHeartbeats 4000000 in
set_option maxRecDepth 100000 in
theorem put_calls {w0 w : World} {R : List (Thing × Nat × Nat)} {g m bk kc lk hk km lm hm : Nat} {KM : Option Addr} {A0 : Option Addr} {c0 : Nat} {l0 : List (List Int)} {A1 : Option Addr} {c1 : Nat} {l1 : List Int} {v3 v4 v6 v7 v8 v9 v10 : Value} {c : CoreF} {line : Int} (h : Hold w0 w ((boxT #[.slice A0 l0.length c0, .slice A1 l1.length c1, .slice (some ⟨bk, 0, none⟩) m kc, v3, v4, .slice KM c.ms.length km, v6, v7, v8, v9, v10, .int .i64 c.us] 125, g, g + 1) :: (flat (Kd.int .i64) 2 (.slice (some ⟨bk, 0, none⟩) m kc) c.cont, lk, hk) :: (flat (Kd.int .i64) 2 (.slice KM c.ms.length km) c.ms, lm, hm) :: R)) (hr0 : Rd w0 R (Kd.slice 2 (Kd.int .i64)) A0 l0) (hc0 : l0.length ≤ c0) (hr1 : Rd w0 R (Kd.int .i64) A1 l1) (hc1 : l1.length ≤ c1) (hml : c.ms.length ≤ 1000) (hus : 0 ≤ c.us ∧ c.us ≤ 1048576) (hm1 : 1 ≤ m ∧ m ≤ 6) (hok : okStep l0 l1 c.cont line = true) (hsl : (stepV l0 l1 c.cont line).1.length = m) :
  Calls Try.prog 92 #[.pointer (some ⟨g, 0, none⟩), .int .i64 line] w fun e w' => e = .returned (.tuple #[]) ∧ ∃ bk2 kc2 lk2 hk2 KM2 km2 lm2 hm2, Hold w0 w' ((boxT #[.slice A0 l0.length c0, .slice A1 l1.length c1, .slice (some ⟨bk2, 0, none⟩) m kc2, v3, v4, .slice KM2 (putF l0 l1 line c).ms.length km2, v6, v7, v8, v9, v10, .int .i64 (putF l0 l1 line c).us] 125, g, g + 1) :: (flat (Kd.int .i64) 2 (.slice (some ⟨bk2, 0, none⟩) m kc2) ((putF l0 l1 line c).cont), lk2, hk2) :: (flat (Kd.int .i64) 2 (.slice KM2 (putF l0 l1 line c).ms.length km2) ((putF l0 l1 line c).ms), lm2, hm2) :: R) := by
 have HS := h
 clear h
 have HR0 := Aside0.mk hr0
 have HC0 := Aside0.mk hc0
 have HR1 := Aside0.mk hr1
 have HC1 := Aside0.mk hc1
 have HML := Aside0.mk hml
 have HUS := Aside0.mk hus
 have HM1 := Aside0.mk hm1
 have HOK := Aside0.mk hok
 have HSL := Aside0.mk hsl
 have HCM := Aside0.mk (HS.reads' at1).1
 have EV := Aside0.mk (specHas_ev c.cont line (by have := HCM.out; omega))
 obtain ⟨bb, hbb⟩ : ∃ bb, hasF c.cont line = bb := ⟨_, rfl⟩
 have HBB := Aside0.mk hbb
 rw [show (c.cont.any fun y => decide (y = line)) = bb from hbb] at EV
 clear hbb hr0 hc0 hr1 hc1 hml hus hm1 hok hsl
 replace HS := HS.pick tk1
 replace HS := HS.pick tk2
 replace HS := HS.pick tk2
 go_enter Try.func92, Try.ntmps92
 have q2 : w.cell? ⟨g, 2, none⟩ = some (.slice (some ⟨bk, 0, none⟩) m kc) := HS.cell at0 2 _ rfl
 have fzq : ∀ j, w.frozen? ⟨g, j, none⟩ = false := HS.thaw at0
 go_wp2_with fail
 clear q2 fzq
 refine (show Calls _ _ #[.slice (some ⟨bk, 0, none⟩) m kc, .int .i64 line] _ _ from HCM.out ▸ spec_l00Has.calls (Ev.num EV.out) _ _ c.cont line bb _ (HS.reads' at2).2.2 (HS.reads' at2).2.1 (Ev.is EV.out)).mono ?_
 rintro e w1 ⟨rfl, hb⟩
 clear EV
 replace HS := HS.step (by first | exact hb | exact hb.below)
 clear hb
 cases bb
 ·obtain ⟨w1_, ba', bb'⟩ := preF_w HM1.out.1 HM1.out.2
  have ba := eq_true ba'
  have bb_ := eq_true bb'
  clear ba' bb'
  obtain ⟨old, hold⟩ : ∃ old, lastF c.cont = old := ⟨_, rfl⟩
  have HOLD := Aside0.mk hold
  clear hold
  go_wp2_with fail
  have HD := Hold.drew HS
  refine start_ (n := 14) (S := fun w' => w'.cell? ⟨g, 2, none⟩ = some (.slice (some ⟨bk, 0, none⟩) m kc) ∧ w'.cell? ⟨bk, m - 1, none⟩ = some (.int .i64 old)) (ds := []) #[false, false, false, false, false, false, false, false, false, false, false, false, false, false] (by kernel_rfl) rfl rfl ⟨(HD.cell at0 2 _ rfl), (by have := (HD.cellI at2 ((m - 1 : Nat) : Int) (Int.natCast_nonneg _) (by have := HCM.out; have := HM1.out; omega)).1; rw [Int.toNat_natCast] at this; rw [this]; congr 2; rw [← HOLD.out]; unfold lastF; rw [HCM.out])⟩ (fun hHeld => ?_)
  generalize w1.drew = wd at HD hHeld ⊢
  refine pu_ (i := 0) (N := some 11) (h := ?_)
  refine pu_ (i := 1) (N := some 12) (h := ?_)
  refine pu_ (i := 2) (N := some 13) (h := ?_)
  refine pu_ (i := 3) (N := some 14) (h := ?_)
  refine pu_ (i := 5) (N := some 16) (h := ?_)
  refine pu_ (i := 6) (N := some 17) (h := ?_)
  refine pu_ (i := 7) (N := some 18) (h := ?_)
  refine ta_ (i := 4) (N := some 15) (hS := hHeld) (hy := by rintro w' ⟨s0, s1⟩; go_simp; with_reducible rfl) (h := ?_)
  refine ta_ (i := 8) (N := some 19) (hS := hHeld) (hy := by rintro w' ⟨s0, s1⟩; go_simp; with_reducible rfl) (h := ?_)
  refine pu_ (i := 9) (N := some 20) (h := ?_)
  refine pu_ (i := 10) (N := some 21) (h := ?_)
  refine pu_ (i := 11) (N := some 22) (h := ?_)
  refine ta_ (i := 12) (N := some 23) (hS := hHeld) (hy := by rintro w' ⟨s0, s1⟩; go_simp; with_reducible rfl) (h := ?_)
  refine one_ (i := 13) (N := some 24) #[true, true, true, true, true, true, true, true, true, true, true, true, true, true] rfl rfl (by kernel_rfl) (by decide) (fun K hK => ?_)
  refine goes_ Try.func93 (by kernel_rfl) rfl #[.pointer (some ⟨g, 0, none⟩), .int .i64 old, .bool true] (by rfl) rfl rfl (by simp only [List.map_toArray, List.map_cons, List.map_nil]; rfl) ?_
  with_reducible refine (unmark_calls HD HML.out HUS.out).mono ?_
  rintro e w3 ⟨rfl, KM2, km2, lm2, hm2, HQ⟩
  refine ⟨_, rfl, ?_⟩
  replace HD := HQ
  clear HQ
  have s0_ : w3.cell? ⟨g, 2, none⟩ = some (.slice (some ⟨bk, 0, none⟩) m kc) := HD.cell at0 2 _ rfl
  have s1_ : w3.cell? ⟨bk, m - 1, none⟩ = some (.int .i64 old) := (by have := (HD.cellI at2 ((m - 1 : Nat) : Int) (Int.natCast_nonneg _) (by have := HCM.out; have := HM1.out; omega)).1; rw [Int.toNat_natCast] at this; rw [this]; congr 2; rw [← HOLD.out]; unfold lastF; rw [HCM.out])
  refine hK.out _ _ ⟨s0_, s1_⟩ (fun hHeld => ?_)
  clear hK K
  refine norm_ (a' := ?_) ?_ ?_
  rotate_left
  ·show Act.put _ (some 24) _ = _
   simp only [Act.put, List.setIfInBounds_toArray, List.set_cons_zero, List.set_cons_succ, i64_w, i32_w]
   rfl
  refine done_ (by kernel_rfl) ?_
  clear hHeld s0_ s1_
  replace HS := HD
  clear HD
  clear w1_ ba bb_
  go_wp2_with fail
  have HD := Hold.drew HS
  refine start_ (n := 16) (S := fun w' => w'.cell? ⟨g, 2, none⟩ = some (.slice (some ⟨bk, 0, none⟩) m kc)) (ds := [15]) #[false, false, false, false, false, false, false, false, false, false, false, false, false, false, false, false] (by kernel_rfl) rfl rfl ((HD.cell at0 2 _ rfl)) (fun hHeld => ?_)
  generalize w3.drew = wd at HD hHeld ⊢
  refine pu_ (i := 0) (N := some 26) (h := ?_)
  refine pu_ (i := 1) (N := some 27) (h := ?_)
  refine pu_ (i := 2) (N := some 28) (h := ?_)
  refine pu_ (i := 3) (N := some 29) (h := ?_)
  refine pu_ (i := 4) (N := some 30) (h := ?_)
  refine pu_ (i := 5) (N := some 31) (h := ?_)
  refine pu_ (i := 6) (N := some 32) (h := ?_)
  refine pu_ (i := 8) (N := some 34) (h := ?_)
  refine ta_ (i := 7) (N := some 33) (hS := hHeld) (hy := by intro w' s0; go_simp; with_reducible rfl) (h := ?_)
  refine one_ (i := 9) (N := some 35) #[true, true, true, true, true, true, true, true, true, true, false, false, false, false, false, false] rfl rfl (by kernel_rfl) (by decide) (fun K hK => ?_)
  refine goes_ Try.func125 (by kernel_rfl) rfl #[.pointer (some ⟨g, 0, none⟩), .slice (some ⟨bk, 0, none⟩) m kc, .int .i64 line] (by rfl) rfl rfl (by simp only [List.map_toArray, List.map_cons, List.map_nil]; rfl) ?_
  with_reducible refine (show Calls _ _ #[.pointer (some ⟨g, 0, none⟩), .slice (some ⟨bk, 0, none⟩) m kc, .int .i64 line] _ _ from HCM.out ▸ spec_l03Step.gen g A0 c0 l0 A1 c1 l1 (some ⟨bk, 0, none⟩) kc c.cont line _ _ 125 0 rfl rfl (HD.blk at0) (HR0.out.at HD (fun _ hx_ => (in3 hx_))) HC0.out (HR1.out.at HD (fun _ hx_ => (in3 hx_))) HC1.out (HD.reads' at2).2.2 (HD.reads' at2).2.1 HOK.out).mono ?_
  rintro e w5 ⟨v_, rfl, hr, hb⟩
  refine ⟨_, rfl, ?_⟩
  replace HD := HD.made hb hr
  clear hb hr
  obtain ⟨bk2, kc2, rfl, _, _⟩ := HD.row_form at0 (by rw [HSL.out]; have := HM1.out; omega)
  rw [HSL.out] at HD ⊢
  have s0_ : w5.cell? ⟨g, 2, none⟩ = some (.slice (some ⟨bk, 0, none⟩) m kc) := HD.cell at1 2 _ rfl
  have fz_ : ∀ j, w5.frozen? ⟨g, j, none⟩ = false := HD.thaw at1
  refine hK.out _ _ (s0_) (fun hHeld => ?_)
  clear hK K
  refine norm_ (a' := ?_) ?_ ?_
  rotate_left
  ·show Act.put _ (some 35) _ = _
   simp only [Act.put, List.setIfInBounds_toArray, List.set_cons_zero, List.set_cons_succ, i64_w, i32_w]
   rfl
  refine pu_ (i := 10) (N := some 25) (h := ?_)
  refine pu_ (i := 11) (N := some 36) (h := ?_)
  refine pu_ (i := 12) (N := some 37) (h := ?_)
  refine pu_ (i := 13) (N := some 38) (h := ?_)
  refine pu_ (i := 14) (N := some 39) (h := ?_)
  refine last_ (i := 15) (N := none) #[true, true, true, true, true, true, true, true, true, true, true, true, true, true, true, true] rfl rfl (by kernel_rfl) (by decide) (fun K hK => ?_)
  refine skip_ (w1 := ?_) (by rfl) rfl ?_ ?_
  rotate_left
  ·go_simp
   rfl
  refine hK.out _ _ ?_
  clear hK K
  refine done_ (by kernel_rfl) ?_
  clear hHeld s0_ fz_
  replace HS := HD
  clear HD
  replace HS := HS.setBox 2 (.slice (some ⟨bk2, 0, none⟩) m kc2) (.there .here)
  simp only [List.setIfInBounds_toArray, List.set_cons_zero, List.set_cons_succ] at HS
  generalize w5.setCell ⟨g, 2, none⟩ (.slice (some ⟨bk2, 0, none⟩) m kc2) = w5b at HS ⊢
  replace HS := HS.pick tk3
  replace HS := HS.tail
  replace HS := HS.pick tk2
  replace HS := HS.pick tk1
  replace HS := HS.pick tk2
  (try simp only [Exit.inBlock, Exit.then]); first | refine bodyPost_ret (results_none rfl _ _ _) rfl ?_ | refine bodyPost_end (results_none rfl _ _ _) rfl ?_
  rw [show putF l0 l1 line c = ⟨(stepV l0 l1 c.cont line).1, (unmarkF old true c.ms c.us).1, (unmarkF old true c.ms c.us).2⟩ from by rw [← HOLD.out]; exact if_neg (by rw [HBB.out]; simp)]
  exact ⟨rfl, bk2, kc2, _, _, KM2, km2, lm2, hm2, HS⟩
 ·go_wp2_with fail
  have HD := Hold.drew HS
  refine start_ (n := 16) (S := fun w' => w'.cell? ⟨g, 2, none⟩ = some (.slice (some ⟨bk, 0, none⟩) m kc)) (ds := [15]) #[false, false, false, false, false, false, false, false, false, false, false, false, false, false, false, false] (by kernel_rfl) rfl rfl ((HD.cell at0 2 _ rfl)) (fun hHeld => ?_)
  generalize w1.drew = wd at HD hHeld ⊢
  refine pu_ (i := 0) (N := some 26) (h := ?_)
  refine pu_ (i := 1) (N := some 27) (h := ?_)
  refine pu_ (i := 2) (N := some 28) (h := ?_)
  refine pu_ (i := 3) (N := some 29) (h := ?_)
  refine pu_ (i := 4) (N := some 30) (h := ?_)
  refine pu_ (i := 5) (N := some 31) (h := ?_)
  refine pu_ (i := 6) (N := some 32) (h := ?_)
  refine pu_ (i := 8) (N := some 34) (h := ?_)
  refine ta_ (i := 7) (N := some 33) (hS := hHeld) (hy := by intro w' s0; go_simp; with_reducible rfl) (h := ?_)
  refine one_ (i := 9) (N := some 35) #[true, true, true, true, true, true, true, true, true, true, false, false, false, false, false, false] rfl rfl (by kernel_rfl) (by decide) (fun K hK => ?_)
  refine goes_ Try.func125 (by kernel_rfl) rfl #[.pointer (some ⟨g, 0, none⟩), .slice (some ⟨bk, 0, none⟩) m kc, .int .i64 line] (by rfl) rfl rfl (by simp only [List.map_toArray, List.map_cons, List.map_nil]; rfl) ?_
  with_reducible refine (show Calls _ _ #[.pointer (some ⟨g, 0, none⟩), .slice (some ⟨bk, 0, none⟩) m kc, .int .i64 line] _ _ from HCM.out ▸ spec_l03Step.gen g A0 c0 l0 A1 c1 l1 (some ⟨bk, 0, none⟩) kc c.cont line _ _ 125 0 rfl rfl (HD.blk at0) (HR0.out.at HD (fun _ hx_ => (in3 hx_))) HC0.out (HR1.out.at HD (fun _ hx_ => (in3 hx_))) HC1.out (HD.reads' at2).2.2 (HD.reads' at2).2.1 HOK.out).mono ?_
  rintro e w5 ⟨v_, rfl, hr, hb⟩
  refine ⟨_, rfl, ?_⟩
  replace HD := HD.made hb hr
  clear hb hr
  obtain ⟨bk2, kc2, rfl, _, _⟩ := HD.row_form at0 (by rw [HSL.out]; have := HM1.out; omega)
  rw [HSL.out] at HD ⊢
  have s0_ : w5.cell? ⟨g, 2, none⟩ = some (.slice (some ⟨bk, 0, none⟩) m kc) := HD.cell at1 2 _ rfl
  have fz_ : ∀ j, w5.frozen? ⟨g, j, none⟩ = false := HD.thaw at1
  refine hK.out _ _ (s0_) (fun hHeld => ?_)
  clear hK K
  refine norm_ (a' := ?_) ?_ ?_
  rotate_left
  ·show Act.put _ (some 35) _ = _
   simp only [Act.put, List.setIfInBounds_toArray, List.set_cons_zero, List.set_cons_succ, i64_w, i32_w]
   rfl
  refine pu_ (i := 10) (N := some 25) (h := ?_)
  refine pu_ (i := 11) (N := some 36) (h := ?_)
  refine pu_ (i := 12) (N := some 37) (h := ?_)
  refine pu_ (i := 13) (N := some 38) (h := ?_)
  refine pu_ (i := 14) (N := some 39) (h := ?_)
  refine last_ (i := 15) (N := none) #[true, true, true, true, true, true, true, true, true, true, true, true, true, true, true, true] rfl rfl (by kernel_rfl) (by decide) (fun K hK => ?_)
  refine skip_ (w1 := ?_) (by rfl) rfl ?_ ?_
  rotate_left
  ·go_simp
   rfl
  refine hK.out _ _ ?_
  clear hK K
  refine done_ (by kernel_rfl) ?_
  clear hHeld s0_ fz_
  replace HS := HD
  clear HD
  replace HS := HS.setBox 2 (.slice (some ⟨bk2, 0, none⟩) m kc2) (.there .here)
  simp only [List.setIfInBounds_toArray, List.set_cons_zero, List.set_cons_succ] at HS
  generalize w5.setCell ⟨g, 2, none⟩ (.slice (some ⟨bk2, 0, none⟩) m kc2) = w5b at HS ⊢
  replace HS := HS.pick tk3
  replace HS := HS.tail
  replace HS := HS.pick tk2
  replace HS := HS.pick tk1
  replace HS := HS.pick tk2
  (try simp only [Exit.inBlock, Exit.then]); first | refine bodyPost_ret (results_none rfl _ _ _) rfl ?_ | refine bodyPost_end (results_none rfl _ _ _) rfl ?_
  rw [show putF l0 l1 line c = { c with cont := (stepV l0 l1 c.cont line).1 } from if_pos HBB.out]
  exact ⟨rfl, bk2, kc2, _, _, KM, km, lm, hm, HS⟩
theorem cut_atF {P : Program} (t e : TypeId) (ht : P.underlying t = some (.slice e)) (hi : (P.info? e).map (·.size) = some 1) (g n c m : Nat) (hm : m ≤ n) :
  ∀ W : World, (Instr.slice t (.slice (some ⟨g, 0, none⟩) n c) (some (.int .i64 (m : Int))) none none).run P W = .ok (.slice (if c = m then some (⟨g, 0, none⟩ : Addr) else (some (⟨g, 0, none⟩ : Addr)).map (·.add m)) (n - m) (c - m)) W := by
 intro W
 obtain ⟨i0, hi0, hsz⟩ := Option.map_eq_some_iff.1 hi
 have hel : P.elem t = e := by simp [Program.elem, ht]
 have hu : P.underlying t = some (.slice (P.elem t)) := by rw [hel]; exact ht
 rw [run_slice_l W t (some ⟨g, 0, none⟩) n c hu .i64 (m : Int) (Int.natCast_nonneg _) (by omega), hel]
 simp [sizeOf, typeInfo, hi0, hsz, sliced, Result.andThen]
theorem C_takeN {W : World} {A : Option Addr} {l : List Int} {m : Nat} (h : Kd.C (Kd.int .i64) W A l.length l) (hm : m ≤ l.length) : Kd.C (Kd.int .i64) W A m (l.take m) := by
 have := Kd.C_take h hm
 rwa [show (l.take m).length = m from by rw [List.length_take]; omega] at this
theorem C_dropN {W : World} {A A1 : Option Addr} {l : List Int} {c m : Nat} (hA : A1 = if c = m then A else A.map (·.add m)) (h : Kd.C (Kd.int .i64) W A l.length l) (hc : l.length ≤ c) (hm : m ≤ l.length) : Kd.C (Kd.int .i64) W A1 (l.length - m) (l.drop m) := by
 have := Kd.C_drop h hm hc
 rw [List.length_drop, show (m * (Kd.int .i64).sz) = m from Nat.mul_one m, ← hA] at this
 exact this
set_option maxHeartbeats 4000000 in
set_option maxRecDepth 100000 in
theorem drop_calls {w0 w : World} {R : List (Thing × Nat × Nat)} {g bp kp lp hp bd kd ld hd n k : Nat} {v0 v1 v2 v5 v6 v7 v8 v9 v10 v11 : Value} {ls ds : List Int} (h : Hold w0 w ((boxT #[v0, v1, v2, .slice (some ⟨bp, 0, none⟩) n kp, .slice (some ⟨bd, 0, none⟩) n kd, v5, v6, v7, v8, v9, v10, v11] 125, g, g + 1) :: (flat (Kd.int .i64) 2 (.slice (some ⟨bp, 0, none⟩) n kp) ls, lp, hp) :: (flat (Kd.int .i64) 2 (.slice (some ⟨bd, 0, none⟩) n kd) ds, ld, hd) :: R)) (hk : k < n) (hl : n ≤ 1000) :
  Calls Try.prog 122 #[.pointer (some ⟨g, 0, none⟩), .int .i64 k] w fun e w' => e = .returned (.tuple #[]) ∧ ∃ P2 kp2 lp2 hp2 D2 kd2 ld2 hd2, Hold w0 w' ((boxT #[v0, v1, v2, .slice P2 (n - 1) kp2, .slice D2 (n - 1) kd2, v5, v6, v7, v8, v9, v10, v11] 125, g, g + 1) :: (flat (Kd.int .i64) 2 (.slice P2 (n - 1) kp2) (ls.eraseIdx k), lp2, hp2) :: (flat (Kd.int .i64) 2 (.slice D2 (n - 1) kd2) (ds.eraseIdx k), ld2, hd2) :: R) := by
 have HS := h
 clear h
 obtain ⟨hn1, hp1, hp2⟩ := HS.reads' at1
 obtain ⟨hn2, hd1, hd2⟩ := HS.reads' at2
 have HN1 := Aside0.mk hn1
 have HN2 := Aside0.mk hn2
 have HK := Aside0.mk hk
 have HL := Aside0.mk hl
 have HP1 := Aside0.mk hp1
 have HD1 := Aside0.mk hd1
 have kx0 : (0 : Int) ≤ k := Int.natCast_nonneg k
 have kx1 : (k : Int) ≤ kp := by omega
 have kx2 : (k : Int) ≤ kd := by omega
 have kx3 : k ≤ kp := by omega
 have kx4 : k ≤ kd := by omega
 have kx5 : wrap64 ((k : Int) + 1) = (k : Int) + 1 := wrap_id (by omega) (by omega)
 obtain ⟨A1, hA1⟩ : ∃ A1, A1 = if kp = k + 1 then some (⟨bp, 0, none⟩ : Addr) else (some (⟨bp, 0, none⟩ : Addr)).map (·.add (k + 1)) := ⟨_, rfl⟩
 obtain ⟨A2, hA2⟩ : ∃ A2, A2 = if kd = k + 1 then some (⟨bd, 0, none⟩ : Addr) else (some (⟨bd, 0, none⟩ : Addr)).map (·.add (k + 1)) := ⟨_, rfl⟩
 have hcutA1 : ∀ W : World, (Instr.slice 30 (.slice (some ⟨bp, 0, none⟩) n kp) (some (.int .i64 ((k : Int) + 1))) none none).run Try.prog W = .ok (.slice A1 (n - (k + 1)) (kp - (k + 1))) W := fun W => by
  have := cut_atF (P := Try.prog) 30 2 Try.underlying30 (by kernel_rfl) bp n kp (k + 1) (by omega) W
  rw [← hA1] at this
  simpa using this
 have hcutA2 : ∀ W : World, (Instr.slice 30 (.slice (some ⟨bd, 0, none⟩) n kd) (some (.int .i64 ((k : Int) + 1))) none none).run Try.prog W = .ok (.slice A2 (n - (k + 1)) (kd - (k + 1))) W := fun W => by
  have := cut_atF (P := Try.prog) 30 2 Try.underlying30 (by kernel_rfl) bd n kd (k + 1) (by omega) W
  rw [← hA2] at this
  simpa using this
 have HA1 := Aside0.mk hA1
 have HA2 := Aside0.mk hA2
 clear hA1 hA2 hn1 hp1 hp2 hn2 hd1 hd2 hk hl
 go_enter Try.func122, Try.ntmps122
 have q3 : w.cell? ⟨g, 3, none⟩ = some (.slice (some ⟨bp, 0, none⟩) n kp) := HS.cell at0 3 _ rfl
 have q4 : w.cell? ⟨g, 4, none⟩ = some (.slice (some ⟨bd, 0, none⟩) n kd) := HS.cell at0 4 _ rfl
 have fzq : ∀ j, w.frozen? ⟨g, j, none⟩ = false := HS.thaw at0
 go_upto_region 1 with (first | ((with_reducible refine gate_dst (N := 6) rfl ?_); refine Kd.R_lit (Kd.int .i64) _ 2 ?hg (N := 6) ?hd (xs := ([] : List Int)) (inner := []) (ok := fun _ => True) (okp := fun _ => True) ?hr ?hp (fun _ hk => hk) trivial (Below.refl _ _) (Nat.le_refl _) (by simp) ?_; (case hd => rfl); (case hg => rfl); (case hr => first | (go_simp; done) | (go_simp; rfl)); (case hp => exact (Reps.none _ _)); intro z1 w1a hr_ hb_ hg_ hnew_; clear hg_ hnew_; replace HS := HS.made hb_ hr_; clear hb_ hr_; clear q3 q4 fzq; have q3 : w1a.cell? ⟨g, 3, none⟩ = some (.slice (some ⟨bp, 0, none⟩) n kp) := HS.cell at1 3 _ rfl; have q4 : w1a.cell? ⟨g, 4, none⟩ = some (.slice (some ⟨bd, 0, none⟩) n kd) := HS.cell at1 4 _ rfl; have fzq : ∀ j, w1a.frozen? ⟨g, j, none⟩ = false := HS.thaw at1) | ((with_reducible refine gate_builtin (b := .append) (xs := #[.tmp 6, .tmp 12]) rfl ?_); at_builtin; have HC_ := C_takeN (HS.reads' at2).2.2 (m := k) (by have := HK.out; have := HN1.out; omega); refine Hold.appendCI HS rfl (.tmp 6) (.tmp 12) 30 2 rfl Try.underlying30 svInfo z1 ([]) (ls.take k) _ _ _ rfl rfl at0 HC_ (by have := HK.out; have := HL.out; simp; omega) ?_; intro B1 b1 l1_ h1_ w1 HQ; clear HC_; replace HS := HQ _ .here; clear HQ; generalize hnn1 : ([] : List Int).length + (ls.take k).length = nn1 at HS ⊢; have HNN1 := Aside0.mk hnn1; clear hnn1; clear q3 q4 fzq; have q3 : w1.cell? ⟨g, 3, none⟩ = some (.slice (some ⟨bp, 0, none⟩) n kp) := HS.cell at1 3 _ rfl; have q4 : w1.cell? ⟨g, 4, none⟩ = some (.slice (some ⟨bd, 0, none⟩) n kd) := HS.cell at1 4 _ rfl; have fzq : ∀ j, w1.frozen? ⟨g, j, none⟩ = false := HS.thaw at1))
 go_upto_region 2 with (first | ((with_reducible refine gate_dst (N := 14) rfl ?_); refine Kd.R_lit (Kd.int .i64) _ 2 ?hg (N := 14) ?hd (xs := ([] : List Int)) (inner := []) (ok := fun _ => True) (okp := fun _ => True) ?hr ?hp (fun _ hk => hk) trivial (Below.refl _ _) (Nat.le_refl _) (by simp) ?_; (case hd => rfl); (case hg => rfl); (case hr => first | (go_simp; done) | (go_simp; rfl)); (case hp => exact (Reps.none _ _)); intro z2 w2a hr_ hb_ hg_ hnew_; clear hg_ hnew_; replace HS := HS.made hb_ hr_; clear hb_ hr_; clear q3 q4 fzq; have q3 : w2a.cell? ⟨g, 3, none⟩ = some (.slice (some ⟨bp, 0, none⟩) n kp) := HS.cell at2 3 _ rfl; have q4 : w2a.cell? ⟨g, 4, none⟩ = some (.slice (some ⟨bd, 0, none⟩) n kd) := HS.cell at2 4 _ rfl; have fzq : ∀ j, w2a.frozen? ⟨g, j, none⟩ = false := HS.thaw at2) | ((with_reducible refine gate_builtin (b := .append) (xs := #[.tmp 14, .tmp 20]) rfl ?_); at_builtin; have HC_ := C_takeN (HS.reads' at4).2.2 (m := k) (by have := HK.out; have := HN2.out; omega); refine Hold.appendCI HS rfl (.tmp 14) (.tmp 20) 30 2 rfl Try.underlying30 svInfo z2 ([]) (ds.take k) _ _ _ rfl rfl at0 HC_ (by have := HK.out; have := HL.out; simp; omega) ?_; intro B2 b2 l2_ h2_ w2 HQ; clear HC_; replace HS := HQ _ .here; clear HQ; generalize hnn2 : ([] : List Int).length + (ds.take k).length = nn2 at HS ⊢; have HNN2 := Aside0.mk hnn2; clear hnn2; clear q3 q4 fzq; have q3 : w2.cell? ⟨g, 3, none⟩ = some (.slice (some ⟨bp, 0, none⟩) n kp) := HS.cell at2 3 _ rfl; have q4 : w2.cell? ⟨g, 4, none⟩ = some (.slice (some ⟨bd, 0, none⟩) n kd) := HS.cell at2 4 _ rfl; have fzq : ∀ j, w2.frozen? ⟨g, j, none⟩ = false := HS.thaw at2))
 go_upto_region 3 with ((with_reducible refine gate_builtin (b := .append) (xs := #[.tmp 23, .tmp 30]) rfl ?_); at_builtin; have HC_ := (show Kd.C (Kd.int .i64) w2 A1 (n - (k + 1)) (ls.drop (k + 1)) by rw [HN1.out]; exact C_dropN HA1.out (HS.reads' at3).2.2 (HS.reads' at3).2.1 (m := k + 1) (by have := HK.out; have := HN1.out; omega)); refine Hold.appendCI HS rfl (.tmp 23) (.tmp 30) 30 2 rfl Try.underlying30 svInfo _ ([] ++ ls.take k) (ls.drop (k + 1)) _ _ _ rfl rfl at1 HC_ (by have := HK.out; have := HL.out; have := HN1.out; simp; omega) ?_; intro B3 b3 l3_ h3_ w3 HQ; clear HC_; replace HS := HQ _ (.there .here); clear HQ; generalize hnn3 : ([] ++ ls.take k).length + (ls.drop (k + 1)).length = nn3 at HS ⊢; have HNN3 := Aside0.mk hnn3; clear hnn3; clear q3 q4 fzq; have q3 : w3.cell? ⟨g, 3, none⟩ = some (.slice (some ⟨bp, 0, none⟩) n kp) := HS.cell at2 3 _ rfl; have q4 : w3.cell? ⟨g, 4, none⟩ = some (.slice (some ⟨bd, 0, none⟩) n kd) := HS.cell at2 4 _ rfl; have fzq : ∀ j, w3.frozen? ⟨g, j, none⟩ = false := HS.thaw at2)
 clear q3 q4 fzq
 replace HS := HS.setBox 3 (.slice B3 nn3 b3) (.there (.there .here))
 simp only [List.setIfInBounds_toArray, List.set_cons_zero, List.set_cons_succ] at HS
 generalize w3.setCell ⟨g, 3, none⟩ (.slice B3 nn3 b3) = w5 at HS ⊢
 have q3 : w5.cell? ⟨g, 3, none⟩ = some (.slice B3 nn3 b3) := HS.cell at2 3 _ rfl
 have q4 : w5.cell? ⟨g, 4, none⟩ = some (.slice (some ⟨bd, 0, none⟩) n kd) := HS.cell at2 4 _ rfl
 have fzq : ∀ j, w5.frozen? ⟨g, j, none⟩ = false := HS.thaw at2
 go_wp2_with ((with_reducible refine gate_builtin (b := .append) (xs := #[.tmp 35, .tmp 42]) rfl ?_); at_builtin; have HC_ := (show Kd.C (Kd.int .i64) w5 A2 (n - (k + 1)) (ds.drop (k + 1)) by rw [HN2.out]; exact C_dropN HA2.out (HS.reads' at4).2.2 (HS.reads' at4).2.1 (m := k + 1) (by have := HK.out; have := HN2.out; omega)); refine Hold.appendCI HS rfl (.tmp 35) (.tmp 42) 30 2 rfl Try.underlying30 svInfo _ ([] ++ ds.take k) (ds.drop (k + 1)) _ _ _ rfl rfl at0 HC_ (by have := HK.out; have := HL.out; have := HN2.out; simp; omega) ?_; intro B4 b4 l4_ h4_ w4 HQ; clear HC_; replace HS := HQ _ .here; clear HQ; generalize hnn4 : ([] ++ ds.take k).length + (ds.drop (k + 1)).length = nn4 at HS ⊢; have HNN4 := Aside0.mk hnn4; clear hnn4; clear q3 q4 fzq; have q3 : w4.cell? ⟨g, 3, none⟩ = some (.slice B3 nn3 b3) := HS.cell at2 3 _ rfl; have q4 : w4.cell? ⟨g, 4, none⟩ = some (.slice (some ⟨bd, 0, none⟩) n kd) := HS.cell at2 4 _ rfl; have fzq : ∀ j, w4.frozen? ⟨g, j, none⟩ = false := HS.thaw at2)
 clear q3 q4 fzq
 replace HS := HS.setBox 4 (.slice B4 nn4 b4) (.there (.there .here))
 simp only [List.setIfInBounds_toArray, List.set_cons_zero, List.set_cons_succ] at HS
 generalize w4.setCell ⟨g, 4, none⟩ (.slice B4 nn4 b4) = w7 at HS ⊢
 replace HS := HS.pick tk3
 replace HS := HS.tail
 replace HS := HS.pick tk3
 replace HS := HS.tail
 replace HS := HS.pick tk1
 replace HS := HS.pick tk2
 (try simp only [Exit.inBlock, Exit.then]); first | refine bodyPost_ret (results_none rfl _ _ _) rfl ?_ | refine bodyPost_end (results_none rfl _ _ _) rfl ?_
 have x1 : ([] ++ ls.take k) ++ ls.drop (k + 1) = ls.eraseIdx k := by rw [List.nil_append, List.eraseIdx_eq_take_drop_succ]
 have x2 : ([] ++ ds.take k) ++ ds.drop (k + 1) = ds.eraseIdx k := by rw [List.nil_append, List.eraseIdx_eq_take_drop_succ]
 have y1 : nn3 = n - 1 := by rw [← HNN3.out]; have := HK.out; have := HN1.out; simp; omega
 have y2 : nn4 = n - 1 := by rw [← HNN4.out]; have := HK.out; have := HN2.out; simp; omega
 rw [x1, x2, y1, y2] at HS
 exact ⟨rfl, _, _, _, _, _, _, _, _, HS⟩
/-- The object of the reference's run, and all that it leads to. -/
def SpecF (w0 w : World) (R : List (Thing × Nat × Nat)) (g m : Nat) (A0 : Option Addr) (c0 n0 : Nat) (A1 : Option Addr) (c1 n1 : Nat) (s : FetchV) : Prop :=
 ∃ (bk kc lk hk : Nat) (KP : Option Addr) (kp lp hp : Nat) (KD : Option Addr) (kd ld hd : Nat) (KM : Option Addr) (km lm hm : Nat),
  Hold w0 w ((boxT #[.slice A0 n0 c0, .slice A1 n1 c1, .slice (some ⟨bk, 0, none⟩) m kc, .slice KP s.pd.length kp, .slice KD s.pd.length kd, .slice KM s.c.ms.length km, .int .i64 s.n0, .int .i64 s.n1, .int .i64 s.n2, .int .i64 s.n3, .int .i64 s.is, .int .i64 s.c.us] 125, g, g + 1) :: (flat (Kd.int .i64) 2 (.slice (some ⟨bk, 0, none⟩) m kc) s.c.cont, lk, hk) :: (flat (Kd.int .i64) 2 (.slice KP s.pd.length kp) (linesF s.pd), lp, hp) :: (flat (Kd.int .i64) 2 (.slice KD s.pd.length kd) (duesF s.pd), ld, hd) :: (flat (Kd.int .i64) 2 (.slice KM s.c.ms.length km) s.c.ms, lm, hm) :: R)
theorem arrF_app (hit : List (List Int)) (miss : List Int) (now : Int) : ∀ (l r : List (Int × Int)) (c : CoreF), arrF hit miss now (l ++ r) c = arrF hit miss now r (arrF hit miss now l c)
 | [], _, _ => rfl
 | x :: t, r, c => by
  rw [List.cons_append, arrF, arrF]
  split
  ·exact arrF_app hit miss now t r c
  ·exact arrF_app hit miss now t r _
theorem leftF_app (now : Int) (l r : List (Int × Int)) : leftF now (l ++ r) = leftF now l ++ leftF now r := List.filter_append ..
theorem leftF_one {now : Int} {x : Int × Int} (h : now < x.2) : leftF now [x] = [x] := by simp [leftF, h]
theorem leftF_not {now : Int} {x : Int × Int} (h : ¬ now < x.2) : leftF now [x] = [] := by simp [leftF, h]
theorem leftF_le (now : Int) (l : List (Int × Int)) : (leftF now l).length ≤ l.length := List.length_filter_le _ _
theorem linesF_len (pd : List (Int × Int)) : (linesF pd).length = pd.length := List.length_map ..
theorem duesF_len (pd : List (Int × Int)) : (duesF pd).length = pd.length := List.length_map ..
theorem eraseIdx_mapF {α β : Type} (f : α → β) : ∀ (l : List α) (i : Nat), (l.eraseIdx i).map f = (l.map f).eraseIdx i
 | [], _ => by simp
 | _ :: _, 0 => rfl
 | x :: l, i + 1 => by
  rw [List.map_cons, List.eraseIdx_cons_succ, List.eraseIdx_cons_succ, List.map_cons, eraseIdx_mapF f l i]
theorem mid_get {α β : Type} (f : α → β) (l : List α) (x : α) (r : List α) (z : β) : ((l ++ x :: r).map f).getD l.length z = f x := by
 rw [List.getD_eq_getElem?_getD, List.getElem?_map, List.getElem?_append_right (Nat.le_refl _), Nat.sub_self]; rfl
theorem mid_erase {α β : Type} (f : α → β) (l : List α) (x : α) (r : List α) : ((l ++ x :: r).map f).eraseIdx l.length = (l ++ r).map f := by
 rw [← eraseIdx_mapF, List.eraseIdx_append_of_length_le (Nat.le_refl _), Nat.sub_self]; rfl
theorem getD_memF {α : Type} (l : List α) (i : Nat) (z : α) (h : i < l.length) : l.getD i z ∈ l := by rw [getD_lt l i z h]; exact List.getElem_mem h
set_option maxHeartbeats 4000000 in
set_option maxRecDepth 100000 in
theorem arrive_calls {w0 w : World} {R : List (Thing × Nat × Nat)} {g m : Nat} {A0 : Option Addr} {c0 : Nat} {l0 : List (List Int)} {A1 : Option Addr} {c1 : Nat} {l1 : List Int} {s : FetchV} {kq : Nat} {now : Int} (h : SpecF w0 w R g m A0 c0 l0.length A1 c1 l1.length s) (hr0 : Rd w0 R (Kd.slice 2 (Kd.int .i64)) A0 l0) (hc0 : l0.length ≤ c0) (hr1 : Rd w0 R (Kd.int .i64) A1 l1) (hc1 : l1.length ≤ c1) (hm1 : 1 ≤ m ∧ m ≤ 6) (hok : ∀ (c : List Int) (x : Int), c.length = m → okStep l0 l1 c x = true) (hlen : ∀ (c : List Int) (x : Int), c.length = m → (stepV l0 l1 c x).1.length = m) (hco : s.c.Ok m) (hb : s.Bnd kq) (hkq : kq ≤ 60) :
  Calls Try.prog 90 #[.pointer (some ⟨g, 0, none⟩), .int .i64 now] w fun e w' => e = .returned (.tuple #[]) ∧ SpecF w0 w' R g m A0 c0 l0.length A1 c1 l1.length { s with c := arrF l0 l1 now s.pd s.c, pd := leftF now s.pd } := by
 have H0 : Aside0 (SpecF w0 w R g m A0 c0 l0.length A1 c1 l1.length { s with c := arrF l0 l1 now (s.pd.take 0) s.c, pd := leftF now (s.pd.take 0) ++ s.pd.drop 0 }) := ⟨by rw [show { s with c := arrF l0 l1 now (s.pd.take 0) s.c, pd := leftF now (s.pd.take 0) ++ s.pd.drop 0 } = s from rfl]; exact h⟩
 have HR0 := Aside0.mk hr0
 have HC0 := Aside0.mk hc0
 have HR1 := Aside0.mk hr1
 have HC1 := Aside0.mk hc1
 have HM1 := Aside0.mk hm1
 have HOK := Aside0.mk hok
 have HLN := Aside0.mk hlen
 have HCO := Aside0.mk hco
 have HB := Aside0.mk hb
 have HKQ := Aside0.mk hkq
 clear h hr0 hc0 hr1 hc1 hm1 hok hlen hco hb hkq
 go_enter Try.func90, Try.ntmps90
 go_wp2_with fail
 go_loopg [4] s.pd.length (fun gg s4 wr => ∃ i : Nat, i ≤ s.pd.length ∧ s.pd.length - i ≤ gg ∧ s4 = .int .i64 ((leftF now (s.pd.take i)).length : Int) ∧ Aside0 (SpecF w0 wr R g m A0 c0 l0.length A1 c1 l1.length { s with c := arrF l0 l1 now (s.pd.take i) s.c, pd := leftF now (s.pd.take i) ++ s.pd.drop i }))
 case atStart => exact ⟨0, Nat.zero_le _, Nat.le_refl _, rfl, H0⟩
 case round =>
  clear H0
  obtain ⟨i, hi, hg_, rfl, HSS⟩ := hrel
  by_cases hlt : i < s.pd.length
  ·obtain ⟨x, hx⟩ : ∃ x, s.pd.getD i (0, 0) = x := ⟨_, rfl⟩
   have hd1 := drop_cons s.pd i (0, 0) hlt
   have ht1 := take_succ s.pd i (0, 0) hlt
   rw [hx] at hd1 ht1
   have hxm : x ∈ s.pd := by rw [← hx]; exact getD_memF s.pd i _ hlt
   have HX := Aside0.mk (HB.out.lines x hxm)
   obtain ⟨a1, a2, a3⟩ := arr_ok HOK.out HLN.out now (s.pd.take i) s.c HCO.out (fun y hy => HB.out.lines y (List.mem_of_mem_take hy))
   have a4 := leftF_le now (s.pd.take i)
   have a5 : (s.pd.take i).length = i := by rw [List.length_take]; omega
   have hT1 := leftF_app now (s.pd.take i) [x]
   have hT2 := arrF_app l0 l1 now (s.pd.take i) [x] s.c
   rw [← ht1] at hT1 hT2
   rw [hd1] at HSS
   have hpl : s.pd.length ≤ 240 := by have := HB.out.all; have := HB.out.us; have := HB.out.is.2; have := HKQ.out; omega
   have hus : s.c.us + (s.c.ms.length : Int) + (s.pd.length : Int) ≤ 240 := by have := HB.out.all; have := HB.out.is.2; have := HKQ.out; omega
   have hu0 := HB.out.us
   have hrl : (s.pd.drop (i + 1)).length = s.pd.length - (i + 1) := List.length_drop
   generalize leftF now (s.pd.take i) = K at HSS hT1 a2 a4 ⊢
   generalize arrF l0 l1 now (s.pd.take i) s.c = cc at HSS hT2 a1 a2 a3
   generalize hr : s.pd.drop (i + 1) = r at HSS hd1 hrl
   have HRR := Aside0.mk hr
   have HT1 := Aside0.mk hT1
   have HT2 := Aside0.mk hT2
   have HCC := Aside0.mk a1
   have HKL : Aside0 (K.length ≤ 240 ∧ r.length ≤ 240 ∧ 0 ≤ cc.us ∧ cc.us ≤ 240 ∧ cc.ms.length ≤ 240) := ⟨by omega⟩
   clear hr hT1 hT2 a1 a2 a3 a4 a5 hx hd1 ht1 hxm hpl hus hu0 hrl
   obtain ⟨bk, kc, lk, hk, KP, kp, lp, hp, KD, kd, ld, hd, KM, km, lm, hm, HS⟩ := HSS.out
   clear HSS
   change Hold w0 wr ((boxT #[.slice A0 l0.length c0, .slice A1 l1.length c1, .slice (some ⟨bk, 0, none⟩) m kc, .slice KP (K ++ x :: r).length kp, .slice KD (K ++ x :: r).length kd, .slice KM cc.ms.length km, .int .i64 s.n0, .int .i64 s.n1, .int .i64 s.n2, .int .i64 s.n3, .int .i64 s.is, .int .i64 cc.us] 125, g, g + 1) :: (flat (Kd.int .i64) 2 (.slice (some ⟨bk, 0, none⟩) m kc) cc.cont, lk, hk) :: (flat (Kd.int .i64) 2 (.slice KP (K ++ x :: r).length kp) (linesF (K ++ x :: r)), lp, hp) :: (flat (Kd.int .i64) 2 (.slice KD (K ++ x :: r).length kd) (duesF (K ++ x :: r)), ld, hd) :: (flat (Kd.int .i64) 2 (.slice KM cc.ms.length km) cc.ms, lm, hm) :: R) at HS
   have hk0 : (0 : Int) ≤ (K.length : Int) := Int.natCast_nonneg _
   have hkl : (K.length : Int) < ((K ++ x :: r).length : Int) := by simp; omega
   have hkn : K.length < (K ++ x :: r).length := by simp
   have wk : wrap64 ((K.length : Int) + 1) = ((K.length + 1 : Nat) : Int) := by rw [wrap_id (by have := HKL.out.1; omega) (by have := HKL.out.1; omega)]; omega
   obtain ⟨bp, bpc, e_, _, _⟩ := HS.row_form at2 (by simp [linesF, duesF] <;> omega)
   injection e_ with e1_ _ e3_
   subst e1_ e3_
   obtain ⟨bd, bdc, e_, _, _⟩ := HS.row_form at3 (by simp [linesF, duesF] <;> omega)
   injection e_ with e1_ _ e3_
   subst e1_ e3_
   have rd_ := (HS.cellI at3 (K.length : Int) (Int.natCast_nonneg _) (by simp [linesF, duesF]; omega)).1
   rw [Int.toNat_natCast, show (duesF (K ++ x :: r)).getD (K.length) 0 = x.2 from mid_get _ K x r 0] at rd_
   have rp_ := (HS.cellI at2 (K.length : Int) (Int.natCast_nonneg _) (by simp [linesF, duesF]; omega)).1
   rw [Int.toNat_natCast, show (linesF (K ++ x :: r)).getD (K.length) 0 = x.1 from mid_get _ K x r 0] at rp_
   generalize hnn : (K ++ x :: r).length = nn at HS hkl hkn ⊢
   have HNN := Aside0.mk hnn
   clear hnn
   obtain ⟨xl, xd⟩ := x
   simp only at rd_ rp_ HX
   have q3 : wr.cell? ⟨g, 3, none⟩ = some (.slice (some ⟨bp, 0, none⟩) nn kp) := HS.cell at0 3 _ rfl
   have q4 : wr.cell? ⟨g, 4, none⟩ = some (.slice (some ⟨bd, 0, none⟩) nn kd) := HS.cell at0 4 _ rfl
   have fzq : ∀ j, wr.frozen? ⟨g, j, none⟩ = false := HS.thaw at0
   by_cases hnow : now < xd
   ·go_wp2_with fail
    have HF : Aside0 (SpecF w0 wr R g m A0 c0 l0.length A1 c1 l1.length { s with c := arrF l0 l1 now (s.pd.take (i + 1)) s.c, pd := leftF now (s.pd.take (i + 1)) ++ s.pd.drop (i + 1) }) := ⟨⟨bk, kc, lk, hk, some ⟨bp, 0, none⟩, kp, lp, hp, some ⟨bd, 0, none⟩, kd, ld, hd, KM, km, lm, hm, by rw [HT2.out, HT1.out, leftF_one hnow, HRR.out]; show Hold w0 wr _; simp only [arrF, if_pos hnow, List.append_assoc, List.cons_append, List.nil_append, HNN.out]; exact HS⟩⟩
    clear HS
    go_roundg (s.pd.length - (i + 1))
    case measure => omega
    case rel => exact ⟨i + 1, hlt, Nat.le_refl _, by rw [HT1.out, leftF_one hnow]; simp only [List.length_append, List.length_singleton]; first | rfl | rw [wk], HF⟩
   ·go_upto_region 5 with fail
    go_wp2_with fail
    clear q3 q4 fzq rd_ rp_
    replace HS := HS.pick tk4
    replace HS := HS.pick tk2
    replace HS := HS.pick tk4
    replace HS := HS.pick tk4
    replace HS := HS.pick tk4
    refine (drop_calls HS hkn (by rw [← HNN.out]; have := HKL.out; simp; omega)).mono ?_
    clear HS
    rintro e w2 ⟨rfl, P2, kp2, lp2, hp2, D2, kd2, ld2, hd2, HS⟩
    rw [show (linesF (K ++ (xl, xd) :: r)).eraseIdx K.length = linesF (K ++ r) from mid_erase _ K _ r, show (duesF (K ++ (xl, xd) :: r)).eraseIdx K.length = duesF (K ++ r) from mid_erase _ K _ r, show nn - 1 = (K ++ r).length by rw [← HNN.out]; simp] at HS
    replace HS := HS.pick tk2
    replace HS := HS.pick tk2
    replace HS := HS.pick tk4
    replace HS := HS.pick tk4
    replace HS := HS.pick tk4
    go_wp2_with fail
    refine (put_calls HS (HR0.out.mono (fun y_ hy_ => List.mem_cons_of_mem _ (in1 hy_))) HC0.out (HR1.out.mono (fun y_ hy_ => List.mem_cons_of_mem _ (in1 hy_))) HC1.out (by have := HKL.out; omega) (by have := HKL.out; omega) HM1.out (HOK.out _ _ HCC.out.cont) (HLN.out _ _ HCC.out.cont)).mono ?_
    clear HS
    rintro e w3 ⟨rfl, bk2, kc2, lk2, hk2, KM2, km2, lm2, hm2, HS⟩
    have EP := Aside0.mk (specPut_ev (putF l0 l1 xl cc).ms xl (by have := (put_sum l0 l1 xl HCC.out.rising); have := HKL.out; omega))
    have q5 : w3.cell? ⟨g, 5, none⟩ = some (.slice KM2 (putF l0 l1 xl cc).ms.length km2) := HS.cell at0 5 _ rfl
    have fzq : ∀ j, w3.frozen? ⟨g, j, none⟩ = false := HS.thaw at0
    go_wp2_with fail
    clear q5 fzq
    refine (spec_l00Put.calls (Ev.num EP.out) KM2 km2 (putF l0 l1 xl cc).ms xl (putR xl (putF l0 l1 xl cc).ms) _ (HS.reads' at2).2.2 (HS.reads' at2).2.1 (Ev.is EP.out)).mono ?_
    rintro e w4 ⟨v_, rfl, hr, hb⟩
    clear EP
    obtain ⟨KM3, km3, rfl⟩ := Kd.R_slice hr
    replace HS := HS.made hb hr
    clear hb hr
    have q5 : w4.cell? ⟨g, 5, none⟩ = some (.slice KM2 (putF l0 l1 xl cc).ms.length km2) := HS.cell at1 5 _ rfl
    have fzq : ∀ j, w4.frozen? ⟨g, j, none⟩ = false := HS.thaw at1
    go_wp2_with fail
    clear q5 fzq
    replace HS := HS.setBox 5 (.slice KM3 (putR xl (putF l0 l1 xl cc).ms).length km3) (.there .here)
    simp only [List.setIfInBounds_toArray, List.set_cons_zero, List.set_cons_succ] at HS
    generalize w4.setCell ⟨g, 5, none⟩ (.slice KM3 (putR xl (putF l0 l1 xl cc).ms).length km3) = w5 at HS ⊢
    replace HS := HS.pick tk3
    replace HS := HS.tail
    replace HS := HS.pick tk4
    replace HS := HS.pick tk4
    replace HS := HS.pick tk4
    replace HS := HS.pick tk4
    have HF : Aside0 (SpecF w0 w5 R g m A0 c0 l0.length A1 c1 l1.length { s with c := arrF l0 l1 now (s.pd.take (i + 1)) s.c, pd := leftF now (s.pd.take (i + 1)) ++ s.pd.drop (i + 1) }) := ⟨by rw [HT2.out, HT1.out, leftF_not (x := (xl, xd)) (show ¬ now < xd by omega), HRR.out, List.append_nil, show arrF l0 l1 now [(xl, xd)] cc = markF l0 l1 xl cc from if_neg (show ¬ now < xd by omega)]; exact ⟨bk2, kc2, _, _, P2, kp2, lp2, hp2, D2, kd2, ld2, hd2, KM3, km3, _, _, HS⟩⟩
    clear HS
    go_roundg (s.pd.length - (i + 1))
    case measure => omega
    case rel => exact ⟨i + 1, hlt, Nat.le_refl _, by rw [HT1.out, leftF_not (x := (xl, xd)) (show ¬ now < xd by omega), List.append_nil], HF⟩
  ·obtain rfl : i = s.pd.length := by omega
   have HF := HSS.out
   rw [List.take_length, List.drop_eq_nil_of_le (Nat.le_refl _), List.append_nil] at HF
   rw [List.take_length]
   clear HSS
   obtain ⟨bk, kc, lk, hk, KP, kp, lp, hp, KD, kd, ld, hd, KM, km, lm, hm, HS⟩ := HF
   change Hold w0 wr ((boxT #[.slice A0 l0.length c0, .slice A1 l1.length c1, .slice (some ⟨bk, 0, none⟩) m kc, .slice KP (leftF now s.pd).length kp, .slice KD (leftF now s.pd).length kd, .slice KM (arrF l0 l1 now s.pd s.c).ms.length km, .int .i64 s.n0, .int .i64 s.n1, .int .i64 s.n2, .int .i64 s.n3, .int .i64 s.is, .int .i64 (arrF l0 l1 now s.pd s.c).us] 125, g, g + 1) :: (flat (Kd.int .i64) 2 (.slice (some ⟨bk, 0, none⟩) m kc) ((arrF l0 l1 now s.pd s.c).cont), lk, hk) :: (flat (Kd.int .i64) 2 (.slice KP (leftF now s.pd).length kp) (linesF (leftF now s.pd)), lp, hp) :: (flat (Kd.int .i64) 2 (.slice KD (leftF now s.pd).length kd) (duesF (leftF now s.pd)), ld, hd) :: (flat (Kd.int .i64) 2 (.slice KM (arrF l0 l1 now s.pd s.c).ms.length km) ((arrF l0 l1 now s.pd s.c).ms), lm, hm) :: R) at HS
   have hltz : ¬ ((leftF now s.pd).length : Int) < ((leftF now s.pd).length : Int) := by omega
   have q3 : wr.cell? ⟨g, 3, none⟩ = some (.slice KP (leftF now s.pd).length kp) := HS.cell at0 3 _ rfl
   have fzq : ∀ j, wr.frozen? ⟨g, j, none⟩ = false := HS.thaw at0
   go_wp2_with fail
   (try simp only [Exit.inBlock, Exit.then]); first | refine bodyPost_ret (results_none rfl _ _ _) rfl ?_ | refine bodyPost_end (results_none rfl _ _ _) rfl ?_
   exact ⟨rfl, bk, kc, lk, hk, KP, kp, lp, hp, KD, kd, ld, hd, KM, km, lm, hm, HS⟩
set_option maxHeartbeats 4000000 in
set_option maxRecDepth 100000 in
theorem load_calls {w0 w : World} {R : List (Thing × Nat × Nat)} {g m : Nat} {A0 : Option Addr} {c0 : Nat} {l0 : List (List Int)} {A1 : Option Addr} {c1 : Nat} {l1 : List Int} {s : FetchV} {line : Int} (h : SpecF w0 w R g m A0 c0 l0.length A1 c1 l1.length s) (hml : s.c.ms.length ≤ 1000) (hpl : s.pd.length ≤ 1000) (hcl : s.c.cont.length ≤ 1000) (hn : (0 ≤ s.n0 ∧ s.n0 ≤ 1000) ∧ (0 ≤ s.n1 ∧ s.n1 ≤ 1000) ∧ (0 ≤ s.n2 ∧ s.n2 ≤ 1000) ∧ (0 ≤ s.n3 ∧ s.n3 ≤ 1000)) :
  Calls Try.prog 91 #[.pointer (some ⟨g, 0, none⟩), .int .i64 line] w fun e w' => e = .returned (.int .i64 (kindF s.c s.pd line)) ∧ SpecF w0 w' R g m A0 c0 l0.length A1 c1 l1.length { countF (kindF s.c s.pd line) s with pd := pendF s.c s.pd line } := by
 obtain ⟨bk, kc, lk, hk, KP, kp, lp, hp, KD, kd, ld, hd, KM, km, lm, hm, HS⟩ := h
 change Hold w0 w ((boxT #[.slice A0 l0.length c0, .slice A1 l1.length c1, .slice (some ⟨bk, 0, none⟩) m kc, .slice KP s.pd.length kp, .slice KD s.pd.length kd, .slice KM s.c.ms.length km, .int .i64 s.n0, .int .i64 s.n1, .int .i64 s.n2, .int .i64 s.n3, .int .i64 s.is, .int .i64 s.c.us] 125, g, g + 1) :: (flat (Kd.int .i64) 2 (.slice (some ⟨bk, 0, none⟩) m kc) s.c.cont, lk, hk) :: (flat (Kd.int .i64) 2 (.slice KP s.pd.length kp) (linesF (s.pd)), lp, hp) :: (flat (Kd.int .i64) 2 (.slice KD s.pd.length kd) (duesF (s.pd)), ld, hd) :: (flat (Kd.int .i64) 2 (.slice KM s.c.ms.length km) s.c.ms, lm, hm) :: R) at HS
 have HML := Aside0.mk hml
 have HPL := Aside0.mk hpl
 have HN := Aside0.mk hn
 have HCM1 := Aside0.mk hcl
 clear hml hpl hn hcl
 have HCM := Aside0.mk (HS.reads' at1).1
 have HPM := Aside0.mk (HS.reads' at2).1
 have EA := Aside0.mk (xAge_ev (linesF s.pd) line (by rw [linesF_len]; have := HPL.out; omega))
 have EC := Aside0.mk (specHas_ev s.c.cont line (by have := HCM1.out; omega))
 have EM := Aside0.mk (specHas_ev s.c.ms line (by have := HML.out; omega))
 obtain ⟨bb, hbb⟩ : ∃ bb, hasF s.c.cont line = bb := ⟨_, rfl⟩
 have HBB := Aside0.mk hbb
 rw [show (s.c.cont.any fun y => decide (y = line)) = bb from hbb] at EC
 obtain ⟨b2, hb2⟩ : ∃ b2, hasF s.c.ms line = b2 := ⟨_, rfl⟩
 have HB2 := Aside0.mk hb2
 rw [show (s.c.ms.any fun y => decide (y = line)) = b2 from hb2] at EM
 obtain ⟨q, hq⟩ : ∃ q, placeF s.pd line = q := ⟨_, rfl⟩
 have HQ := Aside0.mk hq
 rw [show xIdx (fun y => decide (y = line)) (linesF s.pd) 0 = q from hq] at EA
 clear hbb hb2 hq
 have n00 := HN.out.1.1
 have n10 := HN.out.2.1.1
 have n20 := HN.out.2.2.1.1
 have n30 := HN.out.2.2.2.1
 have n01 := HN.out.1.2
 have n11 := HN.out.2.1.2
 have n21 := HN.out.2.2.1.2
 have n31 := HN.out.2.2.2.2
 go_enter Try.func91, Try.ntmps91
 have q3 : w.cell? ⟨g, 3, none⟩ = some (.slice KP s.pd.length kp) := HS.cell at0 3 _ rfl
 have fzq : ∀ j, w.frozen? ⟨g, j, none⟩ = false := HS.thaw at0
 go_wp2_with fail
 clear q3 fzq
 refine (show Calls _ _ #[.slice KP s.pd.length kp, .int .i64 line] _ _ from HPM.out ▸ spec_l03Age.calls (Ev.num EA.out) KP kp (linesF s.pd) line q _ (HS.reads' at2).2.2 (HS.reads' at2).2.1 (Ev.is EA.out)).mono ?_
 rintro e w1 ⟨rfl, hb⟩
 clear EA
 replace HS := HS.step (by first | exact hb | exact hb.below)
 clear hb
 have q2 : w1.cell? ⟨g, 2, none⟩ = some (.slice (some ⟨bk, 0, none⟩) m kc) := HS.cell at0 2 _ rfl
 have fzq : ∀ j, w1.frozen? ⟨g, j, none⟩ = false := HS.thaw at0
 go_wp2_with fail
 clear q2 fzq
 refine (show Calls _ _ #[.slice (some ⟨bk, 0, none⟩) m kc, .int .i64 line] _ _ from HCM.out ▸ spec_l00Has.calls (Ev.num EC.out) _ _ s.c.cont line bb _ (HS.reads' at1).2.2 (HS.reads' at1).2.1 (Ev.is EC.out)).mono ?_
 rintro e w2 ⟨rfl, hb⟩
 replace HS := HS.step (by first | exact hb | exact hb.below)
 clear hb
 cases bb
 ·have q2 : w2.cell? ⟨g, 2, none⟩ = some (.slice (some ⟨bk, 0, none⟩) m kc) := HS.cell at0 2 _ rfl
  have fzq : ∀ j, w2.frozen? ⟨g, j, none⟩ = false := HS.thaw at0
  go_wp2_with fail
  clear q2 fzq
  refine (show Calls _ _ #[.slice (some ⟨bk, 0, none⟩) m kc, .int .i64 line] _ _ from HCM.out ▸ spec_l00Has.calls (Ev.num EC.out) _ _ s.c.cont line false _ (HS.reads' at1).2.2 (HS.reads' at1).2.1 (Ev.is EC.out)).mono ?_
  rintro e w3 ⟨rfl, hb⟩
  replace HS := HS.step (by first | exact hb | exact hb.below)
  clear hb
  have hq2 : -1 = q ∨ 0 ≤ q ∧ q < s.pd.length := by rw [← HQ.out]; have := xIdx_ge (fun y => decide (y = line)) (linesF s.pd) 0; rw [linesF_len] at this; unfold placeF; omega
  by_cases hq0 : 0 ≤ q
  ·obtain ⟨i, rfl⟩ : ∃ i : Nat, q = (i : Int) := ⟨q.toNat, by omega⟩
   have hil : i < s.pd.length := by omega
   clear hq2
   obtain ⟨bp, bpc, e_, _, _⟩ := HS.row_form at2 (by simp only [linesF_len, duesF_len]; omega)
   injection e_ with e1_ _ e3_
   subst e1_ e3_
   obtain ⟨bd, bdc, e_, _, _⟩ := HS.row_form at3 (by simp only [linesF_len, duesF_len]; omega)
   injection e_ with e1_ _ e3_
   subst e1_ e3_
   go_wp2_with fail
   replace HS := HS.pick tk4
   replace HS := HS.pick tk2
   replace HS := HS.pick tk4
   replace HS := HS.pick tk4
   replace HS := HS.pick tk4
   refine (drop_calls HS hil (by have := HPL.out; omega)).mono ?_
   clear HS
   rintro e w4 ⟨rfl, P2, kp2, lp2, hp2, D2, kd2, ld2, hd2, HS⟩
   have hel : (s.pd.eraseIdx i).length = s.pd.length - 1 := by rw [List.length_eraseIdx, if_pos hil]
   rw [← hel, show (linesF s.pd).eraseIdx i = linesF (s.pd.eraseIdx i) from (eraseIdx_mapF _ _ _).symm, show (duesF s.pd).eraseIdx i = duesF (s.pd.eraseIdx i) from (eraseIdx_mapF _ _ _).symm] at HS
   replace HS := HS.pick tk4
   replace HS := HS.pick tk3
   replace HS := HS.pick tk3
   replace HS := HS.pick tk4
   replace HS := HS.pick tk4
   have q9 : w4.cell? ⟨g, 9, none⟩ = some (.int .i64 s.n3) := HS.cell at0 9 _ rfl
   have fzq : ∀ j, w4.frozen? ⟨g, j, none⟩ = false := HS.thaw at0
   go_wp2_with fail
   clear q9 fzq
   replace HS := HS.setBox 9 (.int .i64 (s.n3 + 1)) .here
   simp only [List.setIfInBounds_toArray, List.set_cons_zero, List.set_cons_succ] at HS
   generalize w4.setCell ⟨g, 9, none⟩ (.int .i64 (s.n3 + 1)) = wz at HS ⊢
   skip
   go_ret
   have hkk_ : kindF s.c s.pd line = 3 := by unfold kindF; rw [if_neg (by rw [HBB.out]; simp), HQ.out, if_pos hq0]
   have hpp_ : pendF s.c s.pd line = s.pd.eraseIdx i := by unfold pendF; rw [if_neg (by rw [HBB.out]; simp), HQ.out, if_pos hq0, Int.toNat_natCast]
   rw [hkk_, hpp_]
   exact ⟨rfl, bk, kc, lk, hk, P2, kp2, lp2, hp2, D2, kd2, ld2, hd2, KM, km, lm, hm, HS⟩
  ·have q6 : w3.cell? ⟨g, 6, none⟩ = some (.int .i64 s.n0) := HS.cell at0 6 _ rfl
   have fzq : ∀ j, w3.frozen? ⟨g, j, none⟩ = false := HS.thaw at0
   go_wp2_with fail
   clear q6 fzq
   replace HS := HS.setBox 6 (.int .i64 (s.n0 + 1)) .here
   simp only [List.setIfInBounds_toArray, List.set_cons_zero, List.set_cons_succ] at HS
   generalize w3.setCell ⟨g, 6, none⟩ (.int .i64 (s.n0 + 1)) = wz at HS ⊢
   skip
   go_ret
   have hkk_ : kindF s.c s.pd line = 0 := by unfold kindF; rw [if_neg (by rw [HBB.out]; simp), HQ.out, if_neg (by omega)]
   have hpp_ : pendF s.c s.pd line = s.pd := by unfold pendF; rw [if_neg (by rw [HBB.out]; simp), HQ.out, if_neg (by omega)]
   rw [hkk_, hpp_]
   exact ⟨rfl, bk, kc, lk, hk, KP, kp, lp, hp, KD, kd, ld, hd, KM, km, lm, hm, HS⟩
 ·have q5 : w2.cell? ⟨g, 5, none⟩ = some (.slice KM s.c.ms.length km) := HS.cell at0 5 _ rfl
  have fzq : ∀ j, w2.frozen? ⟨g, j, none⟩ = false := HS.thaw at0
  go_wp2_with fail
  clear q5 fzq
  refine (spec_l00Has.calls (Ev.num EM.out) _ _ s.c.ms line b2 _ (HS.reads' at4).2.2 (HS.reads' at4).2.1 (Ev.is EM.out)).mono ?_
  rintro e w3 ⟨rfl, hb⟩
  replace HS := HS.step (by first | exact hb | exact hb.below)
  clear hb
  cases b2
  ·have q2 : w3.cell? ⟨g, 2, none⟩ = some (.slice (some ⟨bk, 0, none⟩) m kc) := HS.cell at0 2 _ rfl
   have fzq : ∀ j, w3.frozen? ⟨g, j, none⟩ = false := HS.thaw at0
   go_wp2_with fail
   clear q2 fzq
   refine (show Calls _ _ #[.slice (some ⟨bk, 0, none⟩) m kc, .int .i64 line] _ _ from HCM.out ▸ spec_l00Has.calls (Ev.num EC.out) _ _ s.c.cont line true _ (HS.reads' at1).2.2 (HS.reads' at1).2.1 (Ev.is EC.out)).mono ?_
   rintro e w5 ⟨rfl, hb⟩
   replace HS := HS.step (by first | exact hb | exact hb.below)
   clear hb
   have q7 : w5.cell? ⟨g, 7, none⟩ = some (.int .i64 s.n1) := HS.cell at0 7 _ rfl
   have fzq : ∀ j, w5.frozen? ⟨g, j, none⟩ = false := HS.thaw at0
   go_wp2_with fail
   clear q7 fzq
   replace HS := HS.setBox 7 (.int .i64 (s.n1 + 1)) .here
   simp only [List.setIfInBounds_toArray, List.set_cons_zero, List.set_cons_succ] at HS
   generalize w5.setCell ⟨g, 7, none⟩ (.int .i64 (s.n1 + 1)) = wz at HS ⊢
   skip
   go_ret
   have hkk_ : kindF s.c s.pd line = 1 := by unfold kindF; rw [if_pos HBB.out, if_neg (by rw [HB2.out]; simp)]
   have hpp_ : pendF s.c s.pd line = s.pd := by unfold pendF; rw [if_pos HBB.out]
   rw [hkk_, hpp_]
   exact ⟨rfl, bk, kc, lk, hk, KP, kp, lp, hp, KD, kd, ld, hd, KM, km, lm, hm, HS⟩
  ·have q8 : w3.cell? ⟨g, 8, none⟩ = some (.int .i64 s.n2) := HS.cell at0 8 _ rfl
   have fzq : ∀ j, w3.frozen? ⟨g, j, none⟩ = false := HS.thaw at0
   go_wp2_with fail
   clear q8 fzq
   replace HS := HS.setBox 8 (.int .i64 (s.n2 + 1)) .here
   simp only [List.setIfInBounds_toArray, List.set_cons_zero, List.set_cons_succ] at HS
   generalize w3.setCell ⟨g, 8, none⟩ (.int .i64 (s.n2 + 1)) = wz at HS ⊢
   skip
   go_ret
   have hkk_ : kindF s.c s.pd line = 2 := by unfold kindF; rw [if_pos HBB.out, if_pos HB2.out]
   have hpp_ : pendF s.c s.pd line = s.pd := by unfold pendF; rw [if_pos HBB.out]
   rw [hkk_, hpp_]
   exact ⟨rfl, bk, kc, lk, hk, KP, kp, lp, hp, KD, kd, ld, hd, KM, km, lm, hm, HS⟩
theorem polT_made {w w' : World} {v0 v1 : Value} {h : List (List Int)} {m : List Int} (h0 : Kd.S (Kd.slice 2 (Kd.int .i64)) 30 w' w.heap.size (fun k_ => some k_ ≠ (v1 : Value).ownBlock) v0 h) (h1 : Kd.R (Kd.int .i64) 2 w' w.heap.size (fun _ => True) v1 m) : (polT h m (.agg #[v0, v1])).P w' w.heap.size w'.heap.size := by
 obtain ⟨A, c, rfl⟩ := Kd.S_slice h0
 obtain ⟨B, b, rfl⟩ := Kd.R_slice h1
 exact ⟨A, c, B, b, rfl, nest_new (Kd.S_mono h0 (fun _ _ => trivial)), flat_new h1⟩
theorem polT_C {W : World} {A B : Option Addr} {c b lo hi : Nat} {h : List (List Int)} {m : List Int} (hP : (polT h m (.agg #[.slice A h.length c, .slice B m.length b])).P W lo hi) : Kd.C (Kd.slice 2 (Kd.int .i64)) W A h.length h ∧ Kd.C (Kd.int .i64) W B m.length m := by
 obtain ⟨A', c', B', b', e, h1, h2⟩ := hP
 injection e with e
 have e1 : #[Value.slice A h.length c, .slice B m.length b].toList = #[Value.slice A' h.length c', .slice B' m.length b'].toList := congrArg Array.toList e
 simp only [List.cons.injEq, Value.slice.injEq, and_true, true_and] at e1
 obtain ⟨⟨rfl, rfl⟩, rfl, rfl⟩ := e1
 exact ⟨(Kd.S_reads' h1).2.2, (Kd.R_reads' h2).2.2⟩
theorem Rd.pol {w0 W : World} {L : List (Thing × Nat × Nat)} {A B : Option Addr} {c b lo hi : Nat} {h : List (List Int)} {m : List Int} (HD : Hold w0 W L) (hm : (polT h m (.agg #[.slice A h.length c, .slice B m.length b]), lo, hi) ∈ L) : Kd.C (Kd.slice 2 (Kd.int .i64)) W A h.length h ∧ Kd.C (Kd.int .i64) W B m.length m := polT_C (HD.get hm).1
theorem Rd.polR {w0 : World} {R : List (Thing × Nat × Nat)} {A B : Option Addr} {c b lo hi : Nat} {h : List (List Int)} {m : List Int} (hm : (polT h m (.agg #[.slice A h.length c, .slice B m.length b]), lo, hi) ∈ R) : Rd w0 R (Kd.slice 2 (Kd.int .i64)) A h ∧ Rd w0 R (Kd.int .i64) B m :=
 ⟨fun W L hW hs => (Rd.pol hW (hs _ hm)).1, fun W L hW hs => (Rd.pol hW (hs _ hm)).2⟩
theorem gsF_len {gs : List Int} (h : gs.length ≤ 4) : gs.length ≤ 4611686018427387904 := by omega
theorem due_w {kk : Nat} {a2 : Int} (h : (kk : Int) < 60) (h2 : 0 ≤ a2 ∧ a2 ≤ 8) : wrap64 ((kk : Int) + 1) = (kk : Int) + 1 ∧ wrap64 ((kk : Int) + 1 + a2) = (kk : Int) + 1 + a2 :=
 ⟨wrap_id (by omega) (by omega), wrap_id (by omega) (by omega)⟩
theorem unmark_false (line us : Int) (ms : List Int) : unmarkF line false ms us = (dropM ms line, us) := by
 unfold unmarkF
 by_cases h : hasF ms line = true
 ·rw [if_pos h]; rfl
 ·rw [if_neg h, dropM_not (fun k => h ((hasF_mem _ _).2 k))]
theorem specEmptyF_ev (h : List (List Int)) (m : List Int) (hm : m.length ≤ 1048576) : Ev (fun k => spec_l03Empty.f k h m) (List.replicate m.length (-1)) := by
 unfold spec_l03Empty.f
 refine Ev.upto (F := fun k s i => spec_l03Empty.l0 k s i h m) (n := m.length) (r := List.replicate m.length (-1)) (fun i s => s = List.replicate i (-1)) ?_ ?_ 0 (Nat.zero_le _) _ (by simp)
 ·intro i s hi hs ih
  refine Ev.succ ?_
  simp only [spec_l03Empty.l0]
  rw [wrap_succ hi (by omega)]
  refine Ev.pos (by omega) (Ev.pos (by rw [hs, List.length_replicate]; omega) (ih _ ?_))
  rw [hs, List.replicate_succ']
 ·intro s hs
  refine Ev.succ ?_
  simp only [spec_l03Empty.l0]
  exact Ev.neg (by omega) (Ev.some hs)
set_option maxHeartbeats 4000000 in
set_option maxRecDepth 100000 in
theorem fdo_calls {w : World} (gf : Nat) (a0 a1 a2 a3 : Int) (hb0 : w.heap[gf]? = some (.cells #[.int .i64 a0, .int .i64 a1, .int .i64 a2, .int .i64 a3] 29 (0, 0))) (AL : Option Addr) (cL : Nat) (l : List S27) (hT : Kd.C k27 w AL l.length l) (hct : l.length ≤ cL) (hp : okPref a0 a1 a2 a3 = true) (hl60 : l.length ≤ 60) (hv : (l.any xpLoad) = false) {n : Nat} (hna : a3 = (n : Int)) (hn : 1 ≤ n ∧ n ≤ 6) {fin : FetchV} (hfin : runF (lruHit n) (lruMiss n) a2 0 (itemsF a0 a1 l) (startF n) = fin) :
  Calls Try.prog 59 #[.pointer (some ⟨gf, 0, none⟩), .slice AL l.length cL] w fun e w' => ∃ v, e = .returned (.tuple #[v, .agg #[.int .i64 fin.n0, .int .i64 fin.n1, .int .i64 fin.n2, .int .i64 fin.n3, .int .i64 fin.is, .int .i64 (fin.c.us + ((fin.c.ms.length : Int) + (fin.pd.length : Int)))]]) ∧ Kd.R (Kd.int .i64) 2 w' w.heap.size (fun _ => True) v fin.out ∧ Below w.heap.size w w' := by
 have HB0 := Aside0.mk hb0
 have HT := Aside0.mk hT
 have HCT := Aside0.mk hct
 have HPR := Aside0.mk hp
 have HL60 := Aside0.mk hl60
 have HV := Aside0.mk hv
 have HNA := Aside0.mk hna
 have HN := Aside0.mk hn
 have HF := Aside0.mk hfin
 clear hb0 hT hct hp hl60 hv hn hfin
 clear hna
 have HLV := Aside0.mk (lru_validF HN.out.1 HN.out.2)
 have HPF := Aside0.mk (pref_facts HPR.out)
 have EL := Aside0.mk (specLru_ev HN.out.1 HN.out.2)
 rw [← HNA.out] at EL
 have EE := Aside0.mk (specEmptyF_ev (lruHit n) (lruMiss n) (by have := HLV.out.2.2.2; have := HN.out; omega))
 have HS := (Hold.start w).box #[.int .i64 0, .int .i64 0, .int .i64 0, .int .i64 0, .int .i64 0, .int .i64 0] 40
 go_enter Try.func59, Try.ntmps59
 skip
 have x3 : (w.alloc (.cells #[.int .i64 0, .int .i64 0, .int .i64 0, .int .i64 0, .int .i64 0, .int .i64 0] 40)).cell? ⟨gf, 3, none⟩ = some (.int .i64 a3) := ((blk_cell (blk_below HB0.out HS.below) 3).trans rfl)
 go_wp2_with fail
 clear x3
 generalize (w.alloc (.cells #[.int .i64 0, .int .i64 0, .int .i64 0, .int .i64 0, .int .i64 0, .int .i64 0] 40)) = wa at HS ⊢
 generalize w.heap.size = rb at HS ⊢
 refine (spec_l03Lru.calls (Ev.num EL.out) a3 (lruHit n) (lruMiss n) _ (Ev.is EL.out)).mono ?_
 rintro e w1 ⟨v0, v1, rfl, hq0, hq1, hb⟩
 obtain ⟨A0, c0, rfl⟩ := Kd.S_slice hq0
 obtain ⟨A1, c1, rfl⟩ := Kd.R_slice hq1
 have hc0 := (Kd.S_reads' hq0).2.1
 have hc1 := (Kd.R_reads' hq1).2.1
 have HC0 := Aside0.mk hc0
 have HC1 := Aside0.mk hc1
 replace HS := HS.add hb (polT_made hq0 hq1)
 clear hq0 hq1 hc0 hc1 hb
 generalize wa.heap.size = lo4 at HS
 generalize hw1 : w1.heap.size = hi4 at HS
 clear hw1
 go_wp2_with fail
 replace HS := (((HS.empty (Kd.int .i64) 2).empty (Kd.int .i64) 2).empty (Kd.int .i64) 2).box #[.slice A0 (lruHit n).length c0, .slice A1 (lruMiss n).length c1, .slice none 0 0, .slice (some ⟨w1.heap.size, 0, none⟩) 0 0, .slice (some ⟨(w1.heap.size + 1), 0, none⟩) 0 0, .slice (some ⟨(w1.heap.size + 1 + 1), 0, none⟩) 0 0, .int .i64 0, .int .i64 0, .int .i64 0, .int .i64 0, .int .i64 0, .int .i64 0] 125
 simp only [World.size_alloc] at HS
 generalize (((w1.alloc (.cells #[] 2)).alloc (.cells #[] 2)).alloc (.cells #[] 2)).alloc (.cells #[.slice A0 (lruHit n).length c0, .slice A1 (lruMiss n).length c1, .slice none 0 0, .slice (some ⟨w1.heap.size, 0, none⟩) 0 0, .slice (some ⟨(w1.heap.size + 1), 0, none⟩) 0 0, .slice (some ⟨(w1.heap.size + 1 + 1), 0, none⟩) 0 0, .int .i64 0, .int .i64 0, .int .i64 0, .int .i64 0, .int .i64 0, .int .i64 0] 125) = w2 at HS ⊢
 generalize w1.heap.size + 1 + 1 + 1 = g at HS ⊢
 generalize w1.heap.size + 1 + 1 = b6 at HS ⊢
 generalize w1.heap.size + 1 = b5 at HS ⊢
 generalize w1.heap.size = b4 at HS ⊢
 replace HS := HS.pick tk5
 replace HS := HS.pick tk5
 replace HS := HS.pick tk3
 replace HS := HS.pick tk4
 replace HS := HS.pick tk5
 replace HS := HS.pick tk5
 go_wp2_with fail
 refine (spec_l03Empty.gen (Ev.num EE.out) g A0 c0 (lruHit n) A1 c1 (lruMiss n) _ _ _ 125 0 rfl rfl (by decide) (HS.blk at0) (Rd.pol HS at4).1 HC0.out (Rd.pol HS at4).2 HC1.out (Ev.is EE.out)).mono ?_
 rintro e w3 ⟨v_, rfl, hr, hb⟩
 rw [HLV.out.2.2.2] at hr
 replace HS := HS.made hb hr
 clear hb hr
 obtain ⟨bk, kc, rfl, _, _⟩ := HS.row_form at0 (by rw [List.length_replicate]; have := HN.out; omega)
 rw [List.length_replicate] at HS ⊢
 have q2 : w3.cell? ⟨g, 2, none⟩ = some (.slice none 0 0) := HS.cell at1 2 _ rfl
 have fzq : ∀ j, w3.frozen? ⟨g, j, none⟩ = false := HS.thaw at1
 go_upto_region 3 with fail
 clear q2 fzq
 replace HS := HS.setBox 2 (.slice (some ⟨bk, 0, none⟩) n kc) (.there .here)
 simp only [List.setIfInBounds_toArray, List.set_cons_zero, List.set_cons_succ] at HS
 generalize w3.setCell ⟨g, 2, none⟩ (.slice (some ⟨bk, 0, none⟩) n kc) = w3b at HS ⊢
 replace HS := HS.pick tk5
 replace HS := HS.pick tk6
 replace HS := HS.pick tk6
 replace HS := HS.pick tk6
 replace HS := HS.pick tk6
 replace HS := HS.pick tk5
 replace HS := HS.pick tk6
 have HRP : Aside0 (∀ R, (polT (lruHit n) (lruMiss n) (.agg #[.slice A0 (lruHit n).length c0, .slice A1 (lruMiss n).length c1]), lo4, hi4) ∈ R → Rd w R (Kd.slice 2 (Kd.int .i64)) A0 (lruHit n) ∧ Rd w R (Kd.int .i64) A1 (lruMiss n)) := ⟨fun R hm => Rd.polR hm⟩
 go_wp2_with fail
 replace HS := HS.empty (Kd.int .i64) 2
 generalize w3b.alloc (.cells #[] 2) = w4 at HS ⊢
 generalize w3b.heap.size = bo at HS ⊢
 replace HS := HS.pick tk6
 replace HS := HS.pick tk7
 replace HS := HS.pick tk2
 replace HS := HS.pick tk7
 replace HS := HS.pick tk7
 replace HS := HS.pick tk7
 replace HS := HS.pick tk7
 replace HS := HS.pick tk7
 have H0 : Aside0 (SpecF w w4 ((flat (Kd.int .i64) 2 (.slice (some ⟨bo, 0, none⟩) (startF n).out.length 0) (startF n).out, _, _) :: [(polT (lruHit n) (lruMiss n) (.agg #[.slice A0 (lruHit n).length c0, .slice A1 (lruMiss n).length c1]), lo4, hi4), (boxT #[.int .i64 0, .int .i64 0, .int .i64 0, .int .i64 0, .int .i64 0, .int .i64 0] 40, rb, rb + 1)]) g n A0 c0 (lruHit n).length A1 c1 (lruMiss n).length (startF n)) := ⟨⟨bk, kc, _, _, _, _, _, _, _, _, _, _, _, _, _, _, HS⟩⟩
 clear HS
 go_loopg [7, 8] l.length (fun gg s7 s8 wr => ∃ (kk : Nat) (s : FetchV) (A : Option Addr) (c lo hi : Nat), kk ≤ l.length ∧ l.length - kk ≤ gg ∧ s7 = .slice A s.out.length c ∧ s8 = .int .i64 kk ∧ Aside0 (runF (lruHit n) (lruMiss n) a2 kk ((itemsF a0 a1 l).drop kk) s = fin) ∧ Aside0 (s.c.Ok n ∧ s.Bnd kk) ∧ Aside0 (SpecF w wr ((flat (Kd.int .i64) 2 (.slice A s.out.length c) s.out, lo, hi) :: [(polT (lruHit n) (lruMiss n) (.agg #[.slice A0 (lruHit n).length c0, .slice A1 (lruMiss n).length c1]), lo4, hi4), (boxT #[.int .i64 0, .int .i64 0, .int .i64 0, .int .i64 0, .int .i64 0, .int .i64 0] 40, rb, rb + 1)]) g n A0 c0 (lruHit n).length A1 c1 (lruMiss n).length s))
 case atStart => exact ⟨0, startF n, _, _, _, _, Nat.zero_le _, Nat.le_refl _, rfl, rfl, ⟨HF.out⟩, ⟨start_okF n⟩, H0⟩
 case round =>
  clear H0 HF EL EE
  obtain ⟨kk, s, A, c, lo, hi, hkk, hg_, rfl, rfl, HRUN, HI, HSS⟩ := hrel
  by_cases hlt : kk < l.length
  ·have hltz : (kk : Int) < (l.length : Int) := by omega
   have hbel : Below w.heap.size w wr := by obtain ⟨_, _, _, _, _, _, _, _, _, _, _, _, _, _, _, _, H_⟩ := HSS.out; exact H_.below
   obtain ⟨ad, e, hx0, hx1⟩ := at_T27 (Kd.C_below HT.out hbel) (kk : Int) (by omega) hltz
   subst e
   obtain ⟨x, hx⟩ : ∃ x, x = rd_T27 l (kk : Int) := ⟨_, rfl⟩
   simp only [Int.toNat_natCast] at hx0 hx1
   rw [← hx] at hx0 hx1
   have HX : Aside0 (x = l.getD kk z27) := ⟨hx⟩
   clear hx hbel
   have bk60 : (kk : Int) < 60 := by have := HL60.out; omega
   obtain ⟨line, hline⟩ : ∃ line, x.f1 = line := ⟨_, rfl⟩
   rw [hline] at hx1
   have HIT : Aside0 (itemF a0 a1 l kk = (line, guessAt a0 a1 l kk)) := ⟨by unfold itemF; rw [← HX.out, hline]⟩
   have HIO := Aside0.mk (itemF_ok a0 HV.out HPF.out.1.2 hlt)
   rw [HIT.out] at HIO
   clear hline
   go_upto_region 8 with fail
   go_wp2_with fail
   clear hx0 hx1
   obtain ⟨hA1, hA2⟩ := arrive_okF HLV.out.1 HLV.out.2.1 HI.out.1 HI.out.2 kk
   have HA := Aside0.mk (And.intro hA1 hA2)
   clear hA1 hA2
   refine (arrive_calls HSS.out ((HRP.out _ at1).1) HC0.out ((HRP.out _ at1).2) HC1.out HN.out HLV.out.1 HLV.out.2.1 HI.out.1 HI.out.2 (by have := HL60.out; omega)).mono ?_
   clear HSS
   rintro e w5 ⟨rfl, HSS⟩
   change SpecF w w5 ((flat (Kd.int .i64) 2 (.slice A s.out.length c) s.out, lo, hi) :: [(polT (lruHit n) (lruMiss n) (.agg #[.slice A0 (lruHit n).length c0, .slice A1 (lruMiss n).length c1]), lo4, hi4), (boxT #[.int .i64 0, .int .i64 0, .int .i64 0, .int .i64 0, .int .i64 0, .int .i64 0] 40, rb, rb + 1)]) g n A0 c0 (lruHit n).length A1 c1 (lruMiss n).length (arriveF (lruHit n) (lruMiss n) kk s) at HSS
   obtain ⟨s1, hs1⟩ : ∃ s1, arriveF (lruHit n) (lruMiss n) kk s = s1 := ⟨_, rfl⟩
   have ho1 : s.out = s1.out := by rw [← hs1]; rfl
   rw [hs1] at HSS HA
   have HS1 := Aside0.mk hs1
   rw [ho1] at HSS ⊢
   clear hs1
   go_wp2_with fail
   refine (load_calls HSS (by have := HA.out.2.all; have := HA.out.2.us; have := HA.out.2.is; omega) (by have := HA.out.2.all; have := HA.out.2.us; have := HA.out.2.is; omega) (by have := HA.out.1.cont; have := HN.out; omega) (by have := HA.out.2.n0; have := HA.out.2.n1; have := HA.out.2.n2; have := HA.out.2.n3; omega)).mono ?_
   clear HSS
   rintro e w6 ⟨rfl, HSS⟩
   obtain ⟨bk2, kc2, lk2, hk2, KP, kp, lp, hp, KD, kd, ld, hd, KM, km, lm, hm, HS⟩ := HSS
   obtain ⟨s2, hs2⟩ : ∃ s2, { countF (kindF s1.c s1.pd line) s1 with pd := pendF s1.c s1.pd line } = s2 := ⟨_, rfl⟩
   skip
   have HS2 := Aside0.mk hs2
   replace HS : Hold w w6 [(boxT #[.slice A0 (lruHit n).length c0, .slice A1 (lruMiss n).length c1, .slice (some ⟨bk2, 0, none⟩) n kc2, .slice KP s2.pd.length kp, .slice KD s2.pd.length kd, .slice KM s2.c.ms.length km, .int .i64 s2.n0, .int .i64 s2.n1, .int .i64 s2.n2, .int .i64 s2.n3, .int .i64 s2.is, .int .i64 s2.c.us] 125, g, g + 1), (flat (Kd.int .i64) 2 (.slice (some ⟨bk2, 0, none⟩) n kc2) s2.c.cont, lk2, hk2), (flat (Kd.int .i64) 2 (.slice KP s2.pd.length kp) (linesF s2.pd), lp, hp), (flat (Kd.int .i64) 2 (.slice KD s2.pd.length kd) (duesF s2.pd), ld, hd), (flat (Kd.int .i64) 2 (.slice KM s2.c.ms.length km) s2.c.ms, lm, hm), (flat (Kd.int .i64) 2 (.slice A s1.out.length c) s1.out, lo, hi), (polT (lruHit n) (lruMiss n) (.agg #[.slice A0 (lruHit n).length c0, .slice A1 (lruMiss n).length c1]), lo4, hi4), (boxT #[.int .i64 0, .int .i64 0, .int .i64 0, .int .i64 0, .int .i64 0, .int .i64 0] 40, rb, rb + 1)] := by rw [← hs2]; exact HS
   clear hs2
   obtain ⟨kd_, hkd⟩ : ∃ kd_, kindF s1.c s1.pd line = kd_ := ⟨_, rfl⟩
   have HKD := Aside0.mk hkd
   rw [hkd]
   clear hkd
   go_upto_region 10 with ((with_reducible refine gate_builtin (b := .append) (xs := #[.tmp 44, .tmp 48]) rfl ?_); at_builtin; refine Hold.appendI HS rfl (.tmp 44) (.tmp 48) 30 2 rfl Try.underlying30 svInfo (.slice A s1.out.length c) (s1.out) kd_ rfl rfl at5 (by have := HA.out.2.out; omega) ?_; intro A9 c9 lo9 hi9 w7 HQ; replace HS := HQ _ (.there (.there (.there (.there (.there .here))))); clear HQ)
   replace HS := HS.pick tk7
   replace HS := HS.pick tk7
   replace HS := HS.pick tk7
   replace HS := HS.pick tk6
   replace HS := HS.pick tk6
   replace HS := HS.pick tk7
   replace HS := HS.pick tk7
   replace HS := HS.pick tk7
   go_wp2_with fail
   have hc2 : s2.c = s1.c := by rw [← HS2.out]; rfl
   rw [hc2] at HS
   have HC2 := Aside0.mk hc2
   clear hc2
   refine (put_calls HS ((HRP.out _ at3).1) HC0.out ((HRP.out _ at3).2) HC1.out (by have := HA.out.2.all; have := HA.out.2.us; have := HA.out.2.is; omega) (by have := HA.out.2.all; have := HA.out.2.us; have := HA.out.2.is; omega) HN.out (HLV.out.1 _ _ HA.out.1.cont) (HLV.out.2.1 _ _ HA.out.1.cont) (line := line)).mono ?_
   clear HS
   rintro e w8 ⟨rfl, bk3, kc3, lk3, hk3, KM3, km3, lm3, hm3, HS⟩
   have HPS := Aside0.mk (put_sum (lruHit n) (lruMiss n) line HA.out.1.rising)
   replace HS := HS.pick tk7
   replace HS := HS.pick tk7
   replace HS := HS.pick tk7
   replace HS := HS.pick tk7
   replace HS := HS.pick tk7
   replace HS := HS.pick tk6
   replace HS := HS.pick tk7
   replace HS := HS.pick tk7
   go_wp2_with fail
   refine (unmark_calls HS (by have := HPS.out; have := HA.out.2.all; have := HA.out.2.us; have := HA.out.2.is; omega) (by have := HPS.out; have := HA.out.2.all; have := HA.out.2.us; have := HA.out.2.is; omega) (line := line) (b := false)).mono ?_
   clear HS
   rintro e w9 ⟨rfl, KM4, km4, lm4, hm4, HS⟩
   rw [unmark_false] at HS
   replace HS := HS.pick tk7
   replace HS := HS.pick tk7
   replace HS := HS.pick tk7
   replace HS := HS.pick tk4
   replace HS := HS.pick tk7
   replace HS := HS.pick tk7
   replace HS := HS.pick tk7
   replace HS := HS.pick tk7
   obtain ⟨s3, hs3⟩ : ∃ s3, takeF (lruHit n) (lruMiss n) line s1 = s3 := ⟨_, rfl⟩
   have HS3 := Aside0.mk hs3
   replace HS : Hold w w9 [(boxT #[.slice A0 (lruHit n).length c0, .slice A1 (lruMiss n).length c1, .slice (some ⟨bk3, 0, none⟩) n kc3, .slice KP s3.pd.length kp, .slice KD s3.pd.length kd, .slice KM4 s3.c.ms.length km4, .int .i64 s3.n0, .int .i64 s3.n1, .int .i64 s3.n2, .int .i64 s3.n3, .int .i64 s3.is, .int .i64 s3.c.us] 125, g, g + 1), (flat (Kd.int .i64) 2 (.slice (some ⟨bk3, 0, none⟩) n kc3) s3.c.cont, lk3, hk3), (flat (Kd.int .i64) 2 (.slice KP s3.pd.length kp) (linesF s3.pd), lp, hp), (flat (Kd.int .i64) 2 (.slice KD s3.pd.length kd) (duesF s3.pd), ld, hd), (flat (Kd.int .i64) 2 (.slice KM4 s3.c.ms.length km4) s3.c.ms, lm4, hm4), (flat (Kd.int .i64) 2 (.slice A9 s3.out.length c9) s3.out, lo9, hi9), (polT (lruHit n) (lruMiss n) (.agg #[.slice A0 (lruHit n).length c0, .slice A1 (lruMiss n).length c1]), lo4, hi4), (boxT #[.int .i64 0, .int .i64 0, .int .i64 0, .int .i64 0, .int .i64 0, .int .i64 0] 40, rb, rb + 1)] := by rw [← hs3]; rw [← HS2.out, ← HKD.out] at HS; refine (show Hold w w9 _ from ?_); rw [show (takeF (lruHit n) (lruMiss n) line s1).out.length = s1.out.length + 1 by simp [takeF, countF]]; exact HS
   have hol : s1.out.length + 1 = s3.out.length := by rw [← hs3]; simp [takeF, countF]
   rw [hol]
   clear hs3 hol
   obtain ⟨hT1, hT2⟩ := take_okF HLV.out.1 HLV.out.2.1 HA.out.1 HA.out.2 HIO.out.1
   rw [HS3.out] at hT1 hT2
   have HTK := Aside0.mk (And.intro hT1 hT2)
   have his : s3.is ≤ 4 * kk := by rw [← HS3.out]; exact HA.out.2.is.2
   have HIS := Aside0.mk his
   clear hT1 hT2 his
   have EG := Aside0.mk (guess_ev a0 a1 a2 a3 l kk HL60.out HV.out HPF.out.1.1 HPF.out.1.2 hlt).1
   go_wp2_with fail
   refine (spec_l09Guess.calls (Ev.num EG.out) gf a0 a1 a2 a3 _ cL l kk (guessAt a0 a1 l kk) _ (blk_below HB0.out HS.below) (Kd.C_below HT.out HS.below) HCT.out (Ev.is EG.out)).mono ?_
   rintro e w10 ⟨v_, rfl, hr, hb⟩
   clear EG
   obtain ⟨gs, hgs⟩ : ∃ gs, guessAt a0 a1 l kk = gs := ⟨_, rfl⟩
   have HGS := Aside0.mk hgs
   rw [hgs] at hr HIO
   clear hgs
   obtain ⟨AG, cg, rfl⟩ := Kd.R_slice hr
   replace HS := HS.made hb hr
   clear hb hr
   generalize w9.heap.size = lg at HS
   generalize w10.heap.size = hg at HS
   replace HS := HS.pick tk8
   replace HS := HS.pick tk8
   replace HS := HS.pick tk8
   replace HS := HS.pick tk3
   replace HS := HS.pick tk8
   replace HS := HS.pick tk8
   replace HS := HS.pick tk8
   replace HS := HS.pick tk8
   replace HS := HS.pick tk8
   have H3 : Aside0 (SpecF w w10 ((flat (Kd.int .i64) 2 (.slice AG gs.length cg) gs, lg, hg) :: (flat (Kd.int .i64) 2 (.slice A9 s3.out.length c9) s3.out, lo9, hi9) :: [(polT (lruHit n) (lruMiss n) (.agg #[.slice A0 (lruHit n).length c0, .slice A1 (lruMiss n).length c1]), lo4, hi4), (boxT #[.int .i64 0, .int .i64 0, .int .i64 0, .int .i64 0, .int .i64 0, .int .i64 0] 40, rb, rb + 1)]) g n A0 c0 (lruHit n).length A1 c1 (lruMiss n).length { s3 with pd := (issueF ((kk : Int) + 1 + a2) s3.c.cont (gs.take 0) s3.pd s3.is).1, is := (issueF ((kk : Int) + 1 + a2) s3.c.cont (gs.take 0) s3.pd s3.is).2 }) := ⟨⟨bk3, kc3, _, _, KP, kp, _, _, KD, kd, _, _, KM4, km4, _, _, HS⟩⟩
   clear HS
   go_wp2_with fail
   go_loopg [11] gs.length (fun gg s11 wq => ∃ q : Nat, q ≤ gs.length ∧ gs.length - q ≤ gg ∧ s11 = .int .i64 q ∧ Aside0 (SpecF w wq ((flat (Kd.int .i64) 2 (.slice AG gs.length cg) gs, lg, hg) :: (flat (Kd.int .i64) 2 (.slice A9 s3.out.length c9) s3.out, lo9, hi9) :: [(polT (lruHit n) (lruMiss n) (.agg #[.slice A0 (lruHit n).length c0, .slice A1 (lruMiss n).length c1]), lo4, hi4), (boxT #[.int .i64 0, .int .i64 0, .int .i64 0, .int .i64 0, .int .i64 0, .int .i64 0] 40, rb, rb + 1)]) g n A0 c0 (lruHit n).length A1 c1 (lruMiss n).length { s3 with pd := (issueF ((kk : Int) + 1 + a2) s3.c.cont (gs.take q) s3.pd s3.is).1, is := (issueF ((kk : Int) + 1 + a2) s3.c.cont (gs.take q) s3.pd s3.is).2 }))
   case atStart => exact ⟨0, Nat.zero_le _, Nat.le_refl _, rfl, H3⟩
   case round =>
    clear H3
    obtain ⟨q, hq, hgq, rfl, HQQ⟩ := hrel
    by_cases hqt : q < gs.length
    ·have hqz : (q : Int) < (gs.length : Int) := by omega
     have hq0 : (0 : Int) ≤ q := Int.natCast_nonneg q
     have ht1 := take_succ gs q 0 hqt
     obtain ⟨y, hy⟩ : ∃ y, gs.getD q 0 = y := ⟨_, rfl⟩
     rw [hy] at ht1
     have HY := Aside0.mk hy
     have hT := issueF_app ((kk : Int) + 1 + a2) s3.c.cont (gs.take q) [y] s3.pd s3.is
     rw [← ht1] at hT
     obtain ⟨l1_, l2_, l3_, l4_⟩ := issue_le ((kk : Int) + 1 + a2) s3.c.cont (gs.take q) s3.pd s3.is (fun z hz => HIO.out.2.1 z (List.mem_of_mem_take hz)) HTK.out.2.lines
     have l5_ : (gs.take q).length = q := by rw [List.length_take]; omega
     generalize issueF ((kk : Int) + 1 + a2) s3.c.cont (gs.take q) s3.pd s3.is = pn at HQQ hT l1_ l2_ l3_ l4_
     obtain ⟨pd, is_⟩ := pn
     have HIS2 : Aside0 (0 ≤ is_ ∧ is_ ≤ 1000 ∧ pd.length ≤ 500) := ⟨by simp only at l1_ l2_ l3_; have := HTK.out.2.is; have := HTK.out.2.all; have := HTK.out.2.us; have := HIO.out.2.2; omega⟩
     have HTT := Aside0.mk hT
     clear hT ht1 hy l1_ l2_ l3_ l4_ l5_
     obtain ⟨s4, hs4⟩ : ∃ s4 : FetchV, { s3 with pd := pd, is := is_ } = s4 := ⟨_, rfl⟩
     rw [hs4] at HQQ
     have HS4 := Aside0.mk hs4
     clear hs4
     have HP4 : Aside0 (s4.pd = pd ∧ s4.is = is_ ∧ s4.c = s3.c) := ⟨by rw [← HS4.out]; exact ⟨rfl, rfl, rfl⟩⟩
     obtain ⟨bk, kc, lk, hk, KP, kp, lp, hp, KD, kd, ld, hd, KM, km, lm, hm, HS⟩ := HQQ.out
     clear HQQ
     change Hold w wr [(boxT #[.slice A0 (lruHit n).length c0, .slice A1 (lruMiss n).length c1, .slice (some ⟨bk, 0, none⟩) n kc, .slice KP s4.pd.length kp, .slice KD s4.pd.length kd, .slice KM s4.c.ms.length km, .int .i64 s4.n0, .int .i64 s4.n1, .int .i64 s4.n2, .int .i64 s4.n3, .int .i64 s4.is, .int .i64 s4.c.us] 125, g, g + 1), (flat (Kd.int .i64) 2 (.slice (some ⟨bk, 0, none⟩) n kc) s4.c.cont, lk, hk), (flat (Kd.int .i64) 2 (.slice KP s4.pd.length kp) (linesF s4.pd), lp, hp), (flat (Kd.int .i64) 2 (.slice KD s4.pd.length kd) (duesF s4.pd), ld, hd), (flat (Kd.int .i64) 2 (.slice KM s4.c.ms.length km) s4.c.ms, lm, hm), (flat (Kd.int .i64) 2 (.slice AG gs.length cg) gs, lg, hg), (flat (Kd.int .i64) 2 (.slice A9 s3.out.length c9) s3.out, lo9, hi9), (polT (lruHit n) (lruMiss n) (.agg #[.slice A0 (lruHit n).length c0, .slice A1 (lruMiss n).length c1]), lo4, hi4), (boxT #[.int .i64 0, .int .i64 0, .int .i64 0, .int .i64 0, .int .i64 0, .int .i64 0] 40, rb, rb + 1)] at HS
     obtain ⟨bg, cg_, e_, _, _⟩ := HS.row_form at5 (by omega)
     injection e_ with e1_ _ e3_
     subst e1_ e3_
     have HCM := Aside0.mk (HS.reads' at1).1
     have HPM := Aside0.mk (HS.reads' at2).1
     have hc4 : s4.c.cont.length ≤ 6 := by rw [← HCM.out]; exact HN.out.2
     have hp4 : (linesF s4.pd).length ≤ 500 := by rw [linesF_len, HP4.out.1]; exact HIS2.out.2.2
     have E1 := Aside0.mk (specHas_ev s4.c.cont y (by omega))
     have E2 := Aside0.mk (specHas_ev (linesF s4.pd) y (by omega))
     obtain ⟨b1, hb1⟩ : ∃ b, hasF s4.c.cont y = b := ⟨_, rfl⟩
     rw [show (s4.c.cont.any fun z => decide (z = y)) = b1 from hb1] at E1
     have HB1 := Aside0.mk hb1
     obtain ⟨b2, hb2⟩ : ∃ b, hasF (linesF s4.pd) y = b := ⟨_, rfl⟩
     rw [show ((linesF s4.pd).any fun z => decide (z = y)) = b2 from hb2] at E2
     have HB2 := Aside0.mk hb2
     clear hb1 hb2 hc4 hp4
     have hqb1 : ((q : Int) < (gs.length : Int)) = True := eq_true hqz
     have hqb2 : ((0 : Int) ≤ (q : Int)) = True := eq_true hq0
     go_upto_region 16 with fail
     cases b1
     ·cases b2
      ·have HD := Hold.drew HS
       refine start_ (n := 22) (S := fun w' => w'.cell? ⟨g, 2, none⟩ = some (.slice (some ⟨bk, 0, none⟩) n kc) ∧ w'.cell? ⟨g, 3, none⟩ = some (.slice KP s4.pd.length kp) ∧ w'.cell? ⟨bg, q, none⟩ = some (.int .i64 y)) (ds := []) #[false, false, false, false, false, false, false, false, false, false, false, false, false, false, false, false, false, false, false, false, false, false] (by kernel_rfl) rfl rfl ⟨(HD.cell at0 2 _ rfl), (HD.cell at0 3 _ rfl), (by have := (HD.cellI at5 (q : Int) hq0 (by exact hqz)).1; rwa [Int.toNat_natCast, HY.out] at this)⟩ (fun hHeld => ?_)
       generalize wr.drew = wd at HD hHeld ⊢
       refine pu_ (i := 0) (N := some 66) (h := ?_)
       refine pu_ (i := 1) (N := some 67) (h := ?_)
       refine pu_ (i := 2) (N := some 68) (h := ?_)
       refine pu_ (i := 4) (N := some 70) (h := ?_)
       refine pu_ (i := 5) (N := some 71) (h := ?_)
       refine pu_ (i := 6) (N := some 72) (h := ?_)
       refine ta_ (i := 3) (N := some 69) (hS := hHeld) (hy := by rintro w' ⟨s0, s1, s2⟩; go_simp; with_reducible rfl) (h := ?_)
       refine ta_ (i := 7) (N := some 73) (hS := hHeld) (hy := by rintro w' ⟨s0, s1, s2⟩; go_simp; with_reducible rfl) (h := ?_)
       refine one_ (i := 8) (N := some 74) #[true, true, true, true, true, true, true, true, true, false, false, false, false, false, false, false, false, false, false, false, false, false] rfl rfl (by kernel_rfl) (by decide) (fun K hK => ?_)
       refine goes_ Try.func95 (by kernel_rfl) rfl #[.slice (some ⟨bk, 0, none⟩) n kc, .int .i64 y] (by rfl) rfl rfl (by simp only [List.map_toArray, List.map_cons, List.map_nil]; rfl) ?_
       with_reducible refine (show Calls _ _ #[.slice (some ⟨bk, 0, none⟩) n kc, .int .i64 y] _ _ from HCM.out ▸ spec_l00Has.calls (Ev.num E1.out) _ _ (s4.c.cont) y false _ (HD.reads' at1).2.2 (HD.reads' at1).2.1 (Ev.is E1.out)).mono ?_
       rintro e w11 ⟨rfl, hb⟩
       refine ⟨_, rfl, ?_⟩
       replace HD := HD.step (by first | exact hb | exact hb.below)
       clear hb
       have s0_ : w11.cell? ⟨g, 2, none⟩ = some (.slice (some ⟨bk, 0, none⟩) n kc) := HD.cell at0 2 _ rfl
       have s1_ : w11.cell? ⟨g, 3, none⟩ = some (.slice KP s4.pd.length kp) := HD.cell at0 3 _ rfl
       have s2_ : w11.cell? ⟨bg, q, none⟩ = some (.int .i64 y) := (by have := (HD.cellI at5 (q : Int) hq0 (by exact hqz)).1; rwa [Int.toNat_natCast, HY.out] at this)
       refine hK.out _ _ ⟨s0_, s1_, s2_⟩ (fun hHeld => ?_)
       clear hK K
       refine norm_ (a' := ?_) ?_ ?_
       rotate_left
       ·show Act.put _ (some 74) _ = _
        simp only [Act.put, List.setIfInBounds_toArray, List.set_cons_zero, List.set_cons_succ, i64_w, i32_w]
        rfl
       refine pu_ (i := 9) (N := some 75) (h := ?_)
       refine pu_ (i := 10) (N := some 76) (h := ?_)
       refine pu_ (i := 11) (N := some 77) (h := ?_)
       refine pu_ (i := 12) (N := some 78) (h := ?_)
       refine pu_ (i := 13) (N := some 79) (h := ?_)
       refine pu_ (i := 15) (N := some 81) (h := ?_)
       refine pu_ (i := 16) (N := some 82) (h := ?_)
       refine pu_ (i := 17) (N := some 83) (h := ?_)
       refine ta_ (i := 14) (N := some 80) (hS := hHeld) (hy := by rintro w' ⟨s0, s1, s2⟩; go_simp; with_reducible rfl) (h := ?_)
       refine ta_ (i := 18) (N := some 84) (hS := hHeld) (hy := by rintro w' ⟨s0, s1, s2⟩; go_simp; with_reducible rfl) (h := ?_)
       refine one_ (i := 19) (N := some 85) #[true, true, true, true, true, true, true, true, true, true, true, true, true, true, true, true, true, true, true, true, false, false] rfl rfl (by kernel_rfl) (by decide) (fun K hK => ?_)
       clear s0_ s1_ s2_
       refine goes_ Try.func95 (by kernel_rfl) rfl #[.slice KP s4.pd.length kp, .int .i64 y] (by rfl) rfl rfl (by simp only [List.map_toArray, List.map_cons, List.map_nil]; rfl) ?_
       with_reducible refine (show Calls _ _ #[.slice KP s4.pd.length kp, .int .i64 y] _ _ from HPM.out ▸ spec_l00Has.calls (Ev.num E2.out) _ _ (linesF s4.pd) y false _ (HD.reads' at2).2.2 (HD.reads' at2).2.1 (Ev.is E2.out)).mono ?_
       rintro e w12 ⟨rfl, hb⟩
       refine ⟨_, rfl, ?_⟩
       replace HD := HD.step (by first | exact hb | exact hb.below)
       clear hb
       have s0_ : w12.cell? ⟨g, 2, none⟩ = some (.slice (some ⟨bk, 0, none⟩) n kc) := HD.cell at0 2 _ rfl
       have s1_ : w12.cell? ⟨g, 3, none⟩ = some (.slice KP s4.pd.length kp) := HD.cell at0 3 _ rfl
       have s2_ : w12.cell? ⟨bg, q, none⟩ = some (.int .i64 y) := (by have := (HD.cellI at5 (q : Int) hq0 (by exact hqz)).1; rwa [Int.toNat_natCast, HY.out] at this)
       refine hK.out _ _ ⟨s0_, s1_, s2_⟩ (fun hHeld => ?_)
       clear hK K
       refine norm_ (a' := ?_) ?_ ?_
       rotate_left
       ·show Act.put _ (some 85) _ = _
        simp only [Act.put, List.setIfInBounds_toArray, List.set_cons_zero, List.set_cons_succ, i64_w, i32_w]
        rfl
       refine pu_ (i := 20) (N := some 86) (h := ?_)
       refine pu_ (i := 21) (N := some 87) (h := ?_)
       refine done_ (by kernel_rfl) ?_
       clear hHeld s0_ s1_ s2_
       replace HS := HD
       clear HD
       go_upto_region 17 with fail
       have HD := Hold.drew HS
       refine start_ (n := 14) (S := fun w' => w'.cell? ⟨g, 3, none⟩ = some (.slice KP s4.pd.length kp) ∧ w'.cell? ⟨bg, q, none⟩ = some (.int .i64 y)) (ds := [13]) #[false, false, false, false, false, false, false, false, false, false, false, false, false, false] (by kernel_rfl) rfl rfl ⟨(HD.cell at0 3 _ rfl), (by have := (HD.cellI at5 (q : Int) hq0 (by exact hqz)).1; rwa [Int.toNat_natCast, HY.out] at this)⟩ (fun hHeld => ?_)
       generalize w12.drew = wd at HD hHeld ⊢
       refine pu_ (i := 0) (N := some 88) (h := ?_)
       refine pu_ (i := 1) (N := some 89) (h := ?_)
       refine pu_ (i := 2) (N := some 90) (h := ?_)
       refine pu_ (i := 3) (N := some 91) (h := ?_)
       refine pu_ (i := 5) (N := some 93) (h := ?_)
       refine pu_ (i := 6) (N := some 94) (h := ?_)
       refine pu_ (i := 7) (N := some 95) (h := ?_)
       refine ta_ (i := 4) (N := some 92) (hS := hHeld) (hy := by rintro w' ⟨s0, s1⟩; go_simp; with_reducible rfl) (h := ?_)
       refine ta_ (i := 8) (N := some 96) (hS := hHeld) (hy := by rintro w' ⟨s0, s1⟩; go_simp; with_reducible rfl) (h := ?_)
       refine one_ (i := 9) (N := some 97) #[true, true, true, true, true, true, true, true, true, true, false, false, false, false] rfl rfl (by kernel_rfl) (by decide) (fun K hK => ?_)
       refine value_ (w1 := ?_) (v := ?_) (by rfl) rfl ?_ ?_
       rotate_left 2
       ·go_simp
        constructor
        ·rfl
        ·rfl
       have HE_ := HD
       replace HD := HD.alloc (.cells #[.int .i64 y] 2)
       have s0_ : (wd.alloc (.cells #[.int .i64 y] 2)).cell? ⟨g, 3, none⟩ = some (.slice KP s4.pd.length kp) := HD.cell at0 3 _ rfl
       have s1_ : (wd.alloc (.cells #[.int .i64 y] 2)).cell? ⟨bg, q, none⟩ = some (.int .i64 y) := (by have := (HD.cellI at5 (q : Int) hq0 (by exact hqz)).1; rwa [Int.toNat_natCast, HY.out] at this)
       refine hK.out _ _ ⟨s0_, s1_⟩ (fun hHeld => ?_)
       clear hK K
       refine norm_ (a' := ?_) ?_ ?_
       rotate_left
       ·show Act.put _ (some 97) _ = _
        simp only [Act.put, List.setIfInBounds_toArray, List.set_cons_zero, List.set_cons_succ, i64_w, i32_w]
        rfl
       refine one_ (i := 10) (N := some 98) #[true, true, true, true, true, true, true, true, true, true, true, false, false, false] rfl rfl (by kernel_rfl) (by decide) (fun K hK => ?_)
       clear s0_ s1_
       refine Hold.appendI_step HE_ (by rfl) (.tmp 92) (.tmp 97) 30 2 rfl Try.underlying30 svInfo (.slice KP s4.pd.length kp) (linesF s4.pd) y rfl rfl at2 (by rw [linesF_len, HP4.out.1]; have := HIS2.out; omega) ?_
       intro NP2 np2c np2l np2h w13 HQ
       replace HD := HQ _ (.there (.there .here))
       rw [linesF_len] at HD ⊢
       clear HQ HE_
       have s0_ : w13.cell? ⟨g, 3, none⟩ = some (.slice KP s4.pd.length kp) := HD.cell at0 3 _ rfl
       have s1_ : w13.cell? ⟨bg, q, none⟩ = some (.int .i64 y) := (by have := (HD.cellI at5 (q : Int) hq0 (by exact hqz)).1; rwa [Int.toNat_natCast, HY.out] at this)
       have fz_ : ∀ j, w13.frozen? ⟨g, j, none⟩ = false := HD.thaw at0
       refine hK.out _ _ ⟨s0_, s1_⟩ (fun hHeld => ?_)
       clear hK K
       refine norm_ (a' := ?_) ?_ ?_
       rotate_left
       ·show Act.put _ (some 98) _ = _
        simp only [Act.put, List.setIfInBounds_toArray, List.set_cons_zero, List.set_cons_succ, i64_w, i32_w]
        rfl
       refine pu_ (i := 11) (N := some 99) (h := ?_)
       refine pu_ (i := 12) (N := some 100) (h := ?_)
       refine last_ (i := 13) (N := none) #[true, true, true, true, true, true, true, true, true, true, true, true, true, true] rfl rfl (by kernel_rfl) (by decide) (fun K hK => ?_)
       refine skip_ (w1 := ?_) (by rfl) rfl ?_ ?_
       rotate_left
       ·go_simp
        rfl
       refine hK.out _ _ ?_
       clear hK K
       refine done_ (by kernel_rfl) ?_
       clear hHeld s0_ s1_ fz_
       replace HS := HD
       clear HD
       replace HS := HS.setBox 3 (.slice NP2 (s4.pd.length + 1) np2c) .here
       simp only [List.setIfInBounds_toArray, List.set_cons_zero, List.set_cons_succ] at HS
       generalize w13.setCell ⟨g, 3, none⟩ (.slice NP2 (s4.pd.length + 1) np2c) = w13b at HS ⊢
       go_upto_region 18 with fail
       obtain ⟨wd1, wd2⟩ := due_w bk60 HPF.out.2.1
       have HD := Hold.drew HS
       refine start_ (n := 17) (S := fun w' => w'.cell? ⟨g, 4, none⟩ = some (.slice KD s4.pd.length kd) ∧ w'.cell? ⟨gf, 2, none⟩ = some (.int .i64 a2)) (ds := [16]) #[false, false, false, false, false, false, false, false, false, false, false, false, false, false, false, false, false] (by kernel_rfl) rfl rfl ⟨(HD.cell at0 4 _ rfl), ((blk_cell (blk_below HB0.out HD.below) 2).trans rfl)⟩ (fun hHeld => ?_)
       generalize w13b.drew = wd at HD hHeld ⊢
       refine pu_ (i := 0) (N := some 101) (h := ?_)
       refine pu_ (i := 1) (N := some 102) (h := ?_)
       refine pu_ (i := 2) (N := some 103) (h := ?_)
       refine pu_ (i := 3) (N := some 104) (h := ?_)
       refine pu_ (i := 5) (N := some 106) (h := ?_)
       refine pu_ (i := 6) (N := some 107) (h := ?_)
       refine pu_ (i := 7) (N := some 108) (h := ?_)
       refine pu_ (i := 8) (N := some 109) (h := ?_)
       refine pu_ (i := 9) (N := some 110) (h := ?_)
       refine ta_ (i := 4) (N := some 105) (hS := hHeld) (hy := by rintro w' ⟨s0, s1⟩; go_simp; with_reducible rfl) (h := ?_)
       refine ta_ (i := 10) (N := some 111) (hS := hHeld) (hy := by rintro w' ⟨s0, s1⟩; go_simp; with_reducible rfl) (h := ?_)
       refine pu_ (i := 11) (N := some 112) (h := ?_)
       refine one_ (i := 12) (N := some 113) #[true, true, true, true, true, true, true, true, true, true, true, true, true, false, false, false, false] rfl rfl (by kernel_rfl) (by decide) (fun K hK => ?_)
       refine value_ (w1 := ?_) (v := ?_) (by rfl) rfl ?_ ?_
       rotate_left 2
       ·go_simp
        constructor
        ·rfl
        ·rfl
       have HE_ := HD
       replace HD := HD.alloc (.cells #[.int .i64 ((kk : Int) + 1 + a2)] 2)
       have s0_ : (wd.alloc (.cells #[.int .i64 ((kk : Int) + 1 + a2)] 2)).cell? ⟨g, 4, none⟩ = some (.slice KD s4.pd.length kd) := HD.cell at0 4 _ rfl
       have s1_ : (wd.alloc (.cells #[.int .i64 ((kk : Int) + 1 + a2)] 2)).cell? ⟨gf, 2, none⟩ = some (.int .i64 a2) := ((blk_cell (blk_below HB0.out HD.below) 2).trans rfl)
       refine hK.out _ _ ⟨s0_, s1_⟩ (fun hHeld => ?_)
       clear hK K
       refine norm_ (a' := ?_) ?_ ?_
       rotate_left
       ·show Act.put _ (some 113) _ = _
        simp only [Act.put, List.setIfInBounds_toArray, List.set_cons_zero, List.set_cons_succ, i64_w, i32_w]
        rfl
       refine one_ (i := 13) (N := some 114) #[true, true, true, true, true, true, true, true, true, true, true, true, true, true, false, false, false] rfl rfl (by kernel_rfl) (by decide) (fun K hK => ?_)
       clear s0_ s1_
       refine Hold.appendI_step HE_ (by rfl) (.tmp 105) (.tmp 113) 30 2 rfl Try.underlying30 svInfo (.slice KD s4.pd.length kd) (duesF s4.pd) ((kk : Int) + 1 + a2) rfl rfl at3 (by rw [duesF_len, HP4.out.1]; have := HIS2.out; omega) ?_
       intro ND2 nd2c nd2l nd2h w14 HQ
       replace HD := HQ _ (.there (.there (.there .here)))
       rw [duesF_len] at HD ⊢
       clear HQ HE_
       have s0_ : w14.cell? ⟨g, 4, none⟩ = some (.slice KD s4.pd.length kd) := HD.cell at0 4 _ rfl
       have s1_ : w14.cell? ⟨gf, 2, none⟩ = some (.int .i64 a2) := ((blk_cell (blk_below HB0.out HD.below) 2).trans rfl)
       have fz_ : ∀ j, w14.frozen? ⟨g, j, none⟩ = false := HD.thaw at0
       refine hK.out _ _ ⟨s0_, s1_⟩ (fun hHeld => ?_)
       clear hK K
       refine norm_ (a' := ?_) ?_ ?_
       rotate_left
       ·show Act.put _ (some 114) _ = _
        simp only [Act.put, List.setIfInBounds_toArray, List.set_cons_zero, List.set_cons_succ, i64_w, i32_w]
        rfl
       refine pu_ (i := 14) (N := some 115) (h := ?_)
       refine pu_ (i := 15) (N := some 116) (h := ?_)
       refine last_ (i := 16) (N := none) #[true, true, true, true, true, true, true, true, true, true, true, true, true, true, true, true, true] rfl rfl (by kernel_rfl) (by decide) (fun K hK => ?_)
       refine skip_ (w1 := ?_) (by rfl) rfl ?_ ?_
       rotate_left
       ·go_simp
        rfl
       refine hK.out _ _ ?_
       clear hK K
       refine done_ (by kernel_rfl) ?_
       clear hHeld s0_ s1_ fz_
       replace HS := HD
       clear HD
       replace HS := HS.setBox 4 (.slice ND2 (s4.pd.length + 1) nd2c) .here
       simp only [List.setIfInBounds_toArray, List.set_cons_zero, List.set_cons_succ] at HS
       generalize w14.setCell ⟨g, 4, none⟩ (.slice ND2 (s4.pd.length + 1) nd2c) = w14b at HS ⊢
       clear wd1 wd2
       have u1 : 0 ≤ s4.is := by rw [HP4.out.2.1]; exact HIS2.out.1
       have u2 : s4.is ≤ 1000 := by rw [HP4.out.2.1]; exact HIS2.out.2.1
       have q10 : w14b.cell? ⟨g, 10, none⟩ = some (.int .i64 s4.is) := HS.cell at0 10 _ rfl
       have fzq : ∀ j, w14b.frozen? ⟨g, j, none⟩ = false := HS.thaw at0
       go_upto_region 15 with fail
       clear q10 fzq u1 u2
       replace HS := HS.setBox 10 (.int .i64 (s4.is + 1)) .here
       simp only [List.setIfInBounds_toArray, List.set_cons_zero, List.set_cons_succ] at HS
       generalize w14b.setCell ⟨g, 10, none⟩ (.int .i64 (s4.is + 1)) = w15 at HS ⊢
       have hnw : newF s3.c.cont pd y = true := by have h := HP4.out; have h1 := HB1.out; have h2 := HB2.out; rw [h.2.2] at h1; rw [h.1] at h2; unfold newF; rw [h1, h2]; rfl
       have hpl : s4.pd.length + 1 = (pd ++ [(y, ((kk : Int) + 1 + a2))]).length := by rw [HP4.out.1]; simp
       have hll : linesF s4.pd ++ [y] = linesF (pd ++ [(y, ((kk : Int) + 1 + a2))]) := by rw [HP4.out.1]; simp [linesF]
       have hdl : duesF s4.pd ++ [((kk : Int) + 1 + a2)] = duesF (pd ++ [(y, ((kk : Int) + 1 + a2))]) := by rw [HP4.out.1]; simp [duesF]
       rw [hpl, hll, hdl, HP4.out.2.1] at HS
       have HE : Aside0 (SpecF w w15 ((flat (Kd.int .i64) 2 (.slice (some ⟨bg, 0, none⟩) gs.length cg) gs, lg, hg) :: (flat (Kd.int .i64) 2 (.slice A9 s3.out.length c9) s3.out, lo9, hi9) :: [(polT (lruHit n) (lruMiss n) (.agg #[.slice A0 (lruHit n).length c0, .slice A1 (lruMiss n).length c1]), lo4, hi4), (boxT #[.int .i64 0, .int .i64 0, .int .i64 0, .int .i64 0, .int .i64 0, .int .i64 0] 40, rb, rb + 1)]) g n A0 c0 (lruHit n).length A1 c1 (lruMiss n).length { s3 with pd := (issueF ((kk : Int) + 1 + a2) s3.c.cont (gs.take (q + 1)) s3.pd s3.is).1, is := (issueF ((kk : Int) + 1 + a2) s3.c.cont (gs.take (q + 1)) s3.pd s3.is).2 }) := ⟨by rw [HTT.out]; simp only [issueF, hnw, if_true]; rw [← HS4.out] at HS; exact ⟨bk, kc, lk, hk, NP2, np2c, _, _, ND2, nd2c, _, _, KM, km, lm, hm, HS⟩⟩
       clear HS hpl hll hdl
       go_wp2_with fail
       go_roundg (gs.length - (q + 1))
       case measure => omega
       case rel => exact ⟨q + 1, hqt, Nat.le_refl _, by first | rfl | rw [wrap_succ hqt (gsF_len HIO.out.2.2)], HE⟩
      ·have HD := Hold.drew HS
       refine start_ (n := 22) (S := fun w' => w'.cell? ⟨g, 2, none⟩ = some (.slice (some ⟨bk, 0, none⟩) n kc) ∧ w'.cell? ⟨g, 3, none⟩ = some (.slice KP s4.pd.length kp) ∧ w'.cell? ⟨bg, q, none⟩ = some (.int .i64 y)) (ds := []) #[false, false, false, false, false, false, false, false, false, false, false, false, false, false, false, false, false, false, false, false, false, false] (by kernel_rfl) rfl rfl ⟨(HD.cell at0 2 _ rfl), (HD.cell at0 3 _ rfl), (by have := (HD.cellI at5 (q : Int) hq0 (by exact hqz)).1; rwa [Int.toNat_natCast, HY.out] at this)⟩ (fun hHeld => ?_)
       generalize wr.drew = wd at HD hHeld ⊢
       refine pu_ (i := 0) (N := some 66) (h := ?_)
       refine pu_ (i := 1) (N := some 67) (h := ?_)
       refine pu_ (i := 2) (N := some 68) (h := ?_)
       refine pu_ (i := 4) (N := some 70) (h := ?_)
       refine pu_ (i := 5) (N := some 71) (h := ?_)
       refine pu_ (i := 6) (N := some 72) (h := ?_)
       refine ta_ (i := 3) (N := some 69) (hS := hHeld) (hy := by rintro w' ⟨s0, s1, s2⟩; go_simp; with_reducible rfl) (h := ?_)
       refine ta_ (i := 7) (N := some 73) (hS := hHeld) (hy := by rintro w' ⟨s0, s1, s2⟩; go_simp; with_reducible rfl) (h := ?_)
       refine one_ (i := 8) (N := some 74) #[true, true, true, true, true, true, true, true, true, false, false, false, false, false, false, false, false, false, false, false, false, false] rfl rfl (by kernel_rfl) (by decide) (fun K hK => ?_)
       refine goes_ Try.func95 (by kernel_rfl) rfl #[.slice (some ⟨bk, 0, none⟩) n kc, .int .i64 y] (by rfl) rfl rfl (by simp only [List.map_toArray, List.map_cons, List.map_nil]; rfl) ?_
       with_reducible refine (show Calls _ _ #[.slice (some ⟨bk, 0, none⟩) n kc, .int .i64 y] _ _ from HCM.out ▸ spec_l00Has.calls (Ev.num E1.out) _ _ (s4.c.cont) y false _ (HD.reads' at1).2.2 (HD.reads' at1).2.1 (Ev.is E1.out)).mono ?_
       rintro e w11 ⟨rfl, hb⟩
       refine ⟨_, rfl, ?_⟩
       replace HD := HD.step (by first | exact hb | exact hb.below)
       clear hb
       have s0_ : w11.cell? ⟨g, 2, none⟩ = some (.slice (some ⟨bk, 0, none⟩) n kc) := HD.cell at0 2 _ rfl
       have s1_ : w11.cell? ⟨g, 3, none⟩ = some (.slice KP s4.pd.length kp) := HD.cell at0 3 _ rfl
       have s2_ : w11.cell? ⟨bg, q, none⟩ = some (.int .i64 y) := (by have := (HD.cellI at5 (q : Int) hq0 (by exact hqz)).1; rwa [Int.toNat_natCast, HY.out] at this)
       refine hK.out _ _ ⟨s0_, s1_, s2_⟩ (fun hHeld => ?_)
       clear hK K
       refine norm_ (a' := ?_) ?_ ?_
       rotate_left
       ·show Act.put _ (some 74) _ = _
        simp only [Act.put, List.setIfInBounds_toArray, List.set_cons_zero, List.set_cons_succ, i64_w, i32_w]
        rfl
       refine pu_ (i := 9) (N := some 75) (h := ?_)
       refine pu_ (i := 10) (N := some 76) (h := ?_)
       refine pu_ (i := 11) (N := some 77) (h := ?_)
       refine pu_ (i := 12) (N := some 78) (h := ?_)
       refine pu_ (i := 13) (N := some 79) (h := ?_)
       refine pu_ (i := 15) (N := some 81) (h := ?_)
       refine pu_ (i := 16) (N := some 82) (h := ?_)
       refine pu_ (i := 17) (N := some 83) (h := ?_)
       refine ta_ (i := 14) (N := some 80) (hS := hHeld) (hy := by rintro w' ⟨s0, s1, s2⟩; go_simp; with_reducible rfl) (h := ?_)
       refine ta_ (i := 18) (N := some 84) (hS := hHeld) (hy := by rintro w' ⟨s0, s1, s2⟩; go_simp; with_reducible rfl) (h := ?_)
       refine one_ (i := 19) (N := some 85) #[true, true, true, true, true, true, true, true, true, true, true, true, true, true, true, true, true, true, true, true, false, false] rfl rfl (by kernel_rfl) (by decide) (fun K hK => ?_)
       clear s0_ s1_ s2_
       refine goes_ Try.func95 (by kernel_rfl) rfl #[.slice KP s4.pd.length kp, .int .i64 y] (by rfl) rfl rfl (by simp only [List.map_toArray, List.map_cons, List.map_nil]; rfl) ?_
       with_reducible refine (show Calls _ _ #[.slice KP s4.pd.length kp, .int .i64 y] _ _ from HPM.out ▸ spec_l00Has.calls (Ev.num E2.out) _ _ (linesF s4.pd) y true _ (HD.reads' at2).2.2 (HD.reads' at2).2.1 (Ev.is E2.out)).mono ?_
       rintro e w12 ⟨rfl, hb⟩
       refine ⟨_, rfl, ?_⟩
       replace HD := HD.step (by first | exact hb | exact hb.below)
       clear hb
       have s0_ : w12.cell? ⟨g, 2, none⟩ = some (.slice (some ⟨bk, 0, none⟩) n kc) := HD.cell at0 2 _ rfl
       have s1_ : w12.cell? ⟨g, 3, none⟩ = some (.slice KP s4.pd.length kp) := HD.cell at0 3 _ rfl
       have s2_ : w12.cell? ⟨bg, q, none⟩ = some (.int .i64 y) := (by have := (HD.cellI at5 (q : Int) hq0 (by exact hqz)).1; rwa [Int.toNat_natCast, HY.out] at this)
       refine hK.out _ _ ⟨s0_, s1_, s2_⟩ (fun hHeld => ?_)
       clear hK K
       refine norm_ (a' := ?_) ?_ ?_
       rotate_left
       ·show Act.put _ (some 85) _ = _
        simp only [Act.put, List.setIfInBounds_toArray, List.set_cons_zero, List.set_cons_succ, i64_w, i32_w]
        rfl
       refine pu_ (i := 20) (N := some 86) (h := ?_)
       refine pu_ (i := 21) (N := some 87) (h := ?_)
       refine done_ (by kernel_rfl) ?_
       clear hHeld s0_ s1_ s2_
       replace HS := HD
       clear HD
       have hnw : newF s3.c.cont pd y = false := by have h := HP4.out; have h1 := HB1.out; have h2 := HB2.out; rw [h.2.2] at h1; rw [h.1] at h2; unfold newF; rw [h1, h2]; rfl
       have HE : Aside0 (SpecF w w12 ((flat (Kd.int .i64) 2 (.slice (some ⟨bg, 0, none⟩) gs.length cg) gs, lg, hg) :: (flat (Kd.int .i64) 2 (.slice A9 s3.out.length c9) s3.out, lo9, hi9) :: [(polT (lruHit n) (lruMiss n) (.agg #[.slice A0 (lruHit n).length c0, .slice A1 (lruMiss n).length c1]), lo4, hi4), (boxT #[.int .i64 0, .int .i64 0, .int .i64 0, .int .i64 0, .int .i64 0, .int .i64 0] 40, rb, rb + 1)]) g n A0 c0 (lruHit n).length A1 c1 (lruMiss n).length { s3 with pd := (issueF ((kk : Int) + 1 + a2) s3.c.cont (gs.take (q + 1)) s3.pd s3.is).1, is := (issueF ((kk : Int) + 1 + a2) s3.c.cont (gs.take (q + 1)) s3.pd s3.is).2 }) := ⟨by rw [HTT.out]; simp only [issueF, hnw, Bool.false_eq_true, if_false]; rw [HS4.out]; exact ⟨bk, kc, lk, hk, KP, kp, lp, hp, KD, kd, ld, hd, KM, km, lm, hm, HS⟩⟩
       clear HS
       go_wp2_with fail
       go_roundg (gs.length - (q + 1))
       case measure => omega
       case rel => exact ⟨q + 1, hqt, Nat.le_refl _, by first | rfl | rw [wrap_succ hqt (gsF_len HIO.out.2.2)], HE⟩
     ·have hb2_ : True := trivial
      have HD := Hold.drew HS
      refine start_ (n := 22) (S := fun w' => w'.cell? ⟨g, 2, none⟩ = some (.slice (some ⟨bk, 0, none⟩) n kc) ∧ w'.cell? ⟨bg, q, none⟩ = some (.int .i64 y)) (ds := []) #[false, false, false, false, false, false, false, false, false, false, false, false, false, false, false, false, false, false, false, false, false, false] (by kernel_rfl) rfl rfl ⟨(HD.cell at0 2 _ rfl), (by have := (HD.cellI at5 (q : Int) hq0 (by exact hqz)).1; rwa [Int.toNat_natCast, HY.out] at this)⟩ (fun hHeld => ?_)
      generalize wr.drew = wd at HD hHeld ⊢
      refine pu_ (i := 0) (N := some 66) (h := ?_)
      refine pu_ (i := 1) (N := some 67) (h := ?_)
      refine pu_ (i := 2) (N := some 68) (h := ?_)
      refine pu_ (i := 4) (N := some 70) (h := ?_)
      refine pu_ (i := 5) (N := some 71) (h := ?_)
      refine pu_ (i := 6) (N := some 72) (h := ?_)
      refine ta_ (i := 3) (N := some 69) (hS := hHeld) (hy := by rintro w' ⟨s0, s1⟩; go_simp; with_reducible rfl) (h := ?_)
      refine ta_ (i := 7) (N := some 73) (hS := hHeld) (hy := by rintro w' ⟨s0, s1⟩; go_simp; with_reducible rfl) (h := ?_)
      refine one_ (i := 8) (N := some 74) #[true, true, true, true, true, true, true, true, true, false, false, false, false, false, false, false, false, false, false, false, false, false] rfl rfl (by kernel_rfl) (by decide) (fun K hK => ?_)
      refine goes_ Try.func95 (by kernel_rfl) rfl #[.slice (some ⟨bk, 0, none⟩) n kc, .int .i64 y] (by rfl) rfl rfl (by simp only [List.map_toArray, List.map_cons, List.map_nil]; rfl) ?_
      with_reducible refine (show Calls _ _ #[.slice (some ⟨bk, 0, none⟩) n kc, .int .i64 y] _ _ from HCM.out ▸ spec_l00Has.calls (Ev.num E1.out) _ _ (s4.c.cont) y true _ (HD.reads' at1).2.2 (HD.reads' at1).2.1 (Ev.is E1.out)).mono ?_
      rintro e w11 ⟨rfl, hb⟩
      refine ⟨_, rfl, ?_⟩
      replace HD := HD.step (by first | exact hb | exact hb.below)
      clear hb
      have s0_ : w11.cell? ⟨g, 2, none⟩ = some (.slice (some ⟨bk, 0, none⟩) n kc) := HD.cell at0 2 _ rfl
      have s1_ : w11.cell? ⟨bg, q, none⟩ = some (.int .i64 y) := (by have := (HD.cellI at5 (q : Int) hq0 (by exact hqz)).1; rwa [Int.toNat_natCast, HY.out] at this)
      refine hK.out _ _ ⟨s0_, s1_⟩ (fun hHeld => ?_)
      clear hK K
      refine norm_ (a' := ?_) ?_ ?_
      rotate_left
      ·show Act.put _ (some 74) _ = _
       simp only [Act.put, List.setIfInBounds_toArray, List.set_cons_zero, List.set_cons_succ, i64_w, i32_w]
       rfl
      refine pu_ (i := 9) (N := some 75) (h := ?_)
      refine pu_ (i := 10) (N := some 76) (h := ?_)
      refine pure_ (i := 11) (N := some 77) (v := undef) (a' := ?_) #[true, true, true, true, true, true, true, true, true, true, true, true, false, false, false, false, false, false, false, false, false, false] rfl rfl (by kernel_rfl) (fun _ _ _ h => h) (Or.inr ⟨by rfl, rfl⟩) ?_ ?_
      rotate_left
      ·simp only [Act.put, List.setIfInBounds_toArray, List.set_cons_zero, List.set_cons_succ, i64_w, i32_w]
       rfl
      refine pure_ (i := 12) (N := some 78) (v := undef) (a' := ?_) #[true, true, true, true, true, true, true, true, true, true, true, true, true, false, false, false, false, false, false, false, false, false] rfl rfl (by kernel_rfl) (fun _ _ _ h => h) (Or.inr ⟨by rfl, rfl⟩) ?_ ?_
      rotate_left
      ·simp only [Act.put, List.setIfInBounds_toArray, List.set_cons_zero, List.set_cons_succ, i64_w, i32_w]
       rfl
      refine pure_ (i := 13) (N := some 79) (v := undef) (a' := ?_) #[true, true, true, true, true, true, true, true, true, true, true, true, true, true, false, false, false, false, false, false, false, false] rfl rfl (by kernel_rfl) (fun _ _ _ h => h) (Or.inr ⟨by rfl, rfl⟩) ?_ ?_
      rotate_left
      ·simp only [Act.put, List.setIfInBounds_toArray, List.set_cons_zero, List.set_cons_succ, i64_w, i32_w]
       rfl
      refine pure_ (i := 14) (N := some 80) (v := undef) (a' := ?_) #[true, true, true, true, true, true, true, true, true, true, true, true, true, true, true, false, false, false, false, false, false, false] rfl rfl (by kernel_rfl) (fun _ _ _ h => h) (Or.inr ⟨by rfl, rfl⟩) ?_ ?_
      rotate_left
      ·simp only [Act.put, List.setIfInBounds_toArray, List.set_cons_zero, List.set_cons_succ, i64_w, i32_w]
       rfl
      refine pure_ (i := 15) (N := some 81) (v := undef) (a' := ?_) #[true, true, true, true, true, true, true, true, true, true, true, true, true, true, true, true, false, false, false, false, false, false] rfl rfl (by kernel_rfl) (fun _ _ _ h => h) (Or.inr ⟨by rfl, rfl⟩) ?_ ?_
      rotate_left
      ·simp only [Act.put, List.setIfInBounds_toArray, List.set_cons_zero, List.set_cons_succ, i64_w, i32_w]
       rfl
      refine pure_ (i := 16) (N := some 82) (v := undef) (a' := ?_) #[true, true, true, true, true, true, true, true, true, true, true, true, true, true, true, true, true, false, false, false, false, false] rfl rfl (by kernel_rfl) (fun _ _ _ h => h) (Or.inr ⟨by rfl, rfl⟩) ?_ ?_
      rotate_left
      ·simp only [Act.put, List.setIfInBounds_toArray, List.set_cons_zero, List.set_cons_succ, i64_w, i32_w]
       rfl
      refine pure_ (i := 17) (N := some 83) (v := undef) (a' := ?_) #[true, true, true, true, true, true, true, true, true, true, true, true, true, true, true, true, true, true, false, false, false, false] rfl rfl (by kernel_rfl) (fun _ _ _ h => h) (Or.inr ⟨by rfl, rfl⟩) ?_ ?_
      rotate_left
      ·simp only [Act.put, List.setIfInBounds_toArray, List.set_cons_zero, List.set_cons_succ, i64_w, i32_w]
       rfl
      refine pure_ (i := 18) (N := some 84) (v := undef) (a' := ?_) #[true, true, true, true, true, true, true, true, true, true, true, true, true, true, true, true, true, true, true, false, false, false] rfl rfl (by kernel_rfl) (fun _ _ _ h => h) (Or.inr ⟨by rfl, rfl⟩) ?_ ?_
      rotate_left
      ·simp only [Act.put, List.setIfInBounds_toArray, List.set_cons_zero, List.set_cons_succ, i64_w, i32_w]
       rfl
      refine pure_ (i := 19) (N := some 85) (v := undef) (a' := ?_) #[true, true, true, true, true, true, true, true, true, true, true, true, true, true, true, true, true, true, true, true, false, false] rfl rfl (by kernel_rfl) (fun _ _ _ h => h) (Or.inr ⟨by rfl, rfl⟩) ?_ ?_
      rotate_left
      ·simp only [Act.put, List.setIfInBounds_toArray, List.set_cons_zero, List.set_cons_succ, i64_w, i32_w]
       rfl
      refine pure_ (i := 20) (N := some 86) (v := undef) (a' := ?_) #[true, true, true, true, true, true, true, true, true, true, true, true, true, true, true, true, true, true, true, true, true, false] rfl rfl (by kernel_rfl) (fun _ _ _ h => h) (Or.inr ⟨by rfl, rfl⟩) ?_ ?_
      rotate_left
      ·simp only [Act.put, List.setIfInBounds_toArray, List.set_cons_zero, List.set_cons_succ, i64_w, i32_w]
       rfl
      refine pu_ (i := 21) (N := some 87) (h := ?_)
      refine done_ (by kernel_rfl) ?_
      clear hHeld s0_ s1_
      replace HS := HD
      clear HD
      have hnw : newF s3.c.cont pd y = false := by have h := HP4.out; have h1 := HB1.out; rw [h.2.2] at h1; unfold newF; rw [h1]; rfl
      have HE : Aside0 (SpecF w w11 ((flat (Kd.int .i64) 2 (.slice (some ⟨bg, 0, none⟩) gs.length cg) gs, lg, hg) :: (flat (Kd.int .i64) 2 (.slice A9 s3.out.length c9) s3.out, lo9, hi9) :: [(polT (lruHit n) (lruMiss n) (.agg #[.slice A0 (lruHit n).length c0, .slice A1 (lruMiss n).length c1]), lo4, hi4), (boxT #[.int .i64 0, .int .i64 0, .int .i64 0, .int .i64 0, .int .i64 0, .int .i64 0] 40, rb, rb + 1)]) g n A0 c0 (lruHit n).length A1 c1 (lruMiss n).length { s3 with pd := (issueF ((kk : Int) + 1 + a2) s3.c.cont (gs.take (q + 1)) s3.pd s3.is).1, is := (issueF ((kk : Int) + 1 + a2) s3.c.cont (gs.take (q + 1)) s3.pd s3.is).2 }) := ⟨by rw [HTT.out]; simp only [issueF, hnw, Bool.false_eq_true, if_false]; rw [HS4.out]; exact ⟨bk, kc, lk, hk, KP, kp, lp, hp, KD, kd, ld, hd, KM, km, lm, hm, HS⟩⟩
      clear HS
      go_wp2_with fail
      go_roundg (gs.length - (q + 1))
      case measure => omega
      case rel => exact ⟨q + 1, hqt, Nat.le_refl _, by first | rfl | rw [wrap_succ hqt (gsF_len HIO.out.2.2)], HE⟩
    ·obtain rfl : q = gs.length := by omega
     have hqz : ¬ ((gs.length : Nat) : Int) < (gs.length : Int) := by omega
     have HQ2 := HQQ.out
     rw [List.take_length] at HQ2
     change SpecF w wr ((flat (Kd.int .i64) 2 (.slice AG gs.length cg) gs, lg, hg) :: (flat (Kd.int .i64) 2 (.slice A9 s3.out.length c9) s3.out, lo9, hi9) :: [(polT (lruHit n) (lruMiss n) (.agg #[.slice A0 (lruHit n).length c0, .slice A1 (lruMiss n).length c1]), lo4, hi4), (boxT #[.int .i64 0, .int .i64 0, .int .i64 0, .int .i64 0, .int .i64 0, .int .i64 0] 40, rb, rb + 1)]) g n A0 c0 (lruHit n).length A1 c1 (lruMiss n).length (guessF ((kk : Int) + 1 + a2) gs s3) at HQ2
     clear HQQ
     obtain ⟨bk, kc, lk, hk, KP, kp, lp, hp, KD, kd, ld, hd, KM, km, lm, hm, HS⟩ := HQ2
     replace HS := HS.pick tk5
     replace HS := HS.tail
     skip
     replace HS := HS.pick tk7
     replace HS := HS.pick tk7
     replace HS := HS.pick tk7
     replace HS := HS.pick tk7
     replace HS := HS.pick tk7
     replace HS := HS.pick tk7
     replace HS := HS.pick tk7
     replace HS := HS.pick tk7
     have HZ : Aside0 (SpecF w wr ((flat (Kd.int .i64) 2 (.slice A9 (guessF ((kk : Int) + 1 + a2) gs s3).out.length c9) (guessF ((kk : Int) + 1 + a2) gs s3).out, lo9, hi9) :: [(polT (lruHit n) (lruMiss n) (.agg #[.slice A0 (lruHit n).length c0, .slice A1 (lruMiss n).length c1]), lo4, hi4), (boxT #[.int .i64 0, .int .i64 0, .int .i64 0, .int .i64 0, .int .i64 0, .int .i64 0] 40, rb, rb + 1)]) g n A0 c0 (lruHit n).length A1 c1 (lruMiss n).length (guessF ((kk : Int) + 1 + a2) gs s3)) := ⟨⟨bk, kc, _, _, KP, kp, _, _, KD, kd, _, _, KM, km, _, _, HS⟩⟩
     clear HS
     go_wp2_with fail
     have HONE : Aside0 (guessF ((kk : Int) + 1 + a2) gs s3 = oneF (lruHit n) (lruMiss n) a2 kk (itemF a0 a1 l kk) s) := ⟨by rw [HIT.out, HGS.out, ← HS3.out, ← HS1.out]; rfl⟩
     have HRN := HRUN.out
     rw [runF_drop _ _ _ a0 a1 l hlt, ← HONE.out] at HRN
     have HRN2 := Aside0.mk HRN
     have HI2 := Aside0.mk (guess_okF HTK.out.1 HTK.out.2 HIS.out ((kk : Int) + 1 + a2) HIO.out.2.1 HIO.out.2.2)
     clear HRN
     go_roundg (l.length - (kk + 1))
     case measure => omega
     case rel => exact ⟨kk + 1, guessF ((kk : Int) + 1 + a2) gs s3, A9, c9, lo9, hi9, hlt, Nat.le_refl _, rfl, by first | rfl | rw [wrap_succ hlt (by have := HL60.out; omega)], HRN2, HI2, HZ⟩
  ·obtain rfl : kk = l.length := by omega
   have hltz : ¬ ((l.length : Nat) : Int) < (l.length : Int) := by omega
   have hs : s = fin := by have := HRUN.out; rw [List.drop_eq_nil_of_le (by rw [itemsF_len]; omega)] at this; exact this
   subst hs
   obtain ⟨bk, kc, lk, hk, KP, kp, lp, hp, KD, kd, ld, hd, KM, km, lm, hm, HS⟩ := HSS.out
   clear HSS
   have hbb : 0 ≤ s.c.us ∧ s.c.us ≤ 240 ∧ s.c.ms.length ≤ 240 ∧ s.pd.length ≤ 240 := by have := HI.out.2.all; have := HI.out.2.us; have := HI.out.2.is; have := HL60.out; omega
   have HBB := Aside0.mk hbb
   have y1 := hbb.1
   have y2 := hbb.2.1
   have y3 := hbb.2.2.1
   have y4 := hbb.2.2.2
   clear hbb
   change Hold w wr [(boxT #[.slice A0 (lruHit n).length c0, .slice A1 (lruMiss n).length c1, .slice (some ⟨bk, 0, none⟩) n kc, .slice KP s.pd.length kp, .slice KD s.pd.length kd, .slice KM s.c.ms.length km, .int .i64 s.n0, .int .i64 s.n1, .int .i64 s.n2, .int .i64 s.n3, .int .i64 s.is, .int .i64 s.c.us] 125, g, g + 1), (flat (Kd.int .i64) 2 (.slice (some ⟨bk, 0, none⟩) n kc) s.c.cont, lk, hk), (flat (Kd.int .i64) 2 (.slice KP s.pd.length kp) (linesF s.pd), lp, hp), (flat (Kd.int .i64) 2 (.slice KD s.pd.length kd) (duesF s.pd), ld, hd), (flat (Kd.int .i64) 2 (.slice KM s.c.ms.length km) s.c.ms, lm, hm), (flat (Kd.int .i64) 2 (.slice A s.out.length c) s.out, lo, hi), (polT (lruHit n) (lruMiss n) (.agg #[.slice A0 (lruHit n).length c0, .slice A1 (lruMiss n).length c1]), lo4, hi4), (boxT #[.int .i64 0, .int .i64 0, .int .i64 0, .int .i64 0, .int .i64 0, .int .i64 0] 40, rb, rb + 1)] at HS
   have z1 : wrap64 ((s.c.ms.length : Int) + (s.pd.length : Int)) = (s.c.ms.length : Int) + (s.pd.length : Int) := wrap_id (by omega) (by omega)
   have z2 : wrap64 (s.c.us + ((s.c.ms.length : Int) + (s.pd.length : Int))) = s.c.us + ((s.c.ms.length : Int) + (s.pd.length : Int)) := wrap_id (by omega) (by omega)
   go_upto_region 20 with fail
   have HD := Hold.drew HS
   refine start_ (n := 21) (S := fun w' => w'.cell? ⟨g, 11, none⟩ = some (.int .i64 s.c.us) ∧ w'.cell? ⟨g, 5, none⟩ = some (.slice KM s.c.ms.length km) ∧ w'.cell? ⟨g, 3, none⟩ = some (.slice KP s.pd.length kp)) (ds := [20]) #[false, false, false, false, false, false, false, false, false, false, false, false, false, false, false, false, false, false, false, false, false] (by kernel_rfl) rfl rfl ⟨(HD.cell at0 11 _ rfl), (HD.cell at0 5 _ rfl), (HD.cell at0 3 _ rfl)⟩ (fun hHeld => ?_)
   generalize wr.drew = wd at HD hHeld ⊢
   have fz_ : ∀ j, wd.frozen? ⟨g, j, none⟩ = false := HD.thaw at0
   have st11_ : wd.cell? ⟨g, 11, none⟩ = some (.int .i64 s.c.us) := HD.cell at0 11 _ rfl
   refine pu_ (i := 0) (N := some 126) (h := ?_)
   refine pu_ (i := 1) (N := some 127) (h := ?_)
   refine pu_ (i := 2) (N := some 128) (h := ?_)
   refine pu_ (i := 3) (N := some 129) (h := ?_)
   refine pu_ (i := 5) (N := some 131) (h := ?_)
   refine pu_ (i := 6) (N := some 132) (h := ?_)
   refine pu_ (i := 7) (N := some 133) (h := ?_)
   refine pu_ (i := 10) (N := some 136) (h := ?_)
   refine pu_ (i := 11) (N := some 137) (h := ?_)
   refine pu_ (i := 12) (N := some 138) (h := ?_)
   refine ta_ (i := 4) (N := some 130) (hS := hHeld) (hy := by rintro w' ⟨s0, s1, s2⟩; go_simp; with_reducible rfl) (h := ?_)
   refine ta_ (i := 8) (N := some 134) (hS := hHeld) (hy := by rintro w' ⟨s0, s1, s2⟩; go_simp; with_reducible rfl) (h := ?_)
   refine pu_ (i := 9) (N := some 135) (h := ?_)
   refine ta_ (i := 13) (N := some 139) (hS := hHeld) (hy := by rintro w' ⟨s0, s1, s2⟩; go_simp; with_reducible rfl) (h := ?_)
   refine pu_ (i := 14) (N := some 140) (h := ?_)
   refine pu_ (i := 15) (N := some 141) (h := ?_)
   refine pu_ (i := 16) (N := some 142) (h := ?_)
   refine pu_ (i := 17) (N := some 143) (h := ?_)
   refine pu_ (i := 18) (N := some 144) (h := ?_)
   refine pu_ (i := 19) (N := some 145) (h := ?_)
   refine last_ (i := 20) (N := none) #[true, true, true, true, true, true, true, true, true, true, true, true, true, true, true, true, true, true, true, true, true] rfl rfl (by kernel_rfl) (by decide) (fun K hK => ?_)
   refine skip_ (w1 := ?_) (by rfl) rfl ?_ ?_
   rotate_left
   ·go_simp
    rfl
   refine hK.out _ _ ?_
   clear hK K
   refine done_ (by kernel_rfl) ?_
   clear hHeld fz_ st11_
   replace HS := HD
   clear HD
   replace HS := HS.setBox 11 (.int .i64 (s.c.us + ((s.c.ms.length : Int) + (s.pd.length : Int)))) .here
   simp only [List.setIfInBounds_toArray, List.set_cons_zero, List.set_cons_succ] at HS
   generalize wd.setCell ⟨g, 11, none⟩ (.int .i64 (s.c.us + ((s.c.ms.length : Int) + (s.pd.length : Int)))) = w20 at HS ⊢
   clear z1 z2
   go_upto_region 21 with fail
   have HD := Hold.drew HS
   refine start_ (n := 7) (S := fun w' => w'.cell? ⟨g, 6, none⟩ = some (.int .i64 s.n0) ∧ w'.cell? ⟨g, 7, none⟩ = some (.int .i64 s.n1) ∧ w'.cell? ⟨g, 8, none⟩ = some (.int .i64 s.n2) ∧ w'.cell? ⟨g, 9, none⟩ = some (.int .i64 s.n3) ∧ w'.cell? ⟨g, 10, none⟩ = some (.int .i64 s.is) ∧ w'.cell? ⟨g, 11, none⟩ = some (.int .i64 (s.c.us + ((s.c.ms.length : Int) + (s.pd.length : Int))))) (ds := [6]) #[false, false, false, false, false, false, false] (by kernel_rfl) rfl rfl ⟨(HD.cell at0 6 _ rfl), (HD.cell at0 7 _ rfl), (HD.cell at0 8 _ rfl), (HD.cell at0 9 _ rfl), (HD.cell at0 10 _ rfl), (HD.cell at0 11 _ rfl)⟩ (fun hHeld => ?_)
   generalize w20.drew = wd at HD hHeld ⊢
   have fz_ : ∀ j, wd.frozen? ⟨rb, j, none⟩ = false := HD.thaw at7
   have st0_ : wd.cell? ⟨rb, 0, none⟩ = some (.int .i64 0) := HD.cell at7 0 _ rfl
   have st1_ : wd.cell? ⟨rb, 1, none⟩ = some (.int .i64 0) := HD.cell at7 1 _ rfl
   have st2_ : wd.cell? ⟨rb, 2, none⟩ = some (.int .i64 0) := HD.cell at7 2 _ rfl
   have st3_ : wd.cell? ⟨rb, 3, none⟩ = some (.int .i64 0) := HD.cell at7 3 _ rfl
   have st4_ : wd.cell? ⟨rb, 4, none⟩ = some (.int .i64 0) := HD.cell at7 4 _ rfl
   have st5_ : wd.cell? ⟨rb, 5, none⟩ = some (.int .i64 0) := HD.cell at7 5 _ rfl
   refine pu_ (i := 0) (N := some 146) (h := ?_)
   refine pu_ (i := 1) (N := some 147) (h := ?_)
   refine pu_ (i := 2) (N := some 148) (h := ?_)
   refine pu_ (i := 3) (N := some 149) (h := ?_)
   refine pu_ (i := 5) (N := some 4) (h := ?_)
   refine ta_ (i := 4) (N := some 150) (hS := hHeld) (hy := by rintro w' ⟨s0, s1, s2, s3, s4, s5⟩; go_simp; with_reducible rfl) (h := ?_)
   refine last_ (i := 6) (N := none) #[true, true, true, true, true, true, true] rfl rfl (by kernel_rfl) (by decide) (fun K hK => ?_)
   refine skip_ (w1 := ?_) (by rfl) rfl ?_ ?_
   rotate_left
   ·go_simp
    rfl
   refine hK.out _ _ ?_
   clear hK K
   refine done_ (by kernel_rfl) ?_
   clear hHeld fz_ st0_ st1_ st2_ st3_ st4_ st5_
   replace HS := HD
   clear HD
   have H9 := HS
   replace H9 := H9.setBox 0 (.int .i64 s.n0) (.there (.there (.there (.there (.there (.there (.there .here)))))))
   replace H9 := H9.setBox 1 (.int .i64 s.n1) (.there (.there (.there (.there (.there (.there (.there .here)))))))
   replace H9 := H9.setBox 2 (.int .i64 s.n2) (.there (.there (.there (.there (.there (.there (.there .here)))))))
   replace H9 := H9.setBox 3 (.int .i64 s.n3) (.there (.there (.there (.there (.there (.there (.there .here)))))))
   replace H9 := H9.setBox 4 (.int .i64 s.is) (.there (.there (.there (.there (.there (.there (.there .here)))))))
   replace H9 := H9.setBox 5 (.int .i64 (s.c.us + ((s.c.ms.length : Int) + (s.pd.length : Int)))) (.there (.there (.there (.there (.there (.there (.there .here)))))))
   simp only [List.setIfInBounds_toArray, List.set_cons_zero, List.set_cons_succ] at H9
   go_wp2_with fail
   refine bodyPost_ret (results_tc rfl _ _ rb 40 _ (0, 0) _ rfl (H9.blk at7) Try.underlying40 rfl (by kernel_rfl)) rfl ?_
   exact ⟨_, rfl, Hold.one H9 at5, H9.below⟩
theorem okFetch_facts {a0 a1 a2 a3 : Int} {l : List S27} (h : okFetch a0 a1 a2 a3 l = true) : okPref a0 a1 a2 a3 = true ∧ l.length ≤ 60 ∧ (l.any xpLoad) = false := by
 simp only [okFetch, Bool.and_eq_true, decide_eq_true_eq, Bool.not_eq_true'] at h
 exact h
def spec_l09Do.f (a0_0 : Int) (a0_1 : Int) (a0_2 : Int) (a0_3 : Int) (l1 : List S27) : Option (List Int × Int × Int × Int × Int × Int × Int) := if okFetch a0_0 a0_1 a0_2 a0_3 l1 = true then some (fetchR a0_0 a0_1 a0_2 a0_3 l1) else none
theorem spec_l09Do.calls (g0 : Nat) (a0_0 : Int) (a0_1 : Int) (a0_2 : Int) (a0_3 : Int) (A1 : Option Addr) (c1 : Nat) (l1 : List S27) (r1 : List Int) (r2 : Int) (r3 : Int) (r4 : Int) (r5 : Int) (r6 : Int) (r7 : Int) (w : World) (hb0 : w.heap[g0]? = some (.cells #[.int .i64 a0_0, .int .i64 a0_1, .int .i64 a0_2, .int .i64 a0_3] 29 (0, 0))) (hr1 : Kd.C k27 w A1 l1.length l1) (hc1 : l1.length ≤ c1) (h : spec_l09Do.f a0_0 a0_1 a0_2 a0_3 l1 = some (r1, r2, r3, r4, r5, r6, r7)) :
  Calls Try.prog 59 #[.pointer (some ⟨g0, 0, none⟩), .slice A1 l1.length c1] w fun e w' => ∃ v0_ : Value, e = .returned (.tuple #[v0_, .agg #[.int .i64 r2, .int .i64 r3, .int .i64 r4, .int .i64 r5, .int .i64 r6, .int .i64 r7]]) ∧ Kd.R (Kd.int .i64) 2 w' w.heap.size (fun _ => True) v0_ r1 ∧ Below w.heap.size w w' := by
 unfold spec_l09Do.f at h
 split at h
 ·rename_i hh
  obtain ⟨h1, h2, h3⟩ := okFetch_facts hh
  have hp := (pref_facts h1).2.2
  cases h
  exact fdo_calls g0 a0_0 a0_1 a0_2 a0_3 hb0 A1 c1 l1 hr1 hc1 h1 h2 h3 (n := a0_3.toNat) (by omega) ⟨by omega, by omega⟩ rfl
 ·cases h
end Go.Proofs.Ytpooojgeonpmnaa.PFnExactAccuracyOf
