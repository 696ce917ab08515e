import Derived.Test.YtpooojgeonpmnaaZDegreesPFnDegreesx0
import Derived.Test.YtpooojgeonpmnaaZDegreesPFnDegreesx1
import Derived.Test.YtpooojgeonpmnaaZDegreesPFnDegreesx2
import Derived.Test.YtpooojgeonpmnaaZDegreesPFnDegreesx3
import Derived.Test.YtpooojgeonpmnaaZDegreesPFnDegreesx4
import Derived.Test.YtpooojgeonpmnaaZDegreesPFnDegreesx5
import Derived.Test.YtpooojgeonpmnaaZDegreesPFnDegreesx6
import Derived.Test.YtpooojgeonpmnaaZDegreesPFnDegreesx7
import Derived.Test.YtpooojgeonpmnaaZDegreesPFnDegreesx8
namespace Go.Proofs.Ytpooojgeonpmnaa.PFnDegrees
open Go.RowKit Go.Proofs.YtpooojgeonpmnaaW.PrintWords Go.Proofs.YtpooojgeonpmnaaW.PrintLast Go.Proofs.YtpooojgeonpmnaaW.PrintMore
attribute [local go_sem] max2_int min2_int max_two min_two max_three min_three max_four min_four   -- for this text's walks alone
set_option linter.unusedVariables false
set_option linter.unusedSimpArgs false
theorem in_impl (a b c : Int) : impl_inRange.f a b c = some (decide (b ≤ a) && decide (a ≤ c)) := by
 unfold impl_inRange.f
 by_cases h : b ≤ a <;> simp [h]
theorem in_spec (a b c : Int) : spec_l00In.f a b c = some (decide (b ≤ a) && decide (a ≤ c)) := by
 unfold spec_l00In.f
 by_cases h : b ≤ a <;> simp [h]
def okLoad (x : S27) : Bool := (decide (0 ≤ x.f0) && decide (x.f0 ≤ 3)) && (decide (0 ≤ x.f1) && decide (x.f1 ≤ 63))
theorem xpLoad_not (x : S27) : xpLoad x = !okLoad x := by
 unfold xpLoad okLoad
 cases decide (0 ≤ x.f0) <;> cases decide (x.f0 ≤ 3) <;> cases decide (0 ≤ x.f1) <;> cases decide (x.f1 ≤ 63) <;> rfl
theorem getD_mem {α : Type} (l : List α) (i : Nat) (z : α) (h : i < l.length) : l.getD i z ∈ l := by
 rw [getD_lt l i z h]; exact List.getElem_mem h
/-- The lines of a stream. -/
def linesL (l : List (S27)) (s : Int) : List Int := (l.filter fun x => decide (x.f0 = s)).map fun x => x.f1
theorem linesL_length (l : List (S27)) (s : Int) : (linesL l s).length ≤ l.length := by
 unfold linesL; rw [List.length_map]; exact List.length_filter_le _ _
def strideV (t : List Int) : Int :=
 if (t.length : Int) < 3 then 0
 else if (wrap64 ((rd t (wrap64 ((t.length : Int) - 1))) - (rd t (wrap64 ((t.length : Int) - 2))))) = (wrap64 ((rd t (wrap64 ((t.length : Int) - 2))) - (rd t (wrap64 ((t.length : Int) - 3)))))
  then wrap64 ((rd t (wrap64 ((t.length : Int) - 1))) - (rd t (wrap64 ((t.length : Int) - 2)))) else 0
theorem strideV_eq (t : List Int) (ht : t.length ≤ 1048576) : (if (t.length : Int) < 3 then (some 0) else (if 0 ≤ (wrap64 ((t.length : Int) - 1)) then (if (wrap64 ((t.length : Int) - 1)) < (t.length : Int) then (if 0 ≤ (wrap64 ((t.length : Int) - 2)) then (if (wrap64 ((t.length : Int) - 2)) < (t.length : Int) then (if 0 ≤ (wrap64 ((t.length : Int) - 3)) then (if (wrap64 ((t.length : Int) - 3)) < (t.length : Int) then (if (wrap64 ((rd t (wrap64 ((t.length : Int) - 1))) - (rd t (wrap64 ((t.length : Int) - 2))))) = (wrap64 ((rd t (wrap64 ((t.length : Int) - 2))) - (rd t (wrap64 ((t.length : Int) - 3))))) then (some (wrap64 ((rd t (wrap64 ((t.length : Int) - 1))) - (rd t (wrap64 ((t.length : Int) - 2)))))) else (some 0)) else (none)) else (none)) else (none)) else (none)) else (none)) else (none))) = some (strideV t) := by
 unfold strideV
 by_cases h : (t.length : Int) < 3
 ·rw [if_pos h, if_pos h]
 ·rw [if_neg h, if_neg h]
  have e1 : wrap64 ((t.length : Int) - 1) = (t.length : Int) - 1 := wrap_id (by omega) (by omega)
  have e2 : wrap64 ((t.length : Int) - 2) = (t.length : Int) - 2 := wrap_id (by omega) (by omega)
  have e3 : wrap64 ((t.length : Int) - 3) = (t.length : Int) - 3 := wrap_id (by omega) (by omega)
  rw [if_pos (by rw [e1]; omega), if_pos (by rw [e1]; omega), if_pos (by rw [e2]; omega), if_pos (by rw [e2]; omega), if_pos (by rw [e3]; omega), if_pos (by rw [e3]; omega)]
  split <;> rfl
theorem linesL_cons (x : S27) (l : List (S27)) (s : Int) : linesL (x :: l) s = if x.f0 = s then x.f1 :: linesL l s else linesL l s := by
 unfold linesL
 rw [List.filter_cons]
 by_cases h : x.f0 = s <;> simp [h]
theorem implLines_ev (l : List (S27)) (s : Int) (h : l.length ≤ 1048576) : Ev (fun k => impl_linesOf.f k l s) (linesL l s) := by
 unfold impl_linesOf.f
 have key : ∀ d i (acc : List Int), l.length - i = d → i ≤ l.length → acc.length ≤ i → Ev (fun k => impl_linesOf.l0 k s acc l (l.length : Int) (i : Int)) (acc ++ linesL (l.drop i) s) := by
  intro d
  induction d with
  | zero =>
   intro i acc hd hi ha
   refine Ev.succ ?_
   simp only [impl_linesOf.l0]
   refine Ev.neg (by omega) (Ev.some ?_)
   rw [List.drop_eq_nil_of_le (by omega)]
   simp [linesL]
  | succ d ih =>
   intro i acc hd hi ha
   refine Ev.succ ?_
   simp only [impl_linesOf.l0]
   refine Ev.pos (by omega) (Ev.pos (by omega) (Ev.pos (by omega) ?_))
   have hrd : rd_T27 l (i : Int) = l.getD i z27 := rfl
   rw [drop_cons l i z27 (by omega), linesL_cons, hrd, wrap_succ (show i < l.length by omega) (by omega)]
   by_cases hs : (l.getD i z27).f0 = s
   ·refine Ev.pos hs (Ev.pos (by omega) ?_)
    rw [if_pos hs]
    have := ih (i + 1) (acc ++ [(l.getD i z27).f1]) (by omega) (by omega) (by simp; omega)
    simpa using this
   ·refine Ev.neg hs ?_
    rw [if_neg hs]
    exact ih (i + 1) acc (by omega) (by omega) (by omega)
 have := key l.length 0 [] (by omega) (by omega) (by simp)
 simpa using this
theorem specLines_ev (l : List (S27)) (n : Nat) (s : Int) (h : l.length ≤ 1048576) (hn : n ≤ l.length) : Ev (fun k => spec_l09Of.f k l (n : Int) s) (linesL (l.take n) s) := by
 unfold spec_l09Of.f
 have key : ∀ d i (acc : List Int), n - i = d → i ≤ n → acc.length ≤ i → Ev (fun k => spec_l09Of.l0 k l (n : Int) s acc (i : Int)) (acc ++ linesL ((l.take n).drop i) s) := by
  intro d
  induction d with
  | zero =>
   intro i acc hd hi ha
   refine Ev.succ ?_
   simp only [spec_l09Of.l0]
   refine Ev.neg (by omega) (Ev.some ?_)
   rw [List.drop_eq_nil_of_le (by rw [List.length_take]; omega)]
   simp [linesL]
  | succ d ih =>
   intro i acc hd hi ha
   refine Ev.succ ?_
   simp only [spec_l09Of.l0]
   refine Ev.pos (by omega) (Ev.pos (by omega) (Ev.pos (by omega) ?_))
   have hrd : rd_T27 l (i : Int) = l.getD i z27 := rfl
   have hg : (l.take n).getD i z27 = l.getD i z27 := by
    rw [List.getD_eq_getElem?_getD, List.getD_eq_getElem?_getD, List.getElem?_take_of_lt (by omega)]
   rw [drop_cons (l.take n) i z27 (by rw [List.length_take]; omega), linesL_cons, hg, hrd, wrap_succ (show i < l.length by omega) (by omega)]
   by_cases hs : (l.getD i z27).f0 = s
   ·refine Ev.pos hs (Ev.pos (by omega) ?_)
    rw [if_pos hs]
    have := ih (i + 1) (acc ++ [(l.getD i z27).f1]) (by omega) (by omega) (by simp; omega)
    simpa using this
   ·refine Ev.neg hs ?_
    rw [if_neg hs]
    exact ih (i + 1) acc (by omega) (by omega) (by omega)
 have := key n 0 [] (by omega) (by omega) (by simp)
 simpa using this
/-- The stride behind load i. -/
def strideAt (l : List (S27)) (i : Nat) : Int := strideV (linesL (l.take (i + 1)) (l.getD i z27).f0)
theorem implStride_ev (l : List (S27)) (i : Nat) (h : l.length ≤ 1048576) (hi : i < l.length) : Ev (fun k => impl_stride.f k (l.take (i + 1))) (strideAt l i) := by
 have hl : (l.take (i + 1)).length = i + 1 := by rw [List.length_take]; omega
 have e1 : wrap64 (((l.take (i + 1)).length : Int) - 1) = (i : Int) := by rw [hl, wrap_id (by omega) (by omega)]; omega
 have hg : rd_T27 (l.take (i + 1)) (i : Int) = l.getD i z27 := by
  show (l.take (i + 1)).getD i z27 = _
  rw [List.getD_eq_getElem?_getD, List.getD_eq_getElem?_getD, List.getElem?_take_of_lt (by omega)]
 unfold impl_stride.f
 rw [e1, hg]
 refine Ev.pos (by omega) (Ev.pos (by omega) (Ev.bind (implLines_ev _ _ (by omega)) ?_))
 exact Ev.congr (fun _ => strideV_eq _ (Nat.le_trans (linesL_length _ _) (by omega))) (Ev.some rfl)
theorem specStride_ev (l : List (S27)) (i : Nat) (h : l.length ≤ 1048576) (hi : i < l.length) : Ev (fun k => spec_l09Stride.f k l (i : Int)) (strideAt l i) := by
 unfold spec_l09Stride.f
 rw [wrap_succ hi (by omega)]
 have hg : rd_T27 l (i : Int) = l.getD i z27 := rfl
 rw [hg]
 refine Ev.pos (by omega) (Ev.pos (by omega) (Ev.bind (specLines_ev l (i + 1) _ h (by omega)) ?_))
 exact Ev.congr (fun _ => strideV_eq _ (Nat.le_trans (linesL_length _ _) (by rw [List.length_take]; omega))) (Ev.some rfl)
/-- The line that followed the latest place before n of a line; -1 if there is none. -/
def follUp (l : List Int) (x : Int) : Nat → Int
 | 0 => -1
 | n + 1 => if rd l (n : Int) = x then rd l ((n + 1 : Nat) : Int) else follUp l x n
def follV (l : List Int) (x : Int) : Int := follUp l x (l.length - 1)
theorem specFoll_ev (l : List Int) (x : Int) (h : l.length ≤ 1048576) : Ev (fun k => spec_l09Follower.f k l x) (follV l x) := by
 unfold spec_l09Follower.f follV
 have key : ∀ n, n + 1 ≤ l.length → Ev (fun k => spec_l09Follower.l0 k l x ((n : Int) - 1)) (follUp l x n) := by
  intro n
  induction n with
  | zero =>
   intro _
   refine Ev.succ ?_
   simp only [spec_l09Follower.l0]
   exact Ev.neg (by omega) (Ev.some rfl)
  | succ n ih =>
   intro hn
   have e0 : ((n + 1 : Nat) : Int) - 1 = (n : Int) := by omega
   rw [e0]
   refine Ev.succ ?_
   simp only [spec_l09Follower.l0]
   refine Ev.pos (by omega) (Ev.pos (by omega) (Ev.pos (by omega) ?_))
   have e1 : wrap64 ((n : Int) + 1) = ((n + 1 : Nat) : Int) := wrap_succ (Nat.lt_succ_self n) (by omega)
   have e2 : wrap64 ((n : Int) - 1) = (n : Int) - 1 := wrap_id (by omega) (by omega)
   rw [e1, e2]
   unfold follUp
   by_cases hx : rd l (n : Int) = x
   ·rw [if_pos hx]
    exact Ev.pos hx (Ev.pos (by omega) (Ev.pos (by omega) (Ev.some rfl)))
   ·rw [if_neg hx]
    exact Ev.neg hx (ih (by omega))
 rcases Nat.eq_zero_or_pos l.length with h0 | h0
 ·rw [wrap_id (by omega) (by omega), h0]
  refine Ev.succ ?_
  simp only [spec_l09Follower.l0]
  exact Ev.neg (by omega) (Ev.some rfl)
 ·have := key (l.length - 1) (by omega)
  rw [wrap_id (by omega) (by omega)]
  rw [show (l.length : Int) - 2 = ((l.length - 1 : Nat) : Int) - 1 by omega]
  exact this
theorem foll_l0 (l : List Int) (x : Int) : ∀ k i, impl_follower.l0 k l x i = spec_l09Follower.l0 k l x i := by
 intro k
 induction k with
 | zero => intro i; rfl
 | succ k ih => intro i; simp only [impl_follower.l0, spec_l09Follower.l0, ih]
theorem implFoll_ev (l : List Int) (x : Int) (h : l.length ≤ 1048576) : Ev (fun k => impl_follower.f k l x) (follV l x) :=
 Ev.congr (fun k => show impl_follower.f k l x = spec_l09Follower.f k l x from foll_l0 l x k _) (specFoll_ev l x h)
theorem specHas_ev (l : List Int) (x : Int) (h : l.length ≤ 1048576) : Ev (fun k => spec_l00Has.f k l x) (l.any fun y => decide (y = x)) := by
 unfold spec_l00Has.f
 have key : ∀ d i, l.length - i = d → i ≤ l.length → Ev (fun k => spec_l00Has.l0 k l x (i : Int)) ((l.drop i).any fun y => decide (y = x)) := by
  intro d
  induction d with
  | zero =>
   intro i hd hi
   refine Ev.succ ?_
   simp only [spec_l00Has.l0]
   refine Ev.neg (by omega) (Ev.some ?_)
   rw [List.drop_eq_nil_of_le (by omega)]
   rfl
  | succ d ih =>
   intro i hd hi
   refine Ev.succ ?_
   simp only [spec_l00Has.l0]
   refine Ev.pos (by omega) (Ev.pos (by omega) ?_)
   have hrd : rd l (i : Int) = l.getD i 0 := rfl
   rw [drop_cons l i 0 (by omega), List.any_cons, hrd, wrap_succ (show i < l.length by omega) (by omega)]
   by_cases hx : l.getD i 0 = x
   ·exact Ev.pos hx (Ev.some (by rw [decide_eq_true hx]; rfl))
   ·refine Ev.neg hx ?_
    have := ih (i + 1) (by omega) (by omega)
    rw [decide_eq_false hx, Bool.false_or]
    exact this
 have := key l.length 0 (by omega) (by omega)
 simpa using this
theorem implIndex_ev (l : List Int) (x : Int) (h : l.length ≤ 1048576) : Ev (fun k => slices_Index_int64_int64.f k l x) (xIdx (fun y => decide (y = x)) l 0) := by
 unfold slices_Index_int64_int64.f
 have key : ∀ d i, l.length - i = d → i ≤ l.length → Ev (fun k => slices_Index_int64_int64.l0 k l x (l.length : Int) (i : Int)) (xIdx (fun y => decide (y = x)) (l.drop i) (i : Int)) := by
  intro d
  induction d with
  | zero =>
   intro i hd hi
   refine Ev.succ ?_
   simp only [slices_Index_int64_int64.l0]
   refine Ev.neg (by omega) (Ev.some ?_)
   rw [xIdx_drop_end _ _ _ (by omega)]
  | succ d ih =>
   intro i hd hi
   refine Ev.succ ?_
   simp only [slices_Index_int64_int64.l0]
   refine Ev.pos (by omega) (Ev.pos (by omega) (Ev.pos (by omega) ?_))
   have hrd : rd l (i : Int) = l.getD i 0 := rfl
   rw [hrd, wrap_succ (show i < l.length by omega) (by omega)]
   by_cases hx : l.getD i 0 = x
   ·refine Ev.pos hx.symm (Ev.some ?_)
    rw [xIdx_drop_hit _ _ _ 0 (by omega) _ (by rw [hx]; simp)]
   ·refine Ev.neg (fun e => hx e.symm) ?_
    rw [xIdx_drop_miss _ _ _ 0 (by omega) _ (by simpa using hx)]
    exact ih (i + 1) (by omega) (by omega)
 have := key l.length 0 (by omega) (by omega)
 simpa using this
theorem implHas_ev (l : List Int) (x : Int) (h : l.length ≤ 1048576) : Ev (fun k => slices_Contains_int64_int64.f k l x) (l.any fun y => decide (y = x)) := by
 unfold slices_Contains_int64_int64.f
 refine Ev.bind (implIndex_ev l x h) (Ev.some ?_)
 rw [xIdx_nonneg _ _ _ (by omega)]
/-- The guesses of followers: at most n. -/
def pairGo (t : List Int) (line : Int) : Nat → List Int → Int → List Int
 | 0, out, _ => out
 | n + 1, out, now => if follV t now < 0 then out else if follV t now = line then out else if (out.any fun y => decide (y = follV t now)) = true then out else pairGo t line n (out ++ [follV t now]) (follV t now)
theorem pairGo_length (t : List Int) (line : Int) : ∀ n out now, (pairGo t line n out now).length ≤ out.length + n := by
 intro n
 induction n with
 | zero => intro out now; simp [pairGo]
 | succ n ih =>
  intro out now
  unfold pairGo
  split
  ·omega
  ·split
   ·omega
   ·split
    ·omega
    ·have := ih (out ++ [follV t now]) (follV t now)
     simp at this; omega
theorem specPair_ev (t : List Int) (line a0 d a2 a3 : Int) (ht : t.length ≤ 1048576) (hd : d ≤ 1000) : ∀ (n : Nat) (out : List Int) (now : Int), (out.length : Int) ≤ 1000 → (n : Int) = d - out.length → Ev (fun k => spec_l09Guess.l0 k line out t now a0 d a2 a3) (pairGo t line n out now) := by
 intro n
 induction n with
 | zero =>
  intro out now ho hn
  refine Ev.succ ?_
  simp only [spec_l09Guess.l0]
  exact Ev.neg (by omega) (Ev.some rfl)
 | succ n ih =>
  intro out now ho hn
  refine Ev.succ ?_
  simp only [spec_l09Guess.l0, pairGo]
  refine Ev.pos (by omega) (Ev.bind (specFoll_ev t now ht) ?_)
  by_cases h1 : follV t now < 0
  ·rw [if_pos h1]; exact Ev.pos h1 (Ev.some rfl)
  ·rw [if_neg h1]
   refine Ev.neg h1 ?_
   by_cases h2 : follV t now = line
   ·rw [if_pos h2]; exact Ev.pos h2 (Ev.some rfl)
   ·rw [if_neg h2]
    refine Ev.neg h2 (Ev.bind (specHas_ev out (follV t now) (by omega)) ?_)
    by_cases h3 : (out.any fun y => decide (y = follV t now)) = true
    ·rw [if_pos h3]; exact Ev.pos h3 (Ev.some rfl)
    ·rw [if_neg h3]
     exact Ev.neg h3 (Ev.pos (by omega) (ih _ _ (by simp; omega) (by simp; omega)))
theorem implPair_ev (t : List Int) (line a0 d a2 a3 s : Int) (ht : t.length ≤ 1048576) (hd : d ≤ 1000) : ∀ (n : Nat) (out : List Int) (now : Int), (out.length : Int) ≤ 1000 → (n : Int) = d - out.length → Ev (fun k => impl_Prefetcher_guesses.l0 k out t now a0 d a2 a3 s line) (pairGo t line n out now) := by
 intro n
 induction n with
 | zero =>
  intro out now ho hn
  refine Ev.succ ?_
  simp only [impl_Prefetcher_guesses.l0]
  exact Ev.bindc (a := (out.length : Int)) rfl (Ev.neg (by omega) (Ev.some rfl))
 | succ n ih =>
  intro out now ho hn
  refine Ev.succ ?_
  simp only [impl_Prefetcher_guesses.l0, pairGo]
  refine Ev.bindc (a := (out.length : Int)) rfl (Ev.pos (by omega) (Ev.bind (implFoll_ev t now ht) ?_))
  by_cases h1 : follV t now < 0
  ·rw [if_pos h1]; exact Ev.pos h1 (Ev.some rfl)
  ·rw [if_neg h1]
   refine Ev.neg h1 ?_
   by_cases h2 : follV t now = line
   ·rw [if_pos h2]; exact Ev.pos h2 (Ev.some rfl)
   ·rw [if_neg h2]
    refine Ev.neg h2 (Ev.bind (implHas_ev out (follV t now) (by omega)) ?_)
    by_cases h3 : (out.any fun y => decide (y = follV t now)) = true
    ·rw [if_pos h3]; exact Ev.pos h3 (Ev.some rfl)
    ·rw [if_neg h3]
     exact Ev.neg h3 (Ev.pos (by omega) (ih _ _ (by simp; omega) (by simp; omega)))
/-- The guesses of a step: while they are addresses, at most n from the k-th one on. -/
def stepGo (line by_ : Int) : Nat → List Int → Int → List Int
 | 0, out, _ => out
 | n + 1, out, k => if 0 ≤ line + k * by_ ∧ line + k * by_ ≤ 63 then stepGo line by_ n (out ++ [line + k * by_]) (k + 1) else out
theorem stepGo_length (line by_ : Int) : ∀ n out k, (stepGo line by_ n out k).length ≤ out.length + n := by
 intro n
 induction n with
 | zero => intro out k; simp [stepGo]
 | succ n ih =>
  intro out k
  unfold stepGo
  split
  ·have := ih (out ++ [line + k * by_]) (k + 1)
   simp at this; omega
  ·omega
/-- Behind the first that is no address there is none any more. -/
theorem specRest_ev (line by_ a0 d a2 a3 : Int) (hb : by_ ≠ 0) (hl0 : 0 ≤ line) (hl1 : line ≤ 63) (hb0 : -100 ≤ by_) (hb1 : by_ ≤ 100) (hd : d ≤ 4) : ∀ (n : Nat) (out : List Int) (k : Int), 1 ≤ k → k ≤ 5 → (n : Int) = d + 1 - k → ¬ (0 ≤ line + k * by_ ∧ line + k * by_ ≤ 63) →
  Ev (fun f => spec_l09Guess.l1 f line out by_ k a0 d a2 a3) out := by
 intro n
 induction n with
 | zero =>
  intro out k hk hk5 hn hx
  refine Ev.succ ?_
  simp only [spec_l09Guess.l1]
  refine Ev.neg (by omega) (Ev.succ ?_)
  simp only [spec_l09Guess.j3]
  exact Ev.neg (by simp) (Ev.some rfl)
 | succ n ih =>
  intro out k hk hk5 hn hx
  have hk4 : k ≤ 4 := by omega
  refine Ev.succ ?_
  simp only [spec_l09Guess.l1]
  refine Ev.pos (by omega) (Ev.succ ?_)
  simp only [spec_l09Guess.j3, spec_l03Address.f, in_spec, Option.bind_some]
  have hw : wrap64 (line + wrap64 (k * by_)) = line + k * by_ := by
   obtain h | h | h | h : k = 1 ∨ k = 2 ∨ k = 3 ∨ k = 4 := by omega
   all_goals subst h; rw [wrap_id (x := _ * by_) (by omega) (by omega), wrap_id (by omega) (by omega)]
  rw [hw, wrap_id (x := k + 1) (by omega) (by omega)]
  refine Ev.pos (by simpa using hb) (Ev.neg ?_ (ih out (k + 1) (by omega) (by omega) (by omega) ?_))
  ·simp only [Bool.and_eq_true, decide_eq_true_eq]; exact hx
  ·obtain h | h | h | h : k = 1 ∨ k = 2 ∨ k = 3 ∨ k = 4 := by omega
   all_goals subst h; omega
theorem specStep_ev (line by_ a0 d a2 a3 : Int) (hb : by_ ≠ 0) (hl0 : 0 ≤ line) (hl1 : line ≤ 63) (hb0 : -100 ≤ by_) (hb1 : by_ ≤ 100) (hd : d ≤ 4) : ∀ (n : Nat) (out : List Int) (k : Int), 1 ≤ k → k ≤ 5 → (n : Int) = d + 1 - k → (out.length : Int) < k →
  Ev (fun f => spec_l09Guess.l1 f line out by_ k a0 d a2 a3) (stepGo line by_ n out k) := by
 intro n
 induction n with
 | zero =>
  intro out k hk hk5 hn ho
  refine Ev.succ ?_
  simp only [spec_l09Guess.l1]
  refine Ev.neg (by omega) (Ev.succ ?_)
  simp only [spec_l09Guess.j3]
  exact Ev.neg (by simp) (Ev.some rfl)
 | succ n ih =>
  intro out k hk hk5 hn ho
  by_cases hx : 0 ≤ line + k * by_ ∧ line + k * by_ ≤ 63
  ·have hk4 : k ≤ 4 := by omega
   refine Ev.succ ?_
   simp only [spec_l09Guess.l1]
   refine Ev.pos (by omega) (Ev.succ ?_)
   simp only [spec_l09Guess.j3, spec_l03Address.f, in_spec, Option.bind_some]
   have hw : wrap64 (line + wrap64 (k * by_)) = line + k * by_ := by
    obtain h | h | h | h : k = 1 ∨ k = 2 ∨ k = 3 ∨ k = 4 := by omega
    all_goals subst h; rw [wrap_id (x := _ * by_) (by omega) (by omega), wrap_id (by omega) (by omega)]
   rw [hw, wrap_id (x := k + 1) (by omega) (by omega)]
   unfold stepGo
   rw [if_pos hx]
   exact Ev.pos (by simpa using hb) (Ev.pos (by simpa using hx) (Ev.pos (by omega) (ih _ _ (by omega) (by omega) (by omega) (by simp; omega))))
  ·unfold stepGo
   rw [if_neg hx]
   exact specRest_ev line by_ a0 d a2 a3 hb hl0 hl1 hb0 hb1 hd (n + 1) out k hk hk5 hn hx
theorem implStep_ev (line by_ a0 d a2 a3 s : Int) (hb : by_ ≠ 0) (hl0 : 0 ≤ line) (hl1 : line ≤ 63) (hb0 : -100 ≤ by_) (hb1 : by_ ≤ 100) (hd : d ≤ 4) : ∀ (n : Nat) (out : List Int) (k : Int), 1 ≤ k → k ≤ 5 → (n : Int) = d + 1 - k → (out.length : Int) < k →
  Ev (fun f => impl_Prefetcher_guesses.l1 f out by_ k a0 d a2 a3 s line) (stepGo line by_ n out k) := by
 intro n
 induction n with
 | zero =>
  intro out k hk hk5 hn ho
  refine Ev.succ ?_
  simp only [impl_Prefetcher_guesses.l1]
  exact Ev.neg hb (Ev.neg (by omega) (Ev.some rfl))
 | succ n ih =>
  intro out k hk hk5 hn ho
  have hk4 : k ≤ 4 := by omega
  refine Ev.succ ?_
  simp only [impl_Prefetcher_guesses.l1, impl_isAddress.f, in_impl, Option.bind_some]
  have hw : wrap64 (line + wrap64 (k * by_)) = line + k * by_ := by
   obtain h | h | h | h : k = 1 ∨ k = 2 ∨ k = 3 ∨ k = 4 := by omega
   all_goals subst h; rw [wrap_id (x := _ * by_) (by omega) (by omega), wrap_id (by omega) (by omega)]
  rw [hw, wrap_id (x := k + 1) (by omega) (by omega)]
  refine Ev.neg hb (Ev.pos (by omega) ?_)
  unfold stepGo
  by_cases hx : 0 ≤ line + k * by_ ∧ line + k * by_ ≤ 63
  ·rw [if_pos hx]
   exact Ev.pos (by simpa using hx) (Ev.pos (by omega) (ih _ _ (by omega) (by omega) (by omega) (by simp; omega)))
  ·rw [if_neg hx]
   exact Ev.neg (by simp only [Bool.and_eq_true, decide_eq_true_eq]; exact hx) (Ev.some rfl)
/-- The guesses behind load i. -/
def guessAt (f0 f1 : Int) (l : List (S27)) (i : Nat) : List Int :=
 if f0 = 2 then pairGo (linesL (l.take (i + 1)) (l.getD i z27).f0) (l.getD i z27).f1 f1.toNat [] (l.getD i z27).f1
 else if (if f0 = 1 then strideAt l i else 1) = 0 then [] else stepGo (l.getD i z27).f1 (if f0 = 1 then strideAt l i else 1) f1.toNat [] 1
theorem guessAt_length (f0 f1 : Int) (l : List (S27)) (i : Nat) (h : f1 ≤ 4) : (guessAt f0 f1 l i).length ≤ 4 := by
 have key : ∀ b : Int, (if b = 0 then [] else stepGo (l.getD i z27).f1 b f1.toNat [] 1).length ≤ 4 := by
  intro b
  by_cases hb : b = 0
  ·rw [if_pos hb]; simp
  ·rw [if_neg hb]
   have := stepGo_length (l.getD i z27).f1 b f1.toNat [] 1
   rw [List.length_nil] at this; omega
 unfold guessAt
 by_cases h2 : f0 = 2
 ·rw [if_pos h2]
  have := pairGo_length (linesL (l.take (i + 1)) (l.getD i z27).f0) (l.getD i z27).f1 f1.toNat [] (l.getD i z27).f1
  rw [List.length_nil] at this; omega
 ·rw [if_neg h2]
  exact key _
theorem rd_bound (t : List Int) (i : Int) (h : ∀ x ∈ t, 0 ≤ x ∧ x ≤ 63) : 0 ≤ rd t i ∧ rd t i ≤ 63 := by
 unfold rd
 by_cases hi : i.toNat < t.length
 ·exact h _ (getD_mem t i.toNat 0 hi)
 ·rw [List.getD_eq_getElem?_getD, List.getElem?_eq_none (by omega)]; simp
theorem strideV_bound (t : List Int) (h : ∀ x ∈ t, 0 ≤ x ∧ x ≤ 63) : -100 ≤ strideV t ∧ strideV t ≤ 100 := by
 unfold strideV
 split
 ·omega
 ·split
  ·have h1 := rd_bound t (wrap64 ((t.length : Int) - 1)) h
   have h2 := rd_bound t (wrap64 ((t.length : Int) - 2)) h
   rw [wrap_id (x := _ - _) (by omega) (by omega)]
   omega
  ·omega
theorem okLoads_at (l : List (S27)) (hv : (l.any xpLoad) = false) (x : S27) (hx : x ∈ l) : (0 ≤ x.f0 ∧ x.f0 ≤ 3) ∧ 0 ≤ x.f1 ∧ x.f1 ≤ 63 := by
 have := List.any_eq_false.1 hv x hx
 rw [xpLoad_not] at this
 simpa [okLoad] using this
theorem linesL_ok (l : List (S27)) (s : Int) (h : ∀ x ∈ l, 0 ≤ x.f1 ∧ x.f1 ≤ 63) : ∀ y ∈ linesL l s, 0 ≤ y ∧ y ≤ 63 := by
 intro y hy
 unfold linesL at hy
 obtain ⟨x, hx, rfl⟩ := List.mem_map.1 hy
 exact h x (List.mem_filter.1 hx).1
theorem guess_ev (a0 a1 a2 a3 : Int) (l : List (S27)) (i : Nat) (hl : l.length ≤ 60) (hv : (l.any xpLoad) = false) (h1 : 0 ≤ a1) (h2 : a1 ≤ 4) (hi : i < l.length) :
  Ev (fun k => spec_l09Guess.f k a0 a1 a2 a3 l (i : Int)) (guessAt a0 a1 l i) ∧ Ev (fun k => impl_Prefetcher_guesses.f k a0 a1 a2 a3 (l.take (i + 1))) (guessAt a0 a1 l i) := by
 have hx := okLoads_at l hv _ (getD_mem l i z27 hi)
 have hlt : (l.take (i + 1)).length = i + 1 := by rw [List.length_take]; omega
 have e1 : wrap64 (((l.take (i + 1)).length : Int) - 1) = (i : Int) := by rw [hlt, wrap_id (by omega) (by omega)]; omega
 have hg : rd_T27 (l.take (i + 1)) (i : Int) = l.getD i z27 := by
  show (l.take (i + 1)).getD i z27 = _
  rw [List.getD_eq_getElem?_getD, List.getD_eq_getElem?_getD, List.getElem?_take_of_lt (by omega)]
 have hg2 : rd_T27 l (i : Int) = l.getD i z27 := rfl
 have htl : (linesL (l.take (i + 1)) (l.getD i z27).f0).length ≤ 1048576 := Nat.le_trans (linesL_length _ _) (by omega)
 have hst : -100 ≤ strideAt l i ∧ strideAt l i ≤ 100 := strideV_bound _ (linesL_ok _ _ (fun x hx => (okLoads_at l hv x (List.mem_of_mem_take hx)).2))
 unfold spec_l09Guess.f impl_Prefetcher_guesses.f guessAt
 rw [e1, hg, hg2, wrap_succ hi (by omega)]
 by_cases hk : a0 = 2
 ·rw [if_pos hk]
  exact ⟨Ev.pos (by omega) (Ev.pos (by omega) (Ev.bindc rfl (Ev.pos hk (Ev.bind (specLines_ev l (i + 1) _ (by omega) (by omega)) (specPair_ev _ _ a0 a1 a2 a3 htl (by omega) a1.toNat [] _ (by simp) (by simp; omega)))))),
   Ev.pos (by omega) (Ev.pos (by omega) (Ev.bindc rfl (Ev.pos hk (Ev.bind (implLines_ev _ _ (by omega)) (implPair_ev _ _ a0 a1 a2 a3 _ htl (by omega) a1.toNat [] _ (by simp) (by simp; omega))))))⟩
 ·rw [if_neg hk]
  have hs : ∀ b : Int, -100 ≤ b → b ≤ 100 → Ev (fun k => spec_l09Guess.j1 k (l.getD i z27).f1 [] b a0 a1 a2 a3) (if b = 0 then [] else stepGo (l.getD i z27).f1 b a1.toNat [] 1) := by
   intro b b0 b1
   refine Ev.succ ?_
   simp only [spec_l09Guess.j1]
   by_cases hb : b = 0
   ·rw [if_pos hb]
    refine Ev.succ ?_
    simp only [spec_l09Guess.l1]
    by_cases h3 : 1 ≤ a1
    ·exact Ev.pos h3 (Ev.succ (by simp only [spec_l09Guess.j3]; exact Ev.neg (by simp [hb]) (Ev.some rfl)))
    ·exact Ev.neg h3 (Ev.succ (by simp only [spec_l09Guess.j3]; exact Ev.neg (by simp) (Ev.some rfl)))
   ·rw [if_neg hb]
    exact specStep_ev _ b a0 a1 a2 a3 hb hx.2.1 hx.2.2 b0 b1 h2 a1.toNat [] 1 (by omega) (by omega) (by omega) (by simp)
  have hm : ∀ b s : Int, -100 ≤ b → b ≤ 100 → Ev (fun k => impl_Prefetcher_guesses.j1 k [] b a0 a1 a2 a3 s (l.getD i z27).f1) (if b = 0 then [] else stepGo (l.getD i z27).f1 b a1.toNat [] 1) := by
   intro b s b0 b1
   refine Ev.succ ?_
   simp only [impl_Prefetcher_guesses.j1]
   by_cases hb : b = 0
   ·rw [if_pos hb]
    refine Ev.succ ?_
    simp only [impl_Prefetcher_guesses.l1]
    exact Ev.pos hb (Ev.some rfl)
   ·rw [if_neg hb]
    exact implStep_ev _ b a0 a1 a2 a3 s hb hx.2.1 hx.2.2 b0 b1 h2 a1.toNat [] 1 (by omega) (by omega) (by omega) (by simp)
  by_cases h1' : a0 = 1
  ·rw [if_pos h1']
   exact ⟨Ev.pos (by omega) (Ev.pos (by omega) (Ev.bindc rfl (Ev.neg hk (Ev.pos h1' (Ev.bind (specStride_ev l i (by omega) hi) (hs _ hst.1 hst.2)))))),
    Ev.pos (by omega) (Ev.pos (by omega) (Ev.bindc rfl (Ev.neg hk (Ev.pos h1' (Ev.bind (implStride_ev l i (by omega) hi) (hm _ _ hst.1 hst.2))))))⟩
  ·rw [if_neg h1']
   exact ⟨Ev.pos (by omega) (Ev.pos (by omega) (Ev.bindc rfl (Ev.neg hk (Ev.neg h1' (hs 1 (by omega) (by omega)))))),
    Ev.pos (by omega) (Ev.pos (by omega) (Ev.bindc rfl (Ev.neg hk (Ev.neg h1' (hm 1 _ (by omega) (by omega))))))⟩
def okPref (a0 a1 a2 a3 : Int) : Bool := (decide (0 ≤ a0) && decide (a0 ≤ 2)) && ((decide (0 ≤ a1) && decide (a1 ≤ 4)) && ((decide (0 ≤ a2) && decide (a2 ≤ 8)) && (decide (1 ≤ a3) && decide (a3 ≤ 6))))
theorem implPref_f (a0 a1 a2 a3 : Int) : impl_ValidPrefetcher.f a0 a1 a2 a3 = some (okPref a0 a1 a2 a3) := by
 unfold impl_ValidPrefetcher.f impl_isWays.f okPref
 simp only [in_impl, Option.bind_some]
 cases (decide (0 ≤ a0) && decide (a0 ≤ 2)) <;> cases (decide (0 ≤ a1) && decide (a1 ≤ 4)) <;> cases (decide (0 ≤ a2) && decide (a2 ≤ 8)) <;> cases (decide (1 ≤ a3) && decide (a3 ≤ 6)) <;> rfl
theorem stepV_mem {hit : List (List Int)} {miss c : List Int} {x : Int} (hok : okStep hit miss c x = true) : ∀ y ∈ (stepV hit miss c x).1, y = x ∨ y ∈ c := by
 intro y hy
 simp only [okStep, Bool.and_eq_true, decide_eq_true_eq, List.all_eq_true] at hok
 obtain ⟨⟨h1, h2⟩, h3, h4, h5⟩ := hok
 simp only [stepV, List.mem_map] at hy
 obtain ⟨j, hj, rfl⟩ := hy
 obtain ⟨j0, j1⟩ := h5 j hj
 have hm : rd (stepOld c x) j ∈ stepOld c x := by
  show (stepOld c x).getD j.toNat 0 ∈ stepOld c x
  rw [getD_lt _ _ _ (by rw [stepOld_length]; omega)]
  exact List.getElem_mem _
 unfold stepOld at hm ⊢
 split at hm
 ·rename_i hh
  rw [if_pos hh]
  exact .inr hm
 ·rename_i hh
  rw [if_neg hh]
  exact (List.mem_or_eq_of_mem_set hm).symm
/-- What a run of loads keeps: what is cached, the marked lines (rising), and how many marks were useless. -/
structure CoreF where
 cont : List Int
 ms : List Int
 us : Int
def hasF (l : List Int) (x : Int) : Bool := l.any fun y => decide (y = x)
def dropM (l : List Int) (x : Int) : List Int := l.filter fun y => decide (y ≠ x)
def unmarkF (line : Int) (useless : Bool) (ms : List Int) (us : Int) : List Int × Int := if hasF ms line = true then (dropM ms line, if useless = true then us + 1 else us) else (ms, us)
def lastF (c : List Int) : Int := c.getD (c.length - 1) 0
def putF (hit : List (List Int)) (miss : List Int) (line : Int) (c : CoreF) : CoreF :=
 if hasF c.cont line = true then { c with cont := (stepV hit miss c.cont line).1 } else ⟨(stepV hit miss c.cont line).1, (unmarkF (lastF c.cont) true c.ms c.us).1, (unmarkF (lastF c.cont) true c.ms c.us).2⟩
/-- A number among rising ones, once. -/
def putR (x : Int) : List Int → List Int
 | [] => [x]
 | y :: t => if y < x then y :: putR x t else if y = x then y :: t else x :: y :: t
def markF (hit : List (List Int)) (miss : List Int) (line : Int) (c : CoreF) : CoreF := { putF hit miss line c with ms := putR line (putF hit miss line c).ms }
def arrF (hit : List (List Int)) (miss : List Int) (now : Int) : List (Int × Int) → CoreF → CoreF
 | [], c => c
 | x :: t, c => if now < x.2 then arrF hit miss now t c else arrF hit miss now t (markF hit miss x.1 c)
def leftF (now : Int) (pd : List (Int × Int)) : List (Int × Int) := pd.filter fun x => decide (now < x.2)
def linesF (pd : List (Int × Int)) : List Int := pd.map fun x => x.1
def placeF (pd : List (Int × Int)) (line : Int) : Int := xIdx (fun y => decide (y = line)) (linesF pd) 0
/-- Which of the four a load is, and what is pending behind it. -/
def kindF (c : CoreF) (pd : List (Int × Int)) (line : Int) : Int := if hasF c.cont line = true then (if hasF c.ms line = true then 2 else 1) else if 0 ≤ placeF pd line then 3 else 0
def pendF (c : CoreF) (pd : List (Int × Int)) (line : Int) : List (Int × Int) := if hasF c.cont line = true then pd else if 0 ≤ placeF pd line then pd.eraseIdx (placeF pd line).toNat else pd
def newF (cont : List Int) (pd : List (Int × Int)) (g : Int) : Bool := !hasF cont g && !hasF (linesF pd) g
def issueF (due : Int) (cont : List Int) : List Int → List (Int × Int) → Int → List (Int × Int) × Int
 | [], pd, n => (pd, n)
 | g :: t, pd, n => if newF cont pd g = true then issueF due cont t (pd ++ [(g, due)]) (n + 1) else issueF due cont t pd n
structure FetchV where
 c : CoreF
 pd : List (Int × Int)
 is : Int
 n0 : Int
 n1 : Int
 n2 : Int
 n3 : Int
 out : List Int
/-- Behind what has arrived: the load itself, and its guesses. -/
def useF (hit : List (List Int)) (miss : List Int) (line : Int) (c : CoreF) : CoreF := { putF hit miss line c with ms := dropM (putF hit miss line c).ms line }
def countF (k : Int) (s : FetchV) : FetchV := { s with n0 := if k = 0 then s.n0 + 1 else s.n0, n1 := if k = 1 then s.n1 + 1 else s.n1, n2 := if k = 2 then s.n2 + 1 else s.n2, n3 := if k = 3 then s.n3 + 1 else s.n3, out := s.out ++ [k] }
def arriveF (hit : List (List Int)) (miss : List Int) (k : Nat) (s : FetchV) : FetchV := { s with c := arrF hit miss k s.pd s.c, pd := leftF k s.pd }
def takeF (hit : List (List Int)) (miss : List Int) (line : Int) (s : FetchV) : FetchV := { countF (kindF s.c s.pd line) s with c := useF hit miss line s.c, pd := pendF s.c s.pd line }
def guessF (due : Int) (gs : List Int) (s : FetchV) : FetchV := { s with pd := (issueF due s.c.cont gs s.pd s.is).1, is := (issueF due s.c.cont gs s.pd s.is).2 }
def oneF (hit : List (List Int)) (miss : List Int) (delay : Int) (k : Nat) (x : Int × List Int) (s : FetchV) : FetchV := guessF ((k : Int) + 1 + delay) x.2 (takeF hit miss x.1 (arriveF hit miss k s))
def runF (hit : List (List Int)) (miss : List Int) (delay : Int) : Nat → List (Int × List Int) → FetchV → FetchV
 | _, [], s => s
 | k, x :: t, s => runF hit miss delay (k + 1) t (oneF hit miss delay k x s)
def startF (m : Nat) : FetchV := ⟨⟨List.replicate m (-1), [], 0⟩, [], 0, 0, 0, 0, 0, []⟩
theorem hasF_mem (l : List Int) (x : Int) : hasF l x = true ↔ x ∈ l := by
 unfold hasF
 rw [List.any_eq_true]
 constructor
 ·rintro ⟨y, hy, h⟩
  rw [decide_eq_true_eq] at h
  exact h ▸ hy
 ·intro h
  exact ⟨x, h, by simp⟩
theorem hasF_not (l : List Int) (x : Int) : hasF l x = false ↔ x ∉ l := by
 rw [← hasF_mem]
 cases hasF l x <;> simp
theorem dropM_mem (l : List Int) (x y : Int) : y ∈ dropM l x ↔ y ∈ l ∧ y ≠ x := by
 unfold dropM
 rw [List.mem_filter, decide_eq_true_eq]
theorem dropM_not {l : List Int} {x : Int} (h : x ∉ l) : dropM l x = l := by
 unfold dropM
 rw [List.filter_eq_self]
 intro y hy
 rw [decide_eq_true_eq]
 exact fun e => h (e ▸ hy)
theorem dropM_rising {l : List Int} {x : Int} (h : l.Pairwise (· < ·)) : (dropM l x).Pairwise (· < ·) := h.filter _
theorem dropM_len {l : List Int} {x : Int} (h : l.Pairwise (· < ·)) (hx : x ∈ l) : (dropM l x).length + 1 = l.length := by
 induction l with
 | nil => cases hx
 | cons y t ih =>
  rw [List.pairwise_cons] at h
  by_cases e : y = x
  ·subst e
   have : dropM (y :: t) y = t := by
    unfold dropM
    rw [List.filter_cons_of_neg (by simp)]
    exact dropM_not (fun k => by have := h.1 y k; omega)
   rw [this, List.length_cons]
  ·have : dropM (y :: t) x = y :: dropM t x := by
    unfold dropM
    rw [List.filter_cons_of_pos (by simpa using e)]
   rw [this, List.length_cons, ih h.2 ((List.mem_cons.1 hx).resolve_left (fun k => e k.symm)), List.length_cons]
theorem putR_mem (x y : Int) : ∀ l : List Int, y ∈ putR x l ↔ y = x ∨ y ∈ l
 | [] => by simp [putR]
 | z :: t => by
  unfold putR
  split
  ·rw [List.mem_cons, putR_mem x y t, List.mem_cons]
   constructor
   ·rintro (h | h | h)
    ·exact .inr (.inl h)
    ·exact .inl h
    ·exact .inr (.inr h)
   ·rintro (h | h | h)
    ·exact .inr (.inl h)
    ·exact .inl h
    ·exact .inr (.inr h)
  ·split
   ·rename_i h1 h2
    subst h2
    rw [List.mem_cons]
    exact ⟨fun h => .inr h, fun h => h.elim .inl id⟩
   ·rw [List.mem_cons]
theorem putR_rising (x : Int) : ∀ l : List Int, l.Pairwise (· < ·) → (putR x l).Pairwise (· < ·)
 | [], _ => by simp [putR]
 | z :: t, h => by
  have h2 := List.pairwise_cons.1 h
  unfold putR
  split
  ·rename_i h1
   refine List.pairwise_cons.2 ⟨fun y hy => ?_, putR_rising x t h2.2⟩
   rcases (putR_mem x y t).1 hy with e | e
   ·rw [e]; exact h1
   ·exact h2.1 y e
  ·split
   ·exact h
   ·refine List.pairwise_cons.2 ⟨fun y hy => ?_, h⟩
    rcases List.mem_cons.1 hy with e | e
    ·omega
    ·have := h2.1 y e; omega
theorem putR_len (x : Int) : ∀ l : List Int, l.Pairwise (· < ·) → (putR x l).length = (dropM l x).length + 1
 | [], _ => rfl
 | z :: t, h => by
  have h2 := List.pairwise_cons.1 h
  unfold putR
  split
  ·rename_i h1
   have : dropM (z :: t) x = z :: dropM t x := by
    unfold dropM
    rw [List.filter_cons_of_pos (by simp; omega)]
   rw [this, List.length_cons, List.length_cons, putR_len x t h2.2]
  ·split
   ·rename_i h1 h3
    subst h3
    have := dropM_len h at0
    omega
   ·rw [dropM_not (fun k => (List.mem_cons.1 k).elim (fun e => by omega) (fun e => by have := h2.1 x e; omega))]
    rfl
/-- What is true of a run all along: m entries, lines; marks rising. -/
structure CoreF.Ok (m : Nat) (c : CoreF) : Prop where
 cont : c.cont.length = m
 lines : ∀ x ∈ c.cont, -1 ≤ x ∧ x ≤ 63
 rising : c.ms.Pairwise (· < ·)
 marks : ∀ x ∈ c.ms, 0 ≤ x ∧ x ≤ 63
theorem unmark_ok {l : List Int} (h : l.Pairwise (· < ·)) (hm : ∀ x ∈ l, 0 ≤ x ∧ x ≤ 63) (x : Int) (b : Bool) (us : Int) : (unmarkF x b l us).1.Pairwise (· < ·) ∧ ∀ y ∈ (unmarkF x b l us).1, 0 ≤ y ∧ y ≤ 63 := by
 unfold unmarkF
 split
 ·exact ⟨dropM_rising h, fun y hy => hm y ((dropM_mem _ _ _).1 hy).1⟩
 ·exact ⟨h, hm⟩
section
variable {m : Nat} {hit : List (List Int)} {miss : List Int} (hok : ∀ (c : List Int) (x : Int), c.length = m → okStep hit miss c x = true) (hlen : ∀ (c : List Int) (x : Int), c.length = m → (stepV hit miss c x).1.length = m)
include hok hlen
theorem put_ok {c : CoreF} (h : c.Ok m) {line : Int} (hl : 0 ≤ line ∧ line ≤ 63) : (putF hit miss line c).Ok m := by
 have hmem : ∀ y ∈ (stepV hit miss c.cont line).1, -1 ≤ y ∧ y ≤ 63 := fun y hy => by
  rcases stepV_mem (hok _ _ h.cont) y hy with e | e
  ·omega
  ·exact h.lines y e
 unfold putF
 split
 ·exact ⟨hlen _ _ h.cont, hmem, h.rising, h.marks⟩
 ·exact ⟨hlen _ _ h.cont, hmem, (unmark_ok h.rising h.marks _ _ _).1, (unmark_ok h.rising h.marks _ _ _).2⟩
theorem use_ok {c : CoreF} (h : c.Ok m) {line : Int} (hl : 0 ≤ line ∧ line ≤ 63) : (useF hit miss line c).Ok m := by
 have h1 := put_ok hok hlen h hl
 exact ⟨h1.cont, h1.lines, dropM_rising h1.rising, fun y hy => h1.marks y ((dropM_mem _ _ _).1 hy).1⟩
theorem mark_ok {c : CoreF} (h : c.Ok m) {line : Int} (hl : 0 ≤ line ∧ line ≤ 63) : (markF hit miss line c).Ok m := by
 have h1 := put_ok hok hlen h hl
 refine ⟨h1.cont, h1.lines, putR_rising _ _ h1.rising, fun y hy => ?_⟩
 rcases (putR_mem _ _ _).1 hy with e | e
 ·rw [e]; exact hl
 ·exact h1.marks y e
end
theorem unmark_sum {l : List Int} (h : l.Pairwise (· < ·)) (x us : Int) : (unmarkF x true l us).2 + (unmarkF x true l us).1.length = us + l.length ∧ us ≤ (unmarkF x true l us).2 := by
 unfold unmarkF
 split
 ·rename_i hh
  have := dropM_len h ((hasF_mem _ _).1 hh)
  refine ⟨?_, ?_⟩
  ·show (us + 1) + ((dropM l x).length : Int) = us + l.length
   omega
  ·show us ≤ us + 1
   omega
 ·exact ⟨rfl, Int.le_refl _⟩
theorem put_sum (hit : List (List Int)) (miss : List Int) (line : Int) {c : CoreF} (h : c.ms.Pairwise (· < ·)) : (putF hit miss line c).us + (putF hit miss line c).ms.length = c.us + c.ms.length ∧ c.us ≤ (putF hit miss line c).us := by
 unfold putF
 split
 ·exact ⟨rfl, Int.le_refl _⟩
 ·exact unmark_sum h _ _
theorem dropM_le (l : List Int) (x : Int) : (dropM l x).length ≤ l.length := List.length_filter_le _ _
theorem put_rising {hit : List (List Int)} {miss : List Int} {line : Int} {c : CoreF} (h : c.ms.Pairwise (· < ·)) : (putF hit miss line c).ms.Pairwise (· < ·) := by
 unfold putF
 split
 ·exact h
 ·show (unmarkF (lastF c.cont) true c.ms c.us).1.Pairwise (· < ·)
  unfold unmarkF
  split
  ·exact dropM_rising h
  ·exact h
theorem mark_sum (hit : List (List Int)) (miss : List Int) (line : Int) {c : CoreF} (h : c.ms.Pairwise (· < ·)) : (markF hit miss line c).us + (markF hit miss line c).ms.length ≤ c.us + c.ms.length + 1 ∧ c.us ≤ (markF hit miss line c).us := by
 have h1 := put_sum hit miss line h
 refine ⟨?_, h1.2⟩
 show (putF hit miss line c).us + ((putR line (putF hit miss line c).ms).length : Int) ≤ _
 rw [putR_len _ _ (put_rising h)]
 have := dropM_le (putF hit miss line c).ms line
 have := h1.1
 omega
theorem use_sum (hit : List (List Int)) (miss : List Int) (line : Int) {c : CoreF} (h : c.ms.Pairwise (· < ·)) : (useF hit miss line c).us + (useF hit miss line c).ms.length ≤ c.us + c.ms.length ∧ c.us ≤ (useF hit miss line c).us := by
 have h1 := put_sum hit miss line h
 refine ⟨?_, h1.2⟩
 show (putF hit miss line c).us + ((dropM (putF hit miss line c).ms line).length : Int) ≤ _
 have := dropM_le (putF hit miss line c).ms line
 have := h1.1
 omega
section
variable {m : Nat} {hit : List (List Int)} {miss : List Int} (hok : ∀ (c : List Int) (x : Int), c.length = m → okStep hit miss c x = true) (hlen : ∀ (c : List Int) (x : Int), c.length = m → (stepV hit miss c x).1.length = m)
include hok hlen
theorem arr_ok (now : Int) : ∀ (pd : List (Int × Int)) (c : CoreF), c.Ok m → (∀ x ∈ pd, 0 ≤ x.1 ∧ x.1 ≤ 63) → (arrF hit miss now pd c).Ok m ∧ (arrF hit miss now pd c).us + (arrF hit miss now pd c).ms.length + (leftF now pd).length ≤ c.us + c.ms.length + pd.length ∧ c.us ≤ (arrF hit miss now pd c).us
 | [], c, h, _ => ⟨h, Int.le_refl _, Int.le_refl _⟩
 | x :: t, c, h, hp => by
  unfold arrF leftF
  by_cases hx : now < x.2
  ·rw [if_pos hx, List.filter_cons_of_pos (by simpa using hx)]
   obtain ⟨h1, h2, h3⟩ := arr_ok now t c h (fun y hy => hp y (List.mem_cons_of_mem _ hy))
   refine ⟨h1, ?_, h3⟩
   simp only [List.length_cons]
   have : leftF now t = t.filter (fun x => decide (now < x.2)) := rfl
   rw [← this]
   omega
  ·rw [if_neg hx, List.filter_cons_of_neg (by simpa using hx)]
   obtain ⟨h1, h2, h3⟩ := arr_ok now t (markF hit miss x.1 c) (mark_ok hok hlen h (hp x at0)) (fun y hy => hp y (List.mem_cons_of_mem _ hy))
   have h4 := mark_sum hit miss x.1 h.rising
   refine ⟨h1, ?_, Int.le_trans h4.2 h3⟩
   simp only [List.length_cons]
   have : leftF now t = t.filter (fun x => decide (now < x.2)) := rfl
   rw [← this]
   have := h4.1
   omega
end
theorem pend_sub (c : CoreF) (pd : List (Int × Int)) (line : Int) : (pendF c pd line).Sublist pd := by
 unfold pendF
 split
 ·exact List.Sublist.refl _
 ·split
  ·exact List.eraseIdx_sublist ..
  ·exact List.Sublist.refl _
theorem issue_le (due : Int) (cont : List Int) : ∀ (gs : List Int) (pd : List (Int × Int)) (n : Int), (∀ g ∈ gs, 0 ≤ g ∧ g ≤ 63) → (∀ x ∈ pd, 0 ≤ x.1 ∧ x.1 ≤ 63) →
  n ≤ (issueF due cont gs pd n).2 ∧ (issueF due cont gs pd n).2 ≤ n + gs.length ∧ ((issueF due cont gs pd n).1.length : Int) - pd.length = (issueF due cont gs pd n).2 - n ∧ ∀ x ∈ (issueF due cont gs pd n).1, 0 ≤ x.1 ∧ x.1 ≤ 63
 | [], pd, n, _, hp => ⟨Int.le_refl _, by simp [issueF], by simp [issueF], hp⟩
 | g :: t, pd, n, hg, hp => by
  unfold issueF
  simp only [List.length_cons]
  split
  ·obtain ⟨h1, h2, h3, h4⟩ := issue_le due cont t (pd ++ [(g, due)]) (n + 1) (fun y hy => hg y (List.mem_cons_of_mem _ hy)) (fun y hy => by
    rcases List.mem_append.1 hy with e | e
    ·exact hp y e
    ·rw [List.mem_singleton.1 e]; exact hg g at0)
   simp only [List.length_append, List.length_cons, List.length_nil] at h3
   exact ⟨by omega, by omega, by omega, h4⟩
  ·obtain ⟨h1, h2, h3, h4⟩ := issue_le due cont t pd n (fun y hy => hg y (List.mem_cons_of_mem _ hy)) hp
   exact ⟨h1, by omega, h3, h4⟩
structure FetchV.Bnd (k : Nat) (s : FetchV) : Prop where
 lines : ∀ x ∈ s.pd, 0 ≤ x.1 ∧ x.1 ≤ 63
 is : 0 ≤ s.is ∧ s.is ≤ 4 * k
 us : 0 ≤ s.c.us
 all : s.c.us + s.c.ms.length + s.pd.length ≤ s.is
 n0 : 0 ≤ s.n0 ∧ s.n0 ≤ k
 n1 : 0 ≤ s.n1 ∧ s.n1 ≤ k
 n2 : 0 ≤ s.n2 ∧ s.n2 ≤ k
 n3 : 0 ≤ s.n3 ∧ s.n3 ≤ k
 out : s.out.length = k
theorem start_okF (m : Nat) : (startF m).c.Ok m ∧ (startF m).Bnd 0 :=
 ⟨⟨by simp [startF], fun x hx => (by have : x = -1 := List.eq_of_mem_replicate hx; omega), List.Pairwise.nil, fun x hx => (by cases hx)⟩, ⟨fun x hx => (by cases hx), by simp [startF], by simp [startF], by simp [startF], by simp [startF], by simp [startF], by simp [startF], by simp [startF], rfl⟩⟩
theorem kindF_range (c : CoreF) (pd : List (Int × Int)) (line : Int) : kindF c pd line = 0 ∨ kindF c pd line = 1 ∨ kindF c pd line = 2 ∨ kindF c pd line = 3 := by
 unfold kindF
 split
 ·split <;> simp
 ·split <;> simp
section
variable {m : Nat} {hit : List (List Int)} {miss : List Int} (hok : ∀ (c : List Int) (x : Int), c.length = m → okStep hit miss c x = true) (hlen : ∀ (c : List Int) (x : Int), c.length = m → (stepV hit miss c x).1.length = m)
include hok hlen
theorem arrive_okF {s : FetchV} {k : Nat} (h : s.c.Ok m) (hb : s.Bnd k) (j : Nat) : (arriveF hit miss j s).c.Ok m ∧ (arriveF hit miss j s).Bnd k := by
 obtain ⟨h1, h2, h3⟩ := arr_ok hok hlen (j : Int) s.pd s.c h hb.lines
 refine ⟨h1, ⟨fun x hx => hb.lines x (List.mem_filter.1 hx).1, hb.is, Int.le_trans hb.us h3, ?_, hb.n0, hb.n1, hb.n2, hb.n3, hb.out⟩⟩
 exact Int.le_trans h2 hb.all
theorem take_okF {s : FetchV} {k : Nat} (h : s.c.Ok m) (hb : s.Bnd k) {line : Int} (hl : 0 ≤ line ∧ line ≤ 63) : (takeF hit miss line s).c.Ok m ∧ (takeF hit miss line s).Bnd (k + 1) := by
 have h1 := use_sum hit miss line h.rising
 have h2 := pend_sub s.c s.pd line
 have h3 := h2.length_le
 have a0 := hb.n0; have a1 := hb.n1; have a2 := hb.n2; have a3 := hb.n3; have a4 := hb.is; have a5 := hb.all; have a6 := hb.us
 refine ⟨use_ok hok hlen h hl, ⟨fun x hx => hb.lines x (h2.subset hx), ?_, Int.le_trans hb.us h1.2, ?_, ?_, ?_, ?_, ?_, ?_⟩⟩
 ·show 0 ≤ s.is ∧ s.is ≤ 4 * ((k + 1 : Nat) : Int)
  omega
 ·show (useF hit miss line s.c).us + (useF hit miss line s.c).ms.length + ((pendF s.c s.pd line).length : Int) ≤ s.is
  have := h1.1
  omega
 ·show 0 ≤ (if kindF s.c s.pd line = 0 then s.n0 + 1 else s.n0) ∧ (if kindF s.c s.pd line = 0 then s.n0 + 1 else s.n0) ≤ ((k + 1 : Nat) : Int)
  split <;> omega
 ·show 0 ≤ (if kindF s.c s.pd line = 1 then s.n1 + 1 else s.n1) ∧ (if kindF s.c s.pd line = 1 then s.n1 + 1 else s.n1) ≤ ((k + 1 : Nat) : Int)
  split <;> omega
 ·show 0 ≤ (if kindF s.c s.pd line = 2 then s.n2 + 1 else s.n2) ∧ (if kindF s.c s.pd line = 2 then s.n2 + 1 else s.n2) ≤ ((k + 1 : Nat) : Int)
  split <;> omega
 ·show 0 ≤ (if kindF s.c s.pd line = 3 then s.n3 + 1 else s.n3) ∧ (if kindF s.c s.pd line = 3 then s.n3 + 1 else s.n3) ≤ ((k + 1 : Nat) : Int)
  split <;> omega
 ·show (s.out ++ [_]).length = k + 1
  rw [List.length_append, hb.out]; rfl
end
theorem guess_okF {s : FetchV} {k m : Nat} (h : s.c.Ok m) (hb : s.Bnd (k + 1)) (h4 : s.is ≤ 4 * k) (due : Int) {gs : List Int} (hg : ∀ g ∈ gs, 0 ≤ g ∧ g ≤ 63) (hl : gs.length ≤ 4) : (guessF due gs s).c.Ok m ∧ (guessF due gs s).Bnd (k + 1) := by
 obtain ⟨h1, h2, h3, h5⟩ := issue_le due s.c.cont gs s.pd s.is hg hb.lines
 refine ⟨h, ⟨h5, ?_, hb.us, ?_, hb.n0, hb.n1, hb.n2, hb.n3, hb.out⟩⟩
 ·show 0 ≤ (issueF due s.c.cont gs s.pd s.is).2 ∧ (issueF due s.c.cont gs s.pd s.is).2 ≤ 4 * ((k + 1 : Nat) : Int)
  have := hb.is
  omega
 ·show s.c.us + s.c.ms.length + ((issueF due s.c.cont gs s.pd s.is).1.length : Int) ≤ (issueF due s.c.cont gs s.pd s.is).2
  have := hb.all
  omega
section
variable {m : Nat} {hit : List (List Int)} {miss : List Int} (hok : ∀ (c : List Int) (x : Int), c.length = m → okStep hit miss c x = true) (hlen : ∀ (c : List Int) (x : Int), c.length = m → (stepV hit miss c x).1.length = m)
include hok hlen
theorem one_okF {s : FetchV} {k : Nat} (h : s.c.Ok m) (hb : s.Bnd k) (delay : Int) (j : Nat) {x : Int × List Int} (hl : 0 ≤ x.1 ∧ x.1 ≤ 63) (hg : ∀ g ∈ x.2, 0 ≤ g ∧ g ≤ 63) (hgl : x.2.length ≤ 4) : (oneF hit miss delay j x s).c.Ok m ∧ (oneF hit miss delay j x s).Bnd (k + 1) := by
 obtain ⟨h1, h2⟩ := arrive_okF hok hlen h hb j
 obtain ⟨h3, h4⟩ := take_okF hok hlen h1 h2 hl
 exact guess_okF h3 h4 h2.is.2 _ hg hgl
theorem run_okF (delay : Int) : ∀ (t : List (Int × List Int)) (j : Nat) (s : FetchV), (∀ x ∈ t, (0 ≤ x.1 ∧ x.1 ≤ 63) ∧ (∀ g ∈ x.2, 0 ≤ g ∧ g ≤ 63) ∧ x.2.length ≤ 4) → s.c.Ok m → s.Bnd j → (runF hit miss delay j t s).c.Ok m ∧ (runF hit miss delay j t s).Bnd (j + t.length)
 | [], _, _, _, h, hb => ⟨h, hb⟩
 | x :: t, j, s, ht, h, hb => by
  obtain ⟨e1, e2, e3⟩ := ht x at0
  obtain ⟨h1, h2⟩ := one_okF hok hlen h hb delay j e1 e2 e3
  have := run_okF delay t (j + 1) _ (fun y hy => ht y (List.mem_cons_of_mem _ hy)) h1 h2
  rw [List.length_cons, show j + (t.length + 1) = j + 1 + t.length by omega]
  exact this
end
/-- The policy that replaces what has not been used for longest, as both programs tell it. -/
def lruHit (n : Nat) : List (List Int) := (List.range n).map (movedV n)
def lruMiss (n : Nat) : List Int := movedV n (n - 1)
theorem follUp_range (t : List Int) (x : Int) (h : ∀ y ∈ t, 0 ≤ y ∧ y ≤ 63) : ∀ n, -1 ≤ follUp t x n ∧ follUp t x n ≤ 63
 | 0 => by simp [follUp]
 | n + 1 => by
  unfold follUp
  split
  ·have := rd_bound t ((n + 1 : Nat) : Int) h
   omega
  ·exact follUp_range t x h n
theorem pairGo_range (t : List Int) (line : Int) (h : ∀ y ∈ t, 0 ≤ y ∧ y ≤ 63) : ∀ (n : Nat) (out : List Int) (now : Int), (∀ g ∈ out, 0 ≤ g ∧ g ≤ 63) → ∀ g ∈ pairGo t line n out now, 0 ≤ g ∧ g ≤ 63
 | 0, out, now, ho => ho
 | n + 1, out, now, ho => by
  unfold pairGo
  have hf := follUp_range t now h (t.length - 1)
  have hf' : -1 ≤ follV t now ∧ follV t now ≤ 63 := hf
  split
  ·exact ho
  ·split
   ·exact ho
   ·split
    ·exact ho
    ·refine pairGo_range t line h n _ _ (fun g hg => ?_)
     rcases List.mem_append.1 hg with e | e
     ·exact ho g e
     ·rw [List.mem_singleton.1 e]
      omega
theorem stepGo_range (line by_ : Int) : ∀ (n : Nat) (out : List Int) (k : Int), (∀ g ∈ out, 0 ≤ g ∧ g ≤ 63) → ∀ g ∈ stepGo line by_ n out k, 0 ≤ g ∧ g ≤ 63
 | 0, out, k, ho => ho
 | n + 1, out, k, ho => by
  unfold stepGo
  split
  ·rename_i hh
   refine stepGo_range line by_ n _ _ (fun g hg => ?_)
   rcases List.mem_append.1 hg with e | e
   ·exact ho g e
   ·rw [List.mem_singleton.1 e]; exact hh
  ·exact ho
theorem guessAt_range (f0 f1 : Int) (l : List (S27)) (hv : (l.any xpLoad) = false) (i : Nat) : ∀ g ∈ guessAt f0 f1 l i, 0 ≤ g ∧ g ≤ 63 := by
 unfold guessAt
 split
 ·exact pairGo_range _ _ (linesL_ok _ _ (fun x hx => (okLoads_at l hv x (List.mem_of_mem_take hx)).2)) _ _ _ (fun g hg => by cases hg)
 ·have key : ∀ b : Int, ∀ g ∈ (if b = 0 then [] else stepGo (l.getD i z27).f1 b f1.toNat [] 1), 0 ≤ g ∧ g ≤ 63 := by
   intro b
   by_cases hb : b = 0
   ·rw [if_pos hb]
    exact fun g hg => absurd hg List.not_mem_nil
   ·rw [if_neg hb]
    exact stepGo_range _ _ _ _ _ (fun g hg => absurd hg List.not_mem_nil)
  exact key _
/-- The loads as the plain run takes them: each line, and the guesses behind it. -/
def itemF (a0 a1 : Int) (l : List (S27)) (i : Nat) : Int × List Int := ((l.getD i z27).f1, guessAt a0 a1 l i)
def itemsF (a0 a1 : Int) (l : List (S27)) : List (Int × List Int) := (List.range l.length).map (itemF a0 a1 l)
theorem itemsF_drop (a0 a1 : Int) (l : List (S27)) {i : Nat} (h : i < l.length) : (itemsF a0 a1 l).drop i = itemF a0 a1 l i :: (itemsF a0 a1 l).drop (i + 1) := by
 have hl : i < (itemsF a0 a1 l).length := by unfold itemsF; rw [List.length_map, List.length_range]; exact h
 rw [drop_cons _ i (0, []) hl]
 congr 1
 show ((List.range l.length).map (itemF a0 a1 l)).getD i (0, []) = _
 rw [List.getD_eq_getElem?_getD, List.getElem?_map, List.getElem?_range h]
 rfl
theorem itemsF_len (a0 a1 : Int) (l : List (S27)) : (itemsF a0 a1 l).length = l.length := by unfold itemsF; rw [List.length_map, List.length_range]
theorem itemF_ok (a0 : Int) {a1 : Int} {l : List (S27)} (hv : (l.any xpLoad) = false) (h1 : a1 ≤ 4) {i : Nat} (hi : i < l.length) : (0 ≤ (itemF a0 a1 l i).1 ∧ (itemF a0 a1 l i).1 ≤ 63) ∧ (∀ g ∈ (itemF a0 a1 l i).2, 0 ≤ g ∧ g ≤ 63) ∧ (itemF a0 a1 l i).2.length ≤ 4 :=
 ⟨(okLoads_at l hv _ (getD_mem l i z27 hi)).2, guessAt_range a0 a1 l hv i, guessAt_length a0 a1 l i h1⟩
theorem itemsF_ok (a0 : Int) {a1 : Int} {l : List (S27)} (hv : (l.any xpLoad) = false) (h1 : a1 ≤ 4) : ∀ x ∈ itemsF a0 a1 l, (0 ≤ x.1 ∧ x.1 ≤ 63) ∧ (∀ g ∈ x.2, 0 ≤ g ∧ g ≤ 63) ∧ x.2.length ≤ 4 := by
 intro x hx
 obtain ⟨i, hi, rfl⟩ := List.mem_map.1 hx
 exact itemF_ok a0 hv h1 (List.mem_range.1 hi)
theorem runF_drop (hit : List (List Int)) (miss : List Int) (delay a0 a1 : Int) (l : List (S27)) {i : Nat} (h : i < l.length) (s : FetchV) : runF hit miss delay i ((itemsF a0 a1 l).drop i) s = runF hit miss delay (i + 1) ((itemsF a0 a1 l).drop (i + 1)) (oneF hit miss delay i (itemF a0 a1 l i) s) := by
 rw [itemsF_drop a0 a1 l h]; rfl
theorem issueF_app (due : Int) (cont : List Int) : ∀ (l r : List Int) (pd : List (Int × Int)) (n : Int), issueF due cont (l ++ r) pd n = issueF due cont r (issueF due cont l pd n).1 (issueF due cont l pd n).2
 | [], _, _, _ => rfl
 | g :: t, r, pd, n => by
  rw [List.cons_append, issueF, issueF]
  split
  ·exact issueF_app due cont t r _ _
  ·exact issueF_app due cont t r _ _
theorem pref_facts {a0 a1 a2 a3 : Int} (h : okPref a0 a1 a2 a3 = true) : (0 ≤ a1 ∧ a1 ≤ 4) ∧ (0 ≤ a2 ∧ a2 ≤ 8) ∧ (1 ≤ a3 ∧ a3 ≤ 6) := by
 simp only [okPref, Bool.and_eq_true, decide_eq_true_eq] at h
 omega
/-- The run, whole; the tally it tells. -/
def endF (a0 a1 a2 a3 : Int) (l : List (S27)) : FetchV := runF (lruHit a3.toNat) (lruMiss a3.toNat) a2 0 (itemsF a0 a1 l) (startF a3.toNat)
def uselessF (s : FetchV) : Int := s.c.us + ((s.c.ms.length : Int) + (s.pd.length : Int))
def okFetch (a0 a1 a2 a3 : Int) (l : List (S27)) : Bool := okPref a0 a1 a2 a3 && (decide (l.length ≤ 60) && !(l.any xpLoad))
def fetchR (a0 a1 a2 a3 : Int) (l : List (S27)) : List Int × Int × Int × Int × Int × Int × Int := ((endF a0 a1 a2 a3 l).out, (endF a0 a1 a2 a3 l).n0, (endF a0 a1 a2 a3 l).n1, (endF a0 a1 a2 a3 l).n2, (endF a0 a1 a2 a3 l).n3, (endF a0 a1 a2 a3 l).is, uselessF (endF a0 a1 a2 a3 l))
theorem lru_validF {n : Nat} (h1 : 1 ≤ n) (hn : n ≤ 6) : (∀ (c : List Int) (x : Int), c.length = n → okStep (lruHit n) (lruMiss n) c x = true) ∧ (∀ (c : List Int) (x : Int), c.length = n → (stepV (lruHit n) (lruMiss n) c x).1.length = n) ∧ (lruHit n).length = n ∧ (lruMiss n).length = n := by
 have hm : ∀ i, i < n → (movedV n i).length = n ∧ ∀ x ∈ movedV n i, 0 ≤ x ∧ x < (n : Int) := by
  obtain h | h | h | h | h | h : n = 1 ∨ n = 2 ∨ n = 3 ∨ n = 4 ∨ n = 5 ∨ n = 6 := by omega
  all_goals subst h; decide +kernel
 have hhl : (lruHit n).length = n := by unfold lruHit; rw [List.length_map, List.length_range]
 have hord : ∀ (c : List Int) (x : Int), c.length = n → (stepOrd (lruHit n) (lruMiss n) c x).length = n ∧ ∀ y ∈ stepOrd (lruHit n) (lruMiss n) c x, 0 ≤ y ∧ y < (n : Int) := by
  intro c x hc
  unfold stepOrd
  by_cases h0 : 0 ≤ ageOf c x
  ·rw [if_pos h0]
   have h2 : (ageOf c x).toNat < n := by
    have := xIdx_ge (fun y => decide (y = x)) c 0
    have : ageOf c x = -1 ∨ 0 ≤ ageOf c x ∧ ageOf c x < 0 + c.length := this
    omega
   have e : (lruHit n).getD (ageOf c x).toNat [] = movedV n (ageOf c x).toNat := by
    unfold lruHit
    rw [List.getD_eq_getElem?_getD, List.getElem?_map, List.getElem?_range h2]; rfl
   rw [e]
   exact hm _ h2
  ·rw [if_neg h0]
   exact hm (n - 1) (by omega)
 refine ⟨fun c x hc => ?_, fun c x hc => ?_, hhl, (hm (n - 1) (by omega)).1⟩
 ·have ho := hord c x hc
  have ha := xIdx_ge (fun y => decide (y = x)) c 0
  have ha' : ageOf c x = -1 ∨ 0 ≤ ageOf c x ∧ ageOf c x < 0 + c.length := ha
  simp only [okStep, Bool.and_eq_true, decide_eq_true_eq, List.all_eq_true]
  have hol : (stepOld c x).length = n := (stepOld_length c x).trans hc
  refine ⟨⟨by omega, by omega⟩, by omega, by omega, fun j hj => ?_⟩
  have := ho.2 j hj
  omega
 ·show ((stepOrd (lruHit n) (lruMiss n) c x).map _).length = n
  rw [List.length_map]
  exact (hord c x hc).1
theorem arrF_app (hit : List (List Int)) (miss : List Int) (now : Int) : ∀ (l r : List (Int × Int)) (c : CoreF), arrF hit miss now (l ++ r) c = arrF hit miss now r (arrF hit miss now l c)
 | [], _, _ => rfl
 | x :: t, r, c => by
  rw [List.cons_append, arrF, arrF]
  split
  ·exact arrF_app hit miss now t r c
  ·exact arrF_app hit miss now t r _
theorem leftF_app (now : Int) (l r : List (Int × Int)) : leftF now (l ++ r) = leftF now l ++ leftF now r := List.filter_append ..
theorem leftF_one {now : Int} {x : Int × Int} (h : now < x.2) : leftF now [x] = [x] := by simp [leftF, h]
theorem leftF_not {now : Int} {x : Int × Int} (h : ¬ now < x.2) : leftF now [x] = [] := by simp [leftF, h]
theorem leftF_le (now : Int) (l : List (Int × Int)) : (leftF now l).length ≤ l.length := List.length_filter_le _ _
theorem linesF_len (pd : List (Int × Int)) : (linesF pd).length = pd.length := List.length_map ..
theorem getD_memF {α : Type} (l : List α) (i : Nat) (z : α) (h : i < l.length) : l.getD i z ∈ l := by rw [getD_lt l i z h]; exact List.getElem_mem h
theorem polT_made {w w' : World} {v0 v1 : Value} {h : List (List Int)} {m : List Int} (h0 : Kd.S (Kd.slice 2 (Kd.int .i64)) 30 w' w.heap.size (fun k_ => some k_ ≠ (v1 : Value).ownBlock) v0 h) (h1 : Kd.R (Kd.int .i64) 2 w' w.heap.size (fun _ => True) v1 m) : (polT h m (.agg #[v0, v1])).P w' w.heap.size w'.heap.size := by
 obtain ⟨A, c, rfl⟩ := Kd.S_slice h0
 obtain ⟨B, b, rfl⟩ := Kd.R_slice h1
 exact ⟨A, c, B, b, rfl, nest_new (Kd.S_mono h0 (fun _ _ => trivial)), flat_new h1⟩
theorem polT_C {W : World} {A B : Option Addr} {c b lo hi : Nat} {h : List (List Int)} {m : List Int} (hP : (polT h m (.agg #[.slice A h.length c, .slice B m.length b])).P W lo hi) : Kd.C (Kd.slice 2 (Kd.int .i64)) W A h.length h ∧ Kd.C (Kd.int .i64) W B m.length m := by
 obtain ⟨A', c', B', b', e, h1, h2⟩ := hP
 injection e with e
 have e1 : #[Value.slice A h.length c, .slice B m.length b].toList = #[Value.slice A' h.length c', .slice B' m.length b'].toList := congrArg Array.toList e
 simp only [List.cons.injEq, Value.slice.injEq, and_true, true_and] at e1
 obtain ⟨⟨rfl, rfl⟩, rfl, rfl⟩ := e1
 exact ⟨(Kd.S_reads' h1).2.2, (Kd.R_reads' h2).2.2⟩
theorem Rd.pol {w0 W : World} {L : List (Thing × Nat × Nat)} {A B : Option Addr} {c b lo hi : Nat} {h : List (List Int)} {m : List Int} (HD : Hold w0 W L) (hm : (polT h m (.agg #[.slice A h.length c, .slice B m.length b]), lo, hi) ∈ L) : Kd.C (Kd.slice 2 (Kd.int .i64)) W A h.length h ∧ Kd.C (Kd.int .i64) W B m.length m := polT_C (HD.get hm).1
theorem Rd.polR {w0 : World} {R : List (Thing × Nat × Nat)} {A B : Option Addr} {c b lo hi : Nat} {h : List (List Int)} {m : List Int} (hm : (polT h m (.agg #[.slice A h.length c, .slice B m.length b]), lo, hi) ∈ R) : Rd w0 R (Kd.slice 2 (Kd.int .i64)) A h ∧ Rd w0 R (Kd.int .i64) B m :=
 ⟨fun W L hW hs => (Rd.pol hW (hs _ hm)).1, fun W L hW hs => (Rd.pol hW (hs _ hm)).2⟩
theorem gsF_len {gs : List Int} (h : gs.length ≤ 4) : gs.length ≤ 4611686018427387904 := by omega
theorem due_w {kk : Nat} {a2 : Int} (h : (kk : Int) < 60) (h2 : 0 ≤ a2 ∧ a2 ≤ 8) : wrap64 ((kk : Int) + 1) = (kk : Int) + 1 ∧ wrap64 ((kk : Int) + 1 + a2) = (kk : Int) + 1 + a2 :=
 ⟨wrap_id (by omega) (by omega), wrap_id (by omega) (by omega)⟩
theorem okFetch_facts {a0 a1 a2 a3 : Int} {l : List S27} (h : okFetch a0 a1 a2 a3 l = true) : okPref a0 a1 a2 a3 = true ∧ l.length ≤ 60 ∧ (l.any xpLoad) = false := by
 simp only [okFetch, Bool.and_eq_true, decide_eq_true_eq, Bool.not_eq_true'] at h
 exact h
end Go.Proofs.Ytpooojgeonpmnaa.PFnDegrees
