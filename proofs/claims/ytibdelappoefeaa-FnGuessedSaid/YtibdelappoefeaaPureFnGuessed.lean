/- The law holds for every input: guesses are few, differ from one another and from the load's line, follow the stride where they should; pairs increase. -/
import Derived.Test.YtibdelappoefeaaPFnGuessedx
import Derived.Test.YtibdelappoefeaaX7
import Derived.Test.YtibdelappoefeaaX2
namespace Go.Proofs.Ytibdelappoefeaa.Pure
open Go.RowKit Go.Proofs.YtibdelappoefeaaW.PrintWords Go.Proofs.Ytibdelappoefeaa.PFnGuessed
set_option linter.unusedVariables false
set_option linter.unusedSimpArgs false

theorem in_impl (a b c : Int) : impl_inRange.f a b c = some (decide (b ≤ a) && decide (a ≤ c)) := by
  unfold impl_inRange.f
  by_cases h : b ≤ a <;> simp [h]
def okLoad (x : S81) : Bool := (decide (0 ≤ x.f0) && decide (x.f0 ≤ 3)) && (decide (0 ≤ x.f1) && decide (x.f1 ≤ 63))
theorem xpLoad_not (x : S81) : xpLoad x = !okLoad x := by
  unfold xpLoad okLoad
  cases decide (0 ≤ x.f0) <;> cases decide (x.f0 ≤ 3) <;> cases decide (0 ≤ x.f1) <;> cases decide (x.f1 ≤ 63) <;> rfl
def sumLen {α : Type} (l : List (List α)) : Nat := (l.map List.length).sum
theorem sumLen_cons {α : Type} (x : List α) (l : List (List α)) : sumLen (x :: l) = x.length + sumLen l := by simp [sumLen]
theorem sumLen_mem {α : Type} {l : List (List α)} {x : List α} (h : x ∈ l) : x.length ≤ sumLen l := by
  induction l with
  | nil => simp at h
  | cons y l ih =>
    rw [sumLen_cons]
    rcases List.mem_cons.1 h with rfl | h
    · omega
    · have := ih h; omega
theorem getD_mem {α : Type} (l : List α) (i : Nat) (z : α) (h : i < l.length) : l.getD i z ∈ l := by
  rw [getD_lt l i z h]; exact List.getElem_mem h
theorem sumLen_le {α : Type} (l : List (List α)) (m : Nat) (h : ∀ x ∈ l, x.length ≤ m) : sumLen l ≤ l.length * m := by
  induction l with
  | nil => simp [sumLen]
  | cons y l ih =>
    rw [sumLen_cons, List.length_cons, Nat.succ_mul]
    have h1 := h y List.mem_cons_self
    have h2 := ih (fun x hx => h x (List.mem_cons_of_mem _ hx))
    omega
/-- The lines of a stream. -/
def linesL (l : List (S81)) (s : Int) : List Int := (l.filter fun x => decide (x.f0 = s)).map fun x => x.f1
theorem linesL_length (l : List (S81)) (s : Int) : (linesL l s).length ≤ l.length := by
  unfold linesL; rw [List.length_map]; exact List.length_filter_le _ _
def strideV (t : List Int) : Int :=
  if (t.length : Int) < 3 then 0
  else if (wrap64 ((rd t (wrap64 ((t.length : Int) - 1))) - (rd t (wrap64 ((t.length : Int) - 2))))) = (wrap64 ((rd t (wrap64 ((t.length : Int) - 2))) - (rd t (wrap64 ((t.length : Int) - 3)))))
    then wrap64 ((rd t (wrap64 ((t.length : Int) - 1))) - (rd t (wrap64 ((t.length : Int) - 2)))) else 0
theorem strideV_eq (t : List Int) (ht : t.length ≤ 1048576) : (if (t.length : Int) < 3 then (some 0) else (if 0 ≤ (wrap64 ((t.length : Int) - 1)) then (if (wrap64 ((t.length : Int) - 1)) < (t.length : Int) then (if 0 ≤ (wrap64 ((t.length : Int) - 2)) then (if (wrap64 ((t.length : Int) - 2)) < (t.length : Int) then (if 0 ≤ (wrap64 ((t.length : Int) - 3)) then (if (wrap64 ((t.length : Int) - 3)) < (t.length : Int) then (if (wrap64 ((rd t (wrap64 ((t.length : Int) - 1))) - (rd t (wrap64 ((t.length : Int) - 2))))) = (wrap64 ((rd t (wrap64 ((t.length : Int) - 2))) - (rd t (wrap64 ((t.length : Int) - 3))))) then (some (wrap64 ((rd t (wrap64 ((t.length : Int) - 1))) - (rd t (wrap64 ((t.length : Int) - 2)))))) else (some 0)) else (none)) else (none)) else (none)) else (none)) else (none)) else (none))) = some (strideV t) := by
  unfold strideV
  by_cases h : (t.length : Int) < 3
  · rw [if_pos h, if_pos h]
  · rw [if_neg h, if_neg h]
    have e1 : wrap64 ((t.length : Int) - 1) = (t.length : Int) - 1 := wrap_id (by omega) (by omega)
    have e2 : wrap64 ((t.length : Int) - 2) = (t.length : Int) - 2 := wrap_id (by omega) (by omega)
    have e3 : wrap64 ((t.length : Int) - 3) = (t.length : Int) - 3 := wrap_id (by omega) (by omega)
    rw [if_pos (by rw [e1]; omega), if_pos (by rw [e1]; omega), if_pos (by rw [e2]; omega), if_pos (by rw [e2]; omega), if_pos (by rw [e3]; omega), if_pos (by rw [e3]; omega)]
    split <;> rfl
theorem linesL_cons (x : S81) (l : List (S81)) (s : Int) : linesL (x :: l) s = if x.f0 = s then x.f1 :: linesL l s else linesL l s := by
  unfold linesL
  rw [List.filter_cons]
  by_cases h : x.f0 = s <;> simp [h]
theorem implLines_ev (l : List (S81)) (s : Int) (h : l.length ≤ 1048576) : Ev (fun k => impl_linesOf.f k l s) (linesL l s) := by
  unfold impl_linesOf.f
  have key : ∀ d i (acc : List Int), l.length - i = d → i ≤ l.length → acc.length ≤ i → Ev (fun k => impl_linesOf.l0 k s acc l (l.length : Int) (i : Int)) (acc ++ linesL (l.drop i) s) := by
    intro d
    induction d with
    | zero =>
      intro i acc hd hi ha
      refine Ev.succ ?_
      simp only [impl_linesOf.l0]
      refine Ev.neg (by omega) (Ev.some ?_)
      rw [List.drop_eq_nil_of_le (by omega)]
      simp [linesL]
    | succ d ih =>
      intro i acc hd hi ha
      refine Ev.succ ?_
      simp only [impl_linesOf.l0]
      refine Ev.pos (by omega) (Ev.pos (by omega) (Ev.pos (by omega) ?_))
      have hrd : rd_T81 l (i : Int) = l.getD i z81 := rfl
      rw [drop_cons l i z81 (by omega), linesL_cons, hrd, wrap_succ (show i < l.length by omega) (by omega)]
      by_cases hs : (l.getD i z81).f0 = s
      · refine Ev.pos hs (Ev.pos (by omega) ?_)
        rw [if_pos hs]
        have := ih (i + 1) (acc ++ [(l.getD i z81).f1]) (by omega) (by omega) (by simp; omega)
        simpa using this
      · refine Ev.neg hs ?_
        rw [if_neg hs]
        exact ih (i + 1) acc (by omega) (by omega) (by omega)
  have := key l.length 0 [] (by omega) (by omega) (by simp)
  simpa using this
/-- The stride behind load i. -/
def strideAt (l : List (S81)) (i : Nat) : Int := strideV (linesL (l.take (i + 1)) (l.getD i z81).f0)
theorem implStride_ev (l : List (S81)) (i : Nat) (h : l.length ≤ 1048576) (hi : i < l.length) : Ev (fun k => impl_stride.f k (l.take (i + 1))) (strideAt l i) := by
  have hl : (l.take (i + 1)).length = i + 1 := by rw [List.length_take]; omega
  have e1 : wrap64 (((l.take (i + 1)).length : Int) - 1) = (i : Int) := by rw [hl, wrap_id (by omega) (by omega)]; omega
  have hg : rd_T81 (l.take (i + 1)) (i : Int) = l.getD i z81 := by
    show (l.take (i + 1)).getD i z81 = _
    rw [List.getD_eq_getElem?_getD, List.getD_eq_getElem?_getD, List.getElem?_take_of_lt (by omega)]
  unfold impl_stride.f
  rw [e1, hg]
  refine Ev.pos (by omega) (Ev.pos (by omega) (Ev.bind (implLines_ev _ _ (by omega)) ?_))
  exact Ev.congr (fun _ => strideV_eq _ (Nat.le_trans (linesL_length _ _) (by omega))) (Ev.some rfl)
theorem range_map_succ {β : Type} (f : Nat → β) (i : Nat) : (List.range (i + 1)).map f = (List.range i).map f ++ [f i] := by simp [List.range_succ]
def stridesL (l : List (S81)) : List Int := (List.range l.length).map (strideAt l)
def stridesR (l : List (S81)) : List Int × Bool := if (decide (l.length ≤ 60) && !(l.any xpLoad)) = true then (stridesL l, true) else ([], false)
theorem stridesR_length (l : List (S81)) : (stridesR l).1.length ≤ l.length := by
  unfold stridesR
  split
  · simp [stridesL]
  · simp
theorem implStrides_ev (l : List (S81)) (h : l.length ≤ 1048576) : Ev (fun k => impl_StridesOf.f k l) (stridesR l) := by
  unfold impl_StridesOf.f impl_ValidLoads.f stridesR
  cases hv : (decide (l.length ≤ 60) && !(l.any xpLoad)) with
  | false => exact Ev.bindc rfl (Ev.neg (by simp) (Ev.some (by simp)))
  | true =>
    refine Ev.bindc rfl (Ev.pos rfl ?_)
    rw [if_pos rfl]
    refine Ev.upto (F := fun k (s : List Int) i => impl_StridesOf.l0 k l s (l.length : Int) i) (n := l.length) (r := (stridesL l, true)) (fun i s => s = (List.range i).map (strideAt l)) ?_ ?_ 0 (Nat.zero_le _) [] (by simp)
    · intro i s hi hs ih
      have hsl : s.length = i := by rw [hs]; simp
      refine Ev.succ ?_
      simp only [impl_StridesOf.l0]
      rw [wrap_succ hi (by omega), Int.toNat_natCast]
      refine Ev.pos (by omega) (Ev.pos (by omega) (Ev.pos (by omega) (Ev.bind (implStride_ev l i h hi) (Ev.pos (by omega) ?_))))
      exact ih _ (by rw [hs, range_map_succ])
    · intro s hs
      refine Ev.succ ?_
      simp only [impl_StridesOf.l0]
      exact Ev.neg (by omega) (Ev.some (by rw [hs]; rfl))
def follUp (l : List Int) (x : Int) : Nat → Int
  | 0 => -1
  | n + 1 => if rd l (n : Int) = x then rd l ((n + 1 : Nat) : Int) else follUp l x n
def follV (l : List Int) (x : Int) : Int := follUp l x (l.length - 1)
theorem implFoll_ev (l : List Int) (x : Int) (h : l.length ≤ 1048576) : Ev (fun k => impl_follower.f k l x) (follV l x) := by
  unfold impl_follower.f follV
  have key : ∀ n, n + 1 ≤ l.length → Ev (fun k => impl_follower.l0 k l x ((n : Int) - 1)) (follUp l x n) := by
    intro n
    induction n with
    | zero =>
      intro _
      refine Ev.succ ?_
      simp only [impl_follower.l0]
      exact Ev.neg (by omega) (Ev.some rfl)
    | succ n ih =>
      intro hn
      have e0 : ((n + 1 : Nat) : Int) - 1 = (n : Int) := by omega
      rw [e0]
      refine Ev.succ ?_
      simp only [impl_follower.l0]
      refine Ev.pos (by omega) (Ev.pos (by omega) (Ev.pos (by omega) ?_))
      have e1 : wrap64 ((n : Int) + 1) = ((n + 1 : Nat) : Int) := wrap_succ (Nat.lt_succ_self n) (by omega)
      have e2 : wrap64 ((n : Int) - 1) = (n : Int) - 1 := wrap_id (by omega) (by omega)
      rw [e1, e2]
      unfold follUp
      by_cases hx : rd l (n : Int) = x
      · rw [if_pos hx]
        exact Ev.pos hx (Ev.pos (by omega) (Ev.pos (by omega) (Ev.some rfl)))
      · rw [if_neg hx]
        exact Ev.neg hx (ih (by omega))
  rcases Nat.eq_zero_or_pos l.length with h0 | h0
  · rw [wrap_id (by omega) (by omega), h0]
    refine Ev.succ ?_
    simp only [impl_follower.l0]
    exact Ev.neg (by omega) (Ev.some rfl)
  · have := key (l.length - 1) (by omega)
    rw [wrap_id (by omega) (by omega)]
    rw [show (l.length : Int) - 2 = ((l.length - 1 : Nat) : Int) - 1 by omega]
    exact this
theorem implIndex_ev (l : List Int) (x : Int) (h : l.length ≤ 1048576) : Ev (fun k => slices_Index_int64_int64.f k l x) (xIdx (fun y => decide (y = x)) l 0) := by
  unfold slices_Index_int64_int64.f
  have key : ∀ d i, l.length - i = d → i ≤ l.length → Ev (fun k => slices_Index_int64_int64.l0 k l x (l.length : Int) (i : Int)) (xIdx (fun y => decide (y = x)) (l.drop i) (i : Int)) := by
    intro d
    induction d with
    | zero =>
      intro i hd hi
      refine Ev.succ ?_
      simp only [slices_Index_int64_int64.l0]
      refine Ev.neg (by omega) (Ev.some ?_)
      rw [xIdx_drop_end _ _ _ (by omega)]
    | succ d ih =>
      intro i hd hi
      refine Ev.succ ?_
      simp only [slices_Index_int64_int64.l0]
      refine Ev.pos (by omega) (Ev.pos (by omega) (Ev.pos (by omega) ?_))
      have hrd : rd l (i : Int) = l.getD i 0 := rfl
      rw [hrd, wrap_succ (show i < l.length by omega) (by omega)]
      by_cases hx : l.getD i 0 = x
      · refine Ev.pos hx.symm (Ev.some ?_)
        rw [xIdx_drop_hit _ _ _ 0 (by omega) _ (by rw [hx]; simp)]
      · refine Ev.neg (fun e => hx e.symm) ?_
        rw [xIdx_drop_miss _ _ _ 0 (by omega) _ (by simpa using hx)]
        exact ih (i + 1) (by omega) (by omega)
  have := key l.length 0 (by omega) (by omega)
  simpa using this
theorem implHas_ev (l : List Int) (x : Int) (h : l.length ≤ 1048576) : Ev (fun k => slices_Contains_int64_int64.f k l x) (l.any fun y => decide (y = x)) := by
  unfold slices_Contains_int64_int64.f
  refine Ev.bind (implIndex_ev l x h) (Ev.some ?_)
  rw [xIdx_nonneg _ _ _ (by omega)]
def pairGo (t : List Int) (line : Int) : Nat → List Int → Int → List Int
  | 0, out, _ => out
  | n + 1, out, now => if follV t now < 0 then out else if follV t now = line then out else if (out.any fun y => decide (y = follV t now)) = true then out else pairGo t line n (out ++ [follV t now]) (follV t now)
theorem pairGo_length (t : List Int) (line : Int) : ∀ n out now, (pairGo t line n out now).length ≤ out.length + n := by
  intro n
  induction n with
  | zero => intro out now; simp [pairGo]
  | succ n ih =>
    intro out now
    unfold pairGo
    split
    · omega
    · split
      · omega
      · split
        · omega
        · have := ih (out ++ [follV t now]) (follV t now)
          simp at this; omega
theorem implPair_ev (t : List Int) (line a0 d a2 a3 s : Int) (ht : t.length ≤ 1048576) (hd : d ≤ 1000) : ∀ (n : Nat) (out : List Int) (now : Int), (out.length : Int) ≤ 1000 → (n : Int) = d - out.length → Ev (fun k => impl_Prefetcher_guesses.l0 k out t now a0 d a2 a3 s line) (pairGo t line n out now) := by
  intro n
  induction n with
  | zero =>
    intro out now ho hn
    refine Ev.succ ?_
    simp only [impl_Prefetcher_guesses.l0]
    exact Ev.bindc (a := (out.length : Int)) rfl (Ev.neg (by omega) (Ev.some rfl))
  | succ n ih =>
    intro out now ho hn
    refine Ev.succ ?_
    simp only [impl_Prefetcher_guesses.l0, pairGo]
    refine Ev.bindc (a := (out.length : Int)) rfl (Ev.pos (by omega) (Ev.bind (implFoll_ev t now ht) ?_))
    by_cases h1 : follV t now < 0
    · rw [if_pos h1]; exact Ev.pos h1 (Ev.some rfl)
    · rw [if_neg h1]
      refine Ev.neg h1 ?_
      by_cases h2 : follV t now = line
      · rw [if_pos h2]; exact Ev.pos h2 (Ev.some rfl)
      · rw [if_neg h2]
        refine Ev.neg h2 (Ev.bind (implHas_ev out (follV t now) (by omega)) ?_)
        by_cases h3 : (out.any fun y => decide (y = follV t now)) = true
        · rw [if_pos h3]; exact Ev.pos h3 (Ev.some rfl)
        · rw [if_neg h3]
          exact Ev.neg h3 (Ev.pos (by omega) (ih _ _ (by simp; omega) (by simp; omega)))
def stepGo (line by_ : Int) : Nat → List Int → Int → List Int
  | 0, out, _ => out
  | n + 1, out, k => if 0 ≤ line + k * by_ ∧ line + k * by_ ≤ 63 then stepGo line by_ n (out ++ [line + k * by_]) (k + 1) else out
theorem stepGo_length (line by_ : Int) : ∀ n out k, (stepGo line by_ n out k).length ≤ out.length + n := by
  intro n
  induction n with
  | zero => intro out k; simp [stepGo]
  | succ n ih =>
    intro out k
    unfold stepGo
    split
    · have := ih (out ++ [line + k * by_]) (k + 1)
      simp at this; omega
    · omega
theorem implStep_ev (line by_ a0 d a2 a3 s : Int) (hb : by_ ≠ 0) (hl0 : 0 ≤ line) (hl1 : line ≤ 63) (hb0 : -100 ≤ by_) (hb1 : by_ ≤ 100) (hd : d ≤ 4) : ∀ (n : Nat) (out : List Int) (k : Int), 1 ≤ k → k ≤ 5 → (n : Int) = d + 1 - k → (out.length : Int) < k →
    Ev (fun f => impl_Prefetcher_guesses.l1 f out by_ k a0 d a2 a3 s line) (stepGo line by_ n out k) := by
  intro n
  induction n with
  | zero =>
    intro out k hk hk5 hn ho
    refine Ev.succ ?_
    simp only [impl_Prefetcher_guesses.l1]
    exact Ev.neg hb (Ev.neg (by omega) (Ev.some rfl))
  | succ n ih =>
    intro out k hk hk5 hn ho
    have hk4 : k ≤ 4 := by omega
    refine Ev.succ ?_
    simp only [impl_Prefetcher_guesses.l1, impl_isAddress.f, in_impl, Option.bind_some]
    have hw : wrap64 (line + wrap64 (k * by_)) = line + k * by_ := by
      obtain h | h | h | h : k = 1 ∨ k = 2 ∨ k = 3 ∨ k = 4 := by omega
      all_goals subst h; rw [wrap_id (x := _ * by_) (by omega) (by omega), wrap_id (by omega) (by omega)]
    rw [hw, wrap_id (x := k + 1) (by omega) (by omega)]
    refine Ev.neg hb (Ev.pos (by omega) ?_)
    unfold stepGo
    by_cases hx : 0 ≤ line + k * by_ ∧ line + k * by_ ≤ 63
    · rw [if_pos hx]
      exact Ev.pos (by simpa using hx) (Ev.pos (by omega) (ih _ _ (by omega) (by omega) (by omega) (by simp; omega)))
    · rw [if_neg hx]
      exact Ev.neg (by simp only [Bool.and_eq_true, decide_eq_true_eq]; exact hx) (Ev.some rfl)
def guessAt (f0 f1 : Int) (l : List (S81)) (i : Nat) : List Int :=
  if f0 = 2 then pairGo (linesL (l.take (i + 1)) (l.getD i z81).f0) (l.getD i z81).f1 f1.toNat [] (l.getD i z81).f1
  else if (if f0 = 1 then strideAt l i else 1) = 0 then [] else stepGo (l.getD i z81).f1 (if f0 = 1 then strideAt l i else 1) f1.toNat [] 1
theorem guessAt_length (f0 f1 : Int) (l : List (S81)) (i : Nat) (h : f1 ≤ 4) : (guessAt f0 f1 l i).length ≤ 4 := by
  have key : ∀ b : Int, (if b = 0 then [] else stepGo (l.getD i z81).f1 b f1.toNat [] 1).length ≤ 4 := by
    intro b
    by_cases hb : b = 0
    · rw [if_pos hb]; simp
    · rw [if_neg hb]
      have := stepGo_length (l.getD i z81).f1 b f1.toNat [] 1
      rw [List.length_nil] at this; omega
  unfold guessAt
  by_cases h2 : f0 = 2
  · rw [if_pos h2]
    have := pairGo_length (linesL (l.take (i + 1)) (l.getD i z81).f0) (l.getD i z81).f1 f1.toNat [] (l.getD i z81).f1
    rw [List.length_nil] at this; omega
  · rw [if_neg h2]
    exact key _
theorem rd_bound (t : List Int) (i : Int) (h : ∀ x ∈ t, 0 ≤ x ∧ x ≤ 63) : 0 ≤ rd t i ∧ rd t i ≤ 63 := by
  unfold rd
  by_cases hi : i.toNat < t.length
  · exact h _ (getD_mem t i.toNat 0 hi)
  · rw [List.getD_eq_getElem?_getD, List.getElem?_eq_none (by omega)]; simp
theorem strideV_bound (t : List Int) (h : ∀ x ∈ t, 0 ≤ x ∧ x ≤ 63) : -100 ≤ strideV t ∧ strideV t ≤ 100 := by
  unfold strideV
  split
  · omega
  · split
    · have h1 := rd_bound t (wrap64 ((t.length : Int) - 1)) h
      have h2 := rd_bound t (wrap64 ((t.length : Int) - 2)) h
      rw [wrap_id (x := _ - _) (by omega) (by omega)]
      omega
    · omega
theorem okLoads_at (l : List (S81)) (hv : (l.any xpLoad) = false) (x : S81) (hx : x ∈ l) : (0 ≤ x.f0 ∧ x.f0 ≤ 3) ∧ 0 ≤ x.f1 ∧ x.f1 ≤ 63 := by
  have := List.any_eq_false.1 hv x hx
  rw [xpLoad_not] at this
  simpa [okLoad] using this
theorem linesL_ok (l : List (S81)) (s : Int) (h : ∀ x ∈ l, 0 ≤ x.f1 ∧ x.f1 ≤ 63) : ∀ y ∈ linesL l s, 0 ≤ y ∧ y ≤ 63 := by
  intro y hy
  unfold linesL at hy
  obtain ⟨x, hx, rfl⟩ := List.mem_map.1 hy
  exact h x (List.mem_filter.1 hx).1
theorem implGuess_ev (a0 a1 a2 a3 : Int) (l : List (S81)) (i : Nat) (hl : l.length ≤ 60) (hv : (l.any xpLoad) = false) (h1 : 0 ≤ a1) (h2 : a1 ≤ 4) (hi : i < l.length) :
    Ev (fun k => impl_Prefetcher_guesses.f k a0 a1 a2 a3 (l.take (i + 1))) (guessAt a0 a1 l i) := by
  have hx := okLoads_at l hv _ (getD_mem l i z81 hi)
  have hlt : (l.take (i + 1)).length = i + 1 := by rw [List.length_take]; omega
  have e1 : wrap64 (((l.take (i + 1)).length : Int) - 1) = (i : Int) := by rw [hlt, wrap_id (by omega) (by omega)]; omega
  have hg : rd_T81 (l.take (i + 1)) (i : Int) = l.getD i z81 := by
    show (l.take (i + 1)).getD i z81 = _
    rw [List.getD_eq_getElem?_getD, List.getD_eq_getElem?_getD, List.getElem?_take_of_lt (by omega)]
  have hg2 : rd_T81 l (i : Int) = l.getD i z81 := rfl
  have htl : (linesL (l.take (i + 1)) (l.getD i z81).f0).length ≤ 1048576 := Nat.le_trans (linesL_length _ _) (by omega)
  have hst : -100 ≤ strideAt l i ∧ strideAt l i ≤ 100 := strideV_bound _ (linesL_ok _ _ (fun x hx => (okLoads_at l hv x (List.mem_of_mem_take hx)).2))
  unfold impl_Prefetcher_guesses.f guessAt
  rw [e1, hg]
  by_cases hk : a0 = 2
  · rw [if_pos hk]
    exact Ev.pos (by omega) (Ev.pos (by omega) (Ev.bindc rfl (Ev.pos hk (Ev.bind (implLines_ev _ _ (by omega)) (implPair_ev _ _ a0 a1 a2 a3 _ htl (by omega) a1.toNat [] _ (by simp) (by simp; omega))))))
  · rw [if_neg hk]
    have hm : ∀ b s : Int, -100 ≤ b → b ≤ 100 → Ev (fun k => impl_Prefetcher_guesses.j1 k [] b a0 a1 a2 a3 s (l.getD i z81).f1) (if b = 0 then [] else stepGo (l.getD i z81).f1 b a1.toNat [] 1) := by
      intro b s b0 b1
      refine Ev.succ ?_
      simp only [impl_Prefetcher_guesses.j1]
      by_cases hb : b = 0
      · rw [if_pos hb]
        refine Ev.succ ?_
        simp only [impl_Prefetcher_guesses.l1]
        exact Ev.pos hb (Ev.some rfl)
      · rw [if_neg hb]
        exact implStep_ev _ b a0 a1 a2 a3 s hb hx.2.1 hx.2.2 b0 b1 h2 a1.toNat [] 1 (by omega) (by omega) (by omega) (by simp)
    by_cases h1' : a0 = 1
    · rw [if_pos h1']
      exact Ev.pos (by omega) (Ev.pos (by omega) (Ev.bindc rfl (Ev.neg hk (Ev.pos h1' (Ev.bind (implStride_ev l i (by omega) hi) (hm _ _ hst.1 hst.2))))))
    · rw [if_neg h1']
      exact Ev.pos (by omega) (Ev.pos (by omega) (Ev.bindc rfl (Ev.neg hk (Ev.neg h1' (hm 1 _ (by omega) (by omega))))))
def okPref (a0 a1 a2 a3 : Int) : Bool := (decide (0 ≤ a0) && decide (a0 ≤ 2)) && ((decide (0 ≤ a1) && decide (a1 ≤ 4)) && ((decide (0 ≤ a2) && decide (a2 ≤ 8)) && (decide (1 ≤ a3) && decide (a3 ≤ 6))))
theorem implPref_f (a0 a1 a2 a3 : Int) : impl_ValidPrefetcher.f a0 a1 a2 a3 = some (okPref a0 a1 a2 a3) := by
  unfold impl_ValidPrefetcher.f impl_isWays.f okPref
  simp only [in_impl, Option.bind_some]
  cases (decide (0 ≤ a0) && decide (a0 ≤ 2)) <;> cases (decide (0 ≤ a1) && decide (a1 ≤ 4)) <;> cases (decide (0 ≤ a2) && decide (a2 ≤ 8)) <;> cases (decide (1 ≤ a3) && decide (a3 ≤ 6)) <;> rfl
def guessesR (a0 a1 a2 a3 : Int) (l : List (S81)) : List (List Int) × Bool := if (okPref a0 a1 a2 a3 && (decide (l.length ≤ 60) && !(l.any xpLoad))) = true then ((List.range l.length).map (guessAt a0 a1 l), true) else ([], false)
theorem guesses_ok (a0 a1 a2 a3 : Int) (l : List (S81)) (h : (okPref a0 a1 a2 a3 && (decide (l.length ≤ 60) && !(l.any xpLoad))) = true) : l.length ≤ 60 ∧ (l.any xpLoad) = false ∧ 0 ≤ a1 ∧ a1 ≤ 4 := by
  simp only [okPref, Bool.and_eq_true, decide_eq_true_eq, Bool.not_eq_true'] at h
  exact ⟨h.2.1, h.2.2, h.1.2.1.1, h.1.2.1.2⟩
theorem implGuesses_ev (a0 a1 a2 a3 : Int) (l : List (S81)) (h : l.length ≤ 1048576) : Ev (fun k => impl_GuessesOf.f k a0 a1 a2 a3 l) (guessesR a0 a1 a2 a3 l) := by
  unfold impl_GuessesOf.f impl_isFetched.f impl_ValidLoads.f guessesR
  rw [implPref_f]
  cases hp : okPref a0 a1 a2 a3 with
  | false => exact Ev.bindc (a := false) rfl (Ev.neg (by simp) (Ev.some (by simp)))
  | true =>
    cases hv : (decide (l.length ≤ 60) && !(l.any xpLoad)) with
    | false => exact Ev.bindc (a := false) rfl (Ev.neg (by simp) (Ev.some (by simp)))
    | true =>
      obtain ⟨q0, q1, q2, q3⟩ := guesses_ok a0 a1 a2 a3 l (by rw [hp, hv]; rfl)
      refine Ev.bindc (a := true) rfl (Ev.pos rfl ?_)
      rw [if_pos (by rfl)]
      refine Ev.upto (F := fun k (s : List (List Int)) i => impl_GuessesOf.l0 k l s (l.length : Int) i a0 a1 a2 a3) (n := l.length) (r := ((List.range l.length).map (guessAt a0 a1 l), true)) (fun i s => s = (List.range i).map (guessAt a0 a1 l)) ?_ ?_ 0 (Nat.zero_le _) [] (by simp)
      · intro i s hi hs ih
        have hsl : s.length = i := by rw [hs]; simp
        refine Ev.succ ?_
        simp only [impl_GuessesOf.l0]
        rw [wrap_succ hi (by omega), Int.toNat_natCast]
        refine Ev.pos (by omega) (Ev.pos (by omega) (Ev.pos (by omega) (Ev.bind (implGuess_ev a0 a1 a2 a3 l i q0 q1 q2 q3 hi) (Ev.pos (by omega) ?_))))
        exact ih _ (by rw [hs, range_map_succ])
      · intro s hs
        refine Ev.succ ?_
        simp only [impl_GuessesOf.l0]
        exact Ev.neg (by omega) (Ev.some (by rw [hs]))
theorem guessesR_length (a0 a1 a2 a3 : Int) (l : List (S81)) : (guessesR a0 a1 a2 a3 l).1.length ≤ 60 ∧ ∀ x ∈ (guessesR a0 a1 a2 a3 l).1, x.length ≤ 4 := by
  unfold guessesR
  by_cases h : (okPref a0 a1 a2 a3 && (decide (l.length ≤ 60) && !(l.any xpLoad))) = true
  · obtain ⟨q0, q1, q2, q3⟩ := guesses_ok a0 a1 a2 a3 l h
    rw [if_pos h]
    refine ⟨by simpa using q0, fun x hx => ?_⟩
    obtain ⟨i, _, rfl⟩ := List.mem_map.1 hx
    exact guessAt_length a0 a1 l i q3
  · rw [if_neg h]; simp
theorem bits_255 (x : Int) : 0 ≤ Go.bits .and .u64 x 255 ∧ Go.bits .and .u64 x 255 ≤ 255 := by
  have h : ((BitVec.ofInt 64 x &&& BitVec.ofInt 64 255).toNat) ≤ 255 := by rw [BitVec.toNat_and]; exact Nat.le_trans Nat.and_le_right (by decide)
  have e : Go.bits .and .u64 x 255 = IntKind.u64.wrap ((BitVec.ofInt 64 x &&& BitVec.ofInt 64 255).toNat : Int) := rfl
  rw [e]
  generalize (BitVec.ofInt 64 x &&& BitVec.ofInt 64 255).toNat = m at h
  have e2 : IntKind.u64.wrap (m : Int) = (m : Int) % (2 ^ 64 : Int) := rfl
  rw [e2]
  omega
def bytesL (s : List Int) : Prop := ∀ x ∈ s, 0 ≤ x ∧ x ≤ 255
theorem next_ok (s : List Int) (hs : bytesL s) (i u : Int) (h0 : 0 ≤ i) (h1 : i ≤ 1000000000) : ∃ v u', spec_l00Src_next.f s i u = some (v, i + 1, u') ∧ 0 ≤ v ∧ v ≤ 255 := by
  have e1 : wrap64 (i + 1) = i + 1 := wrap_id (by omega) (by omega)
  unfold spec_l00Src_next.f
  rw [e1]
  by_cases hl : i < (s.length : Int)
  · rw [if_pos hl, if_pos h0, if_pos (by omega)]
    have hm : rd s i ∈ s := by
      show s.getD i.toNat 0 ∈ s
      exact getD_mem s i.toNat 0 (by omega)
    have hb := hs _ hm
    exact ⟨_, _, rfl, by rw [wrap_id (by omega) (by omega)]; exact hb.1, by rw [wrap_id (by omega) (by omega)]; exact hb.2⟩
  · rw [if_neg hl]
    by_cases h2 : i + 1 ≤ (s.length : Int)
    · rw [if_pos h2]; exact ⟨_, _, rfl, by omega, by omega⟩
    · rw [if_neg h2]
      refine ⟨_, _, rfl, ?_, ?_⟩
      · have := bits_255 ((IntKind.u64.wrap ((IntKind.u64.wrap (IntKind.u64.wrap (u * 6364136223846793005))) + 1442695040888963407)) / 1099511627776)
        rw [wrap_id (by omega) (by omega)]; exact this.1
      · have := bits_255 ((IntKind.u64.wrap ((IntKind.u64.wrap (IntKind.u64.wrap (u * 6364136223846793005))) + 1442695040888963407)) / 1099511627776)
        rw [wrap_id (by omega) (by omega)]; exact this.2
theorem pick_ok (s : List Int) (hs : bytesL s) (i u n : Int) (h0 : 0 ≤ i) (h1 : i ≤ 900000000) (hn : n ≤ 65536) : ∃ v i' u', spec_l00Src_pick.f s i u n = some (v, i', u') ∧ 0 ≤ v ∧ (v < n ∨ v = 0) ∧ i ≤ i' ∧ i' ≤ i + 2 := by
  unfold spec_l00Src_pick.f
  by_cases h : n ≤ 1
  · rw [if_pos h]; exact ⟨0, i, u, rfl, by omega, .inr rfl, by omega, by omega⟩
  · rw [if_neg h]
    obtain ⟨v, u', e, hv0, hv1⟩ := next_ok s hs i u h0 (by omega)
    rw [e, Option.bind_some]
    dsimp only
    by_cases h2 : n > 200
    · rw [if_pos h2]
      obtain ⟨v2, u2, e2, hw0, hw1⟩ := next_ok s hs (i + 1) u' (by omega) (by omega)
      rw [e2, Option.bind_some]
      dsimp only
      rw [if_neg (by omega), wrap_id (x := v * 256) (by omega) (by omega), wrap_id (x := v * 256 + v2) (by omega) (by omega)]
      exact ⟨_, _, _, rfl, Int.tmod_nonneg _ (by omega), .inl (Int.tmod_lt_of_pos _ (by omega)), by omega, by omega⟩
    · rw [if_neg h2, if_neg (by omega)]
      exact ⟨_, _, _, rfl, Int.tmod_nonneg _ (by omega), .inl (Int.tmod_lt_of_pos _ (by omega)), by omega, by omega⟩
theorem one_ok (s : List Int) (hs : bytesL s) (i u n : Int) (h0 : 0 ≤ i) (h1 : i ≤ 900000000) (hn : n ≤ 65536) : ∃ b i' u', spec_l00Src_one.f s i u n = some (b, i', u') ∧ i ≤ i' ∧ i' ≤ i + 2 := by
  obtain ⟨v, i', u', e, _, _, h2, h3⟩ := pick_ok s hs i u n h0 h1 hn
  unfold spec_l00Src_one.f
  rw [e, Option.bind_some]
  exact ⟨_, _, _, rfl, h2, h3⟩
theorem bytes_wf (s : List Int) (h : ∀ x ∈ s, (Lit.int .u8 x).wf = true) : bytesL s := by
  intro x hx
  have := h x hx
  simp only [Lit.wf, Bool.and_eq_true, decide_eq_true_eq] at this
  have e1 : IntKind.min .u8 = 0 := rfl
  have e2 : IntKind.max .u8 = 255 := rfl
  rw [e1, e2] at this
  exact this
theorem b10Pref_ok (s : List Int) (hs : bytesL s) : ∃ a0 a1 a2 a3, spec_B10Prefetcher.f s = some (a0, a1, a2, a3) ∧ (0 ≤ a0 ∧ a0 ≤ 2) ∧ (0 ≤ a1 ∧ a1 ≤ 4) ∧ (0 ≤ a2 ∧ a2 ≤ 3) ∧ (1 ≤ a3 ∧ a3 ≤ 6) := by
  unfold spec_B10Prefetcher.f spec_l00From.f
  simp only [Option.bind_some]
  obtain ⟨v0, i0, u0, e0, p0, q0, r0, t0⟩ := pick_ok s hs 0 0 3 (by omega) (by omega) (by omega)
  rw [e0]; simp only [Option.bind_some]
  obtain ⟨v1, i1, u1, e1, p1, q1, r1, t1⟩ := pick_ok s hs i0 u0 5 (by omega) (by omega) (by omega)
  rw [e1]; simp only [Option.bind_some]
  obtain ⟨v2, i2, u2, e2, p2, q2, r2, t2⟩ := pick_ok s hs i1 u1 4 (by omega) (by omega) (by omega)
  rw [e2]; simp only [Option.bind_some]
  obtain ⟨v3, i3, u3, e3, p3, q3, r3, t3⟩ := pick_ok s hs i2 u2 6 (by omega) (by omega) (by omega)
  rw [e3]; simp only [Option.bind_some]
  rw [wrap_id (by omega) (by omega)]
  exact ⟨_, _, _, _, rfl, by omega, by omega, by omega, by omega⟩
theorem b10Loads_l0 (s : List Int) (hs : bytesL s) : ∀ (n : Nat) (L0 : List (S81)) (line step stream i u : Int), n ≤ 30 → L0.length + n ≤ 30 → (∀ x ∈ L0, okLoad x = true) → 0 ≤ line → line ≤ 63 → -3 ≤ step → step ≤ 3 → 0 ≤ stream → stream ≤ 1 → 0 ≤ i → i ≤ 100000 - 100 * n →
    ∃ L, Ev (fun k => spec_B10Loads.l0 k L0 line step stream (n : Int) s i u) L ∧ L.length ≤ 30 ∧ ∀ x ∈ L, okLoad x = true := by
  intro n
  induction n with
  | zero =>
    intro L0 line step stream i u _ hl hok _ _ _ _ _ _ _ _
    refine ⟨L0, Ev.succ ?_, by omega, hok⟩
    simp only [spec_B10Loads.l0]
    exact Ev.neg (by omega) (Ev.some rfl)
  | succ n ih =>
    intro L0 line step stream i u hn hl hok hl0 hl1 hs0 hs1 ht0 ht1 hi0 hi1
    have key : ∀ (step stream i u : Int), -3 ≤ step → step ≤ 3 → 0 ≤ stream → stream ≤ 1 → 0 ≤ i → i ≤ 100000 - 100 * n - 20 →
        ∃ L, Ev (fun k => spec_B10Loads.j1 k L0 line step stream ((n + 1 : Nat) : Int) s i u) L ∧ L.length ≤ 30 ∧ ∀ x ∈ L, okLoad x = true := by
      intro step stream i u hs0 hs1 ht0 ht1 hi0 hi1
      have e1 : wrap64 (((n + 1 : Nat) : Int) - 1) = (n : Int) := by rw [wrap_id (by omega) (by omega)]; omega
      have e2 : wrap64 (line + step) = line + step := wrap_id (by omega) (by omega)
      obtain ⟨b, i1, u1, eb, r1, t1⟩ := one_ok s hs i u 6 (by omega) (by omega) (by omega)
      obtain ⟨v, i2, u2, ev, p2, q2, r2, t2⟩ := pick_ok s hs i1 u1 14 (by omega) (by omega) (by omega)
      have hnew : ∀ y : Int, 0 ≤ y → y ≤ 63 → ∀ x ∈ L0 ++ [(⟨stream, y⟩ : S81)], okLoad x = true := by
        intro y hy0 hy1 x hx
        rcases List.mem_append.1 hx with hx | hx
        · exact hok x hx
        · obtain rfl : x = ⟨stream, y⟩ := by simpa using hx
          simp only [okLoad, Bool.and_eq_true, decide_eq_true_eq]
          omega
      obtain ⟨L1, w1, w2, w3⟩ := ih (L0 ++ [(⟨stream, v⟩ : S81)]) v step stream i2 u2 (by omega) (by simp; omega) (hnew v (by omega) (by omega)) (by omega) (by omega) hs0 hs1 ht0 ht1 (by omega) (by omega)
      by_cases hb : b = true
      · refine ⟨L1, Ev.succ ?_, w2, w3⟩
        simp only [spec_B10Loads.j1]
        rw [e1, e2]
        exact Ev.bindc eb (Ev.pos hb (Ev.bindc ev (Ev.pos (by omega) w1)))
      · by_cases hA : line + step < 0
        · refine ⟨L1, Ev.succ ?_, w2, w3⟩
          simp only [spec_B10Loads.j1]
          rw [e1, e2]
          exact Ev.bindc eb (Ev.neg hb (Ev.pos hA (Ev.bindc ev (Ev.pos (by omega) w1))))
        · by_cases hB : line + step ≥ 64
          · refine ⟨L1, Ev.succ ?_, w2, w3⟩
            simp only [spec_B10Loads.j1]
            rw [e1, e2]
            exact Ev.bindc eb (Ev.neg hb (Ev.neg hA (Ev.pos hB (Ev.bindc ev (Ev.pos (by omega) w1)))))
          · obtain ⟨L2, y1, y2, y3⟩ := ih (L0 ++ [(⟨stream, line + step⟩ : S81)]) (line + step) step stream i1 u1 (by omega) (by simp; omega) (hnew _ (by omega) (by omega)) (by omega) (by omega) hs0 hs1 ht0 ht1 (by omega) (by omega)
            refine ⟨L2, Ev.succ ?_, y2, y3⟩
            simp only [spec_B10Loads.j1]
            rw [e1, e2]
            exact Ev.bindc eb (Ev.neg hb (Ev.neg hA (Ev.neg hB (Ev.pos (by omega) y1))))
    obtain ⟨b, i1, u1, eb, r1, t1⟩ := one_ok s hs i u 5 (by omega) (by omega) (by omega)
    obtain ⟨v, i2, u2, ev, p2, q2, r2, t2⟩ := pick_ok s hs i1 u1 2 (by omega) (by omega) (by omega)
    obtain ⟨x, i3, u3, ex, p3, q3, r3, t3⟩ := pick_ok s hs i2 u2 7 (by omega) (by omega) (by omega)
    have e3 : wrap64 (x - 3) = x - 3 := wrap_id (by omega) (by omega)
    by_cases hb : b = true
    · obtain ⟨L, w1, w2, w3⟩ := key (x - 3) v i3 u3 (by omega) (by omega) (by omega) (by omega) (by omega) (by omega)
      refine ⟨L, Ev.succ ?_, w2, w3⟩
      simp only [spec_B10Loads.l0]
      exact Ev.pos (by omega) (Ev.bindc eb (Ev.pos hb (Ev.bindc ev (Ev.bindc ex (by rw [e3]; exact w1)))))
    · obtain ⟨L, w1, w2, w3⟩ := key step stream i1 u1 (by omega) (by omega) (by omega) (by omega) (by omega) (by omega)
      refine ⟨L, Ev.succ ?_, w2, w3⟩
      simp only [spec_B10Loads.l0]
      exact Ev.pos (by omega) (Ev.bindc eb (Ev.neg hb w1))
theorem b10Loads_ok (s : List Int) (hs : bytesL s) : ∃ L, Ev (fun k => spec_B10Loads.f k s) L ∧ L.length ≤ 30 ∧ (L.any xpLoad) = false := by
  obtain ⟨v0, i0, u0, e0, p0, q0, r0, t0⟩ := pick_ok s hs 0 0 12 (by omega) (by omega) (by omega)
  obtain ⟨v1, i1, u1, e1, p1, q1, r1, t1⟩ := pick_ok s hs i0 u0 4 (by omega) (by omega) (by omega)
  obtain ⟨v2, i2, u2, e2, p2, q2, r2, t2⟩ := pick_ok s hs i1 u1 30 (by omega) (by omega) (by omega)
  obtain ⟨n, hn⟩ : ∃ n : Nat, v2 = n := ⟨v2.toNat, by omega⟩
  subst hn
  obtain ⟨L, w1, w2, w3⟩ := b10Loads_l0 s hs n [] v0 v1 0 i2 u2 (by omega) (by simp; omega) (by simp) (by omega) (by omega) (by omega) (by omega) (by omega) (by omega) (by omega) (by omega)
  refine ⟨L, ?_, w2, ?_⟩
  · unfold spec_B10Loads.f spec_l00From.f
    exact Ev.bindc rfl (Ev.bindc e0 (Ev.bindc e1 (Ev.bindc e2 w1)))
  · rw [List.any_eq_false]
    intro x hx
    rw [xpLoad_not, w3 x hx]
    simp
structure GoodG (line f0 f1 st : Int) (g : List Int) : Prop where
  len : (g.length : Int) ≤ f1
  out : line ∉ g
  nodup : g.Nodup
  rng : ∀ x ∈ g, 0 ≤ x ∧ x ≤ 63
  one : f0 = 1 → ∀ k, k < g.length → st ≠ 0 ∧ g.getD k 0 = line + ((k : Int) + 1) * st
  zero : f0 = 0 → ∀ k, k < g.length → g.getD k 0 = line + ((k : Int) + 1)
theorem follUp_bound (t : List Int) (x : Int) (h : ∀ y ∈ t, 0 ≤ y ∧ y ≤ 63) : ∀ n, follUp t x n ≤ 63
  | 0 => by simp [follUp]
  | n + 1 => by
    unfold follUp
    split
    · exact (rd_bound t _ h).2
    · exact follUp_bound t x h n
theorem pairGo_good (t : List Int) (line : Int) (h : ∀ y ∈ t, 0 ≤ y ∧ y ≤ 63) : ∀ n out now, line ∉ out → out.Nodup → (∀ x ∈ out, 0 ≤ x ∧ x ≤ 63) → line ∉ pairGo t line n out now ∧ (pairGo t line n out now).Nodup ∧ ∀ x ∈ pairGo t line n out now, 0 ≤ x ∧ x ≤ 63
  | 0, out, _, h1, h2, h3 => ⟨h1, h2, h3⟩
  | n + 1, out, now, h1, h2, h3 => by
    unfold pairGo
    split
    · exact ⟨h1, h2, h3⟩
    · split
      · exact ⟨h1, h2, h3⟩
      · split
        · exact ⟨h1, h2, h3⟩
        · rename_i a b c
          have hn : follV t now ∉ out := by
            intro hm
            exact c (List.any_eq_true.2 ⟨_, hm, by simp⟩)
          have hb := follUp_bound t now h (t.length - 1)
          refine pairGo_good t line h n _ _ ?_ ?_ ?_
          · rw [List.mem_append]
            rintro (hm | hm)
            · exact h1 hm
            · exact b (List.mem_singleton.1 hm).symm
          · rw [List.nodup_append]
            exact ⟨h2, by simp, fun x hx y hy e => by rw [List.mem_singleton] at hy; subst hy; subst e; exact hn hx⟩
          · intro x hx
            rcases List.mem_append.1 hx with hx | hx
            · exact h3 x hx
            · rw [List.mem_singleton] at hx
              subst hx
              exact ⟨by omega, hb⟩
def steps (line b : Int) (m : Nat) : List Int := (List.range m).map fun (j : Nat) => line + ((j : Int) + 1) * b
theorem stepGo_form (line b : Int) : ∀ n m, (∀ x ∈ steps line b m, 0 ≤ x ∧ x ≤ 63) → ∃ m', m' ≤ m + n ∧ stepGo line b n (steps line b m) ((m : Int) + 1) = steps line b m' ∧ ∀ x ∈ steps line b m', 0 ≤ x ∧ x ≤ 63
  | 0, m, h => ⟨m, by omega, rfl, h⟩
  | n + 1, m, h => by
    unfold stepGo
    split
    · rename_i hc
      have e : steps line b m ++ [line + ((m : Int) + 1) * b] = steps line b (m + 1) := by simp [steps, List.range_succ]
      have e2 : (m : Int) + 1 + 1 = ((m + 1 : Nat) : Int) + 1 := by omega
      rw [e, e2]
      obtain ⟨m', h1, h2, h3⟩ := stepGo_form line b n (m + 1) (by
        rw [← e]
        intro x hx
        rcases List.mem_append.1 hx with hx | hx
        · exact h x hx
        · rw [List.mem_singleton] at hx; subst hx; exact hc)
      exact ⟨m', by omega, h2, h3⟩
    · exact ⟨m, by omega, rfl, h⟩
theorem steps_getD (line b : Int) (m k : Nat) (h : k < m) : (steps line b m).getD k 0 = line + ((k : Int) + 1) * b := by simp [steps, List.getD_eq_getElem?_getD, h]
theorem guessAt_good (f0 f1 : Int) (l : List (S81)) (i : Nat) (hv : (l.any xpLoad) = false) (h0 : 0 ≤ f1) (hi : i < l.length) : GoodG (l.getD i z81).f1 f0 f1 (strideAt l i) (guessAt f0 f1 l i) := by
  have hlen : ∀ x ∈ linesL (l.take (i + 1)) (l.getD i z81).f0, 0 ≤ x ∧ x ≤ 63 := linesL_ok _ _ (fun x hx => (okLoads_at l hv x (List.mem_of_mem_take hx)).2)
  unfold guessAt
  by_cases h2 : f0 = 2
  · rw [if_pos h2]
    obtain ⟨g1, g2, g3⟩ := pairGo_good _ (l.getD i z81).f1 hlen f1.toNat [] (l.getD i z81).f1 (by simp) (by simp) (by simp)
    have gl := pairGo_length (linesL (l.take (i + 1)) (l.getD i z81).f0) (l.getD i z81).f1 f1.toNat [] (l.getD i z81).f1
    exact ⟨by rw [List.length_nil] at gl; omega, g1, g2, g3, fun e => by omega, fun e => by omega⟩
  · rw [if_neg h2]
    obtain ⟨b, hb⟩ : ∃ b, b = (if f0 = 1 then strideAt l i else 1) := ⟨_, rfl⟩
    rw [← hb]
    by_cases hb0 : b = 0
    · rw [if_pos hb0]
      exact ⟨by simpa using h0, by simp, by simp, by simp, fun _ k hk => by simp at hk, fun _ k hk => by simp at hk⟩
    · rw [if_neg hb0]
      obtain ⟨m, m1, m2, m3⟩ := stepGo_form (l.getD i z81).f1 b f1.toNat 0 (by simp [steps])
      have e : stepGo (l.getD i z81).f1 b f1.toNat [] 1 = steps (l.getD i z81).f1 b m := m2
      rw [e]
      refine ⟨by simp [steps]; omega, ?_, ?_, m3, fun e1 k hk => ?_, fun e1 k hk => ?_⟩
      · intro hm
        obtain ⟨j, _, hj⟩ := List.mem_map.1 hm
        have : ((j : Int) + 1) * b = 0 := by omega
        rcases Int.mul_eq_zero.1 this with h | h
        · omega
        · exact hb0 h
      · unfold steps List.Nodup
        rw [List.pairwise_map]
        refine List.pairwise_lt_range.imp ?_
        intro x y hxy he
        have : ((y : Int) - x) * b = 0 := by rw [Int.sub_mul]; have h1 := Int.add_mul (x : Int) 1 b; have h2 := Int.add_mul (y : Int) 1 b; omega
        rcases Int.mul_eq_zero.1 this with h | h
        · omega
        · exact hb0 h
      · rw [e1] at hb
        have hb' : b = strideAt l i := by simpa using hb
        have hk' : k < m := by simpa [steps] using hk
        exact ⟨by rw [← hb']; exact hb0, by rw [steps_getD _ _ _ _ hk', hb']⟩
      · rw [e1] at hb
        have hb' : b = 1 := by simpa using hb
        have hk' : k < m := by simpa [steps] using hk
        rw [steps_getD _ _ _ _ hk', hb']
        omega
def pairsOf (t s : List Int) : List (List Int) := (s.filter fun x => decide (follV t x ≥ 0)).map fun x => [x, follV t x]
theorem pairsOf_snoc (t s : List Int) (x : Int) : pairsOf t (s ++ [x]) = pairsOf t s ++ (if follV t x ≥ 0 then [[x, follV t x]] else []) := by
  unfold pairsOf
  rw [List.filter_append, List.map_append]
  congr 1
  by_cases h : follV t x ≥ 0 <;> simp [h]
theorem pairsOf_length (t s : List Int) : (pairsOf t s).length ≤ s.length := by
  unfold pairsOf
  rw [List.length_map]
  exact List.length_filter_le _ _
theorem implPairs_l0 (t S : List Int) (ht : t.length ≤ 1048576) (hs : S.length ≤ 1048576) : Ev (fun k => impl_PairsOf.l0 k t [] S (S.length : Int) 0) (pairsOf t S, true) := by
  refine Ev.upto (F := fun k (s : List (List Int)) i => impl_PairsOf.l0 k t s S (S.length : Int) i) (n := S.length) (r := (pairsOf t S, true)) (fun i s => s = pairsOf t (S.take i)) ?_ ?_ 0 (Nat.zero_le _) [] (by simp [pairsOf])
  · intro i s hi hs' ih
    have hsl : s.length ≤ i := by rw [hs']; exact Nat.le_trans (pairsOf_length _ _) (List.length_take_le _ _)
    have e : pairsOf t (S.take (i + 1)) = s ++ (if follV t (S.getD i 0) ≥ 0 then [[S.getD i 0, follV t (S.getD i 0)]] else []) := by
      rw [take_succ S i 0 hi, pairsOf_snoc, hs']
    refine Ev.succ ?_
    simp only [impl_PairsOf.l0]
    rw [wrap_succ hi (by omega)]
    refine Ev.pos (by omega) (Ev.pos (by omega) (Ev.pos (by omega) (Ev.bind (implFoll_ev t _ ht) ?_)))
    have er : rd S (i : Int) = S.getD i 0 := rfl
    rw [er]
    by_cases hp : follV t (S.getD i 0) ≥ 0
    · exact Ev.pos hp (Ev.pos (by omega) (ih _ (by rw [e, if_pos hp])))
    · exact Ev.neg hp (ih _ (by rw [e, if_neg hp, List.append_nil]))
  · intro s hs'
    refine Ev.succ ?_
    simp only [impl_PairsOf.l0]
    exact Ev.neg (by omega) (Ev.some (by rw [hs', List.take_length]))
def pairsR (l : List (S81)) (s : Int) : List (List Int) × Bool := if ((decide (l.length ≤ 60) && !(l.any xpLoad)) && (decide (0 ≤ s) && decide (s ≤ 3))) = true then (pairsOf (linesL l s) (setI (linesL l s)), true) else ([], false)
theorem implPairs_ev (l : List (S81)) (s : Int) (h : l.length ≤ 1048576) : Ev (fun k => impl_PairsOf.f k l s) (pairsR l s) := by
  unfold impl_PairsOf.f impl_ValidLoads.f impl_isStream.f pairsR
  rw [in_impl]
  cases hv : (decide (l.length ≤ 60) && !(l.any xpLoad)) with
  | false => exact Ev.bindc (a := false) rfl (Ev.neg (by simp) (Ev.succ (by simp only [impl_PairsOf.j0]; exact Ev.pos (by simp) (Ev.some (by simp)))))
  | true =>
    cases hs : (decide (0 ≤ s) && decide (s ≤ 3)) with
    | false => exact Ev.bindc (a := true) rfl (Ev.pos rfl (Ev.bindc (a := false) rfl (Ev.succ (by simp only [impl_PairsOf.j0]; exact Ev.pos (by simp) (Ev.some (by simp))))))
    | true =>
      have hl : (linesL l s).length ≤ 1048576 := Nat.le_trans (linesL_length _ _) h
      refine Ev.bindc (a := true) rfl (Ev.pos rfl (Ev.bindc (a := true) rfl (Ev.succ ?_)))
      simp only [impl_PairsOf.j0]
      refine Ev.neg (by simp) (Ev.bind (implLines_ev l s h) (Ev.bindc (a := setI (linesL l s)) (by unfold impl_setOf.f; rw [if_pos hl]) ?_))
      rw [if_pos (by rfl)]
      exact implPairs_l0 _ _ hl (Nat.le_trans (setI_le _) hl)
theorem b10Has_ev (l : List Int) (x : Int) (h : l.length ≤ 1048576) : Ev (fun k => laws_b10Has.f k l x) (l.any fun y => decide (y = x)) := by
  unfold laws_b10Has.f
  have key : ∀ d i, l.length - i = d → i ≤ l.length → Ev (fun k => laws_b10Has.l0 k l x (i : Int)) ((l.drop i).any fun y => decide (y = x)) := by
    intro d
    induction d with
    | zero =>
      intro i hd hi
      refine Ev.succ ?_
      simp only [laws_b10Has.l0]
      exact Ev.neg (by omega) (Ev.some (by rw [List.drop_eq_nil_of_le (by omega)]; rfl))
    | succ d ih =>
      intro i hd hi
      refine Ev.succ ?_
      simp only [laws_b10Has.l0]
      rw [wrap_succ (show i < l.length by omega) (by omega), drop_cons l i 0 (by omega), List.any_cons]
      refine Ev.pos (by omega) (Ev.pos (by omega) ?_)
      have er : rd l (i : Int) = l.getD i 0 := rfl
      rw [er]
      by_cases hx : l.getD i 0 = x
      · exact Ev.pos hx (Ev.some (by rw [decide_eq_true hx]; rfl))
      · refine Ev.neg hx ?_
        have : decide (l.getD i 0 = x) = false := by simpa using hx
        rw [this, Bool.false_or]
        exact ih (i + 1) (by omega) (by omega)
  have := key l.length 0 (by omega) (by omega)
  simpa using this
theorem l2_ev (P : List (List Int)) (hP : P.length ≤ 1048576) (h2 : ∀ x ∈ P, x.length = 2) (hlt : P.Pairwise (fun a b => rd a 0 < rd b 0)) : Ev (fun k => laws_FnGuessed.l2 k P 0) true := by
  refine Ev.upto (F := fun k (_ : Unit) i => laws_FnGuessed.l2 k P i) (n := P.length) (r := true) (fun _ _ => True) ?_ ?_ 0 (Nat.zero_le _) () trivial
  · intro i _ hi _ ih
    refine Ev.succ ?_
    simp only [laws_FnGuessed.l2]
    rw [wrap_succ hi (by omega)]
    have e0 : rd_L4 P (i : Int) = P.getD i [] := rfl
    have l0 : (rd_L4 P (i : Int)).length = 2 := by rw [e0]; exact h2 _ (getD_mem P i [] hi)
    refine Ev.pos (by omega) (Ev.pos (by omega) (Ev.pos (by omega) ?_))
    by_cases hz : (i : Int) > 0
    · have e1 : wrap64 ((i : Int) - 1) = ((i - 1 : Nat) : Int) := by rw [wrap_id (by omega) (by omega)]; omega
      rw [e1]
      have e2 : rd_L4 P ((i - 1 : Nat) : Int) = P.getD (i - 1) [] := rfl
      have l1 : (rd_L4 P ((i - 1 : Nat) : Int)).length = 2 := by rw [e2]; exact h2 _ (getD_mem P (i - 1) [] (by omega))
      have hr : rd (P.getD (i - 1) []) 0 < rd (P.getD i []) 0 := by
        rw [getD_lt P (i - 1) [] (by omega), getD_lt P i [] hi]
        exact List.pairwise_iff_getElem.1 hlt (i - 1) i (by omega) hi (by omega)
      refine Ev.pos hz (Ev.pos (by omega) (Ev.pos (by omega) (Ev.pos (by omega) (Ev.pos (by omega) (Ev.neg ?_ (ih () trivial))))))
      rw [e0, e2]
      omega
    · exact Ev.neg hz (ih () trivial)
  · intro _ _
    refine Ev.succ ?_
    simp only [laws_FnGuessed.l2]
    exact Ev.neg (by omega) (Ev.some rfl)
theorem FnGuessed : laws_FnGuessed.Pure := by
  intro c m hc1 hc2 hc3 hm1 hm2 hm3
  refine Ev.rounds (g := fun k => laws_FnGuessed.f k c m) (r := true) ?_
  unfold laws_FnGuessed.f
  by_cases hlong : (c.length : Int) > 1048576 ∨ (m.length : Int) > 1048576
  · have e : laws_b10Long.f c m = some true := by
      unfold laws_b10Long.f
      by_cases h : (c.length : Int) > 1048576
      · rw [if_pos h]
      · rw [if_neg h]; have : (m.length : Int) > 1048576 := by omega
        simp [this]
    exact Ev.bindc e (Ev.pos rfl (Ev.some rfl))
  · have e : laws_b10Long.f c m = some false := by
      unfold laws_b10Long.f
      rw [if_neg (by omega)]
      have : ¬ (m.length : Int) > 1048576 := by omega
      simp [this]
    refine Ev.bindc e (Ev.neg (by simp) ?_)
    obtain ⟨a0, a1, a2, a3, ep, r0, r1, r2, r3⟩ := b10Pref_ok c (bytes_wf c hc3)
    obtain ⟨L, eL, hL, hv⟩ := b10Loads_ok m (bytes_wf m hm3)
    refine Ev.bindc ep (Ev.bind eL ?_)
    have hok : okPref a0 a1 a2 a3 = true := by simp only [okPref, Bool.and_eq_true, decide_eq_true_eq]; omega
    have hvl : (decide (L.length ≤ 60) && !(L.any xpLoad)) = true := by rw [hv]; simp; omega
    have eg : guessesR a0 a1 a2 a3 L = ((List.range L.length).map (guessAt a0 a1 L), true) := by unfold guessesR; rw [hok, hvl]; rfl
    have es : stridesR L = (stridesL L, true) := by unfold stridesR; rw [hvl]; rfl
    have h1 := implGuesses_ev a0 a1 a2 a3 L (by omega)
    have h2 := implStrides_ev L (by omega)
    rw [eg] at h1
    rw [es] at h2
    refine Ev.bind h1 (Ev.bind h2 (Ev.pos rfl (Ev.pos rfl (Ev.pos (by simp) (Ev.succ ?_)))))
    simp only [laws_FnGuessed.j0]
    refine Ev.neg (by simp [stridesL]) ?_
    obtain ⟨G, hG⟩ : ∃ G, G = (List.range L.length).map (guessAt a0 a1 L) := ⟨_, rfl⟩
    obtain ⟨St, hSt⟩ : ∃ G, G = stridesL L := ⟨_, rfl⟩
    rw [← hG, ← hSt]
    have hGl : G.length = L.length := by rw [hG]; simp
    have hSl : St.length = L.length := by rw [hSt]; simp [stridesL]
    have hGi : ∀ i, i < L.length → G.getD i [] = guessAt a0 a1 L i := fun i hi => by rw [hG]; simp [List.getD_eq_getElem?_getD, hi]
    have hSi : ∀ i, i < L.length → St.getD i 0 = strideAt L i := fun i hi => by rw [hSt]; simp [stridesL, List.getD_eq_getElem?_getD, hi]
    clear hG hSt eL h1 h2 eg es
    refine Ev.upto (F := fun k (_ : Unit) i => laws_FnGuessed.l0 k L G St i a0 a1 a2 a3) (n := L.length) (r := true) (fun _ _ => True) ?_ ?_ 0 (Nat.zero_le _) () trivial
    · intro i _ hi _ ih
      have gg := guessAt_good a0 a1 L i hv r1.1 hi
      have eG : rd_L4 G (i : Int) = guessAt a0 a1 L i := hGi i hi
      have eL : rd_T81 L (i : Int) = L.getD i z81 := rfl
      have eS : rd St (i : Int) = strideAt L i := hSi i hi
      obtain ⟨g, hg⟩ : ∃ g, g = guessAt a0 a1 L i := ⟨_, rfl⟩
      rw [← hg] at gg eG
      have hx := okLoads_at L hv _ (getD_mem L i z81 hi)
      have hglen : g.length ≤ 4 := by have := gg.len; omega
      refine Ev.succ ?_
      simp only [laws_FnGuessed.l0]
      rw [eG, eL]
      refine Ev.pos (by omega) (Ev.pos (by omega) (Ev.neg (by have := gg.len; omega) (Ev.pos (by omega) (Ev.bind (b10Has_ev g _ (by omega)) ?_))))
      have hno : (g.any fun y => decide (y = (L.getD i z81).f1)) = false := by
        rw [List.any_eq_false]
        intro y hy he
        have : y = (L.getD i z81).f1 := by simpa using he
        rw [this] at hy
        exact gg.out hy
      rw [hno]
      refine Ev.succ ?_
      simp only [laws_FnGuessed.j2]
      refine Ev.neg (by simp) ?_
      refine Ev.upto (F := fun k (_ : Unit) j => laws_FnGuessed.l1 k L G St (i : Int) j a0 a1 a2 a3) (n := g.length) (r := true) (fun _ _ => True) ?_ ?_ 0 (Nat.zero_le _) () trivial
      · intro j _ hj _ ih2
        refine Ev.succ ?_
        simp only [laws_FnGuessed.l1]
        rw [eG]
        have ex : rd g (j : Int) = g.getD j 0 := rfl
        rw [ex]
        have hb := gg.rng _ (getD_mem g j 0 hj)
        refine Ev.pos (by omega) (Ev.pos (by omega) (Ev.pos (by omega) (Ev.pos (by omega) (Ev.neg (by omega) (Ev.neg (by omega) (Ev.pos (by omega) (Ev.bind (b10Has_ev (g.take (j : Int).toNat) _ (Nat.le_trans (List.length_take_le _ _) (by omega))) ?_)))))))
        have hno2 : ((g.take (j : Int).toNat).any fun y => decide (y = g.getD j 0)) = false := by
          rw [Int.toNat_natCast, List.any_eq_false]
          intro y hy he
          have e1 : y = g.getD j 0 := by simpa using he
          obtain ⟨q, hq, e2⟩ := List.getElem_of_mem hy
          have hq' : q < j := by simp at hq; omega
          rw [List.getElem_take] at e2
          rw [getD_lt g j 0 hj] at e1
          exact (List.pairwise_iff_getElem.1 gg.nodup q j (by omega) hj hq') (by rw [e2, e1])
        rw [hno2]
        refine Ev.succ ?_
        simp only [laws_FnGuessed.j4]
        have e5 : ∀ b : Bool, b = false → Ev (fun k => laws_FnGuessed.j5 k L G St (i : Int) (j : Int) (g.getD j 0) b a0 a1 a2 a3) true := by
          intro b hb'
          refine Ev.succ ?_
          simp only [laws_FnGuessed.j5]
          rw [eL, hb', wrap_succ hj (by omega)]
          refine Ev.neg (by simp) ?_
          by_cases hz : a0 = 0
          · have := gg.zero hz j hj
            refine Ev.pos hz (Ev.pos (by omega) (Ev.pos (by omega) (Ev.pos ?_ (ih2 () trivial))))
            rw [wrap_id (by omega) (by omega)]
            omega
          · exact Ev.neg hz (ih2 () trivial)
        refine Ev.neg (by simp) ?_
        by_cases ho : a0 = 1
        · obtain ⟨s1, s2⟩ := gg.one ho j hj
          rw [eS, eL]
          refine Ev.pos ho (Ev.pos (by omega) (Ev.pos (by omega) (Ev.neg s1 (Ev.pos (by omega) (e5 _ ?_)))))
          have hst : -100 ≤ strideAt L i ∧ strideAt L i ≤ 100 := strideV_bound _ (linesL_ok _ _ (fun x hx => (okLoads_at L hv x (List.mem_of_mem_take hx)).2))
          have e6 : wrap64 ((j : Int) + 1) = (j : Int) + 1 := wrap_id (by omega) (by omega)
          have hm1 : (((j : Int) + 1) * strideAt L i) = g.getD j 0 - (L.getD i z81).f1 := by omega
          rw [e6, hm1, wrap_id (x := g.getD j 0 - (L.getD i z81).f1) (by omega) (by omega), wrap_id (by omega) (by omega)]
          simp only [bne_eq_false_iff_eq]
          omega
        · exact Ev.neg ho (e5 _ rfl)
      · intro _ _
        refine Ev.succ ?_
        simp only [laws_FnGuessed.l1]
        rw [eG, wrap_succ hi (by omega)]
        exact Ev.pos (by omega) (Ev.pos (by omega) (Ev.neg (by omega) (ih () trivial)))
    · intro _ _
      refine Ev.succ ?_
      simp only [laws_FnGuessed.l0]
      have ep := implPairs_ev L 0 (by omega)
      have er : pairsR L 0 = (pairsOf (linesL L 0) (setI (linesL L 0)), true) := by unfold pairsR; rw [hvl]; rfl
      rw [er] at ep
      refine Ev.neg (by omega) (Ev.bind ep (Ev.pos rfl (l2_ev _ ?_ ?_ ?_)))
      · exact Nat.le_trans (pairsOf_length _ _) (Nat.le_trans (setI_le _) (Nat.le_trans (linesL_length _ _) (by omega)))
      · intro x hx
        obtain ⟨y, _, rfl⟩ := List.mem_map.1 hx
        rfl
      · unfold pairsOf
        rw [List.pairwise_map]
        exact ((setI_lt _).filter _).imp (fun h => h)
end Go.Proofs.Ytibdelappoefeaa.Pure
