/- The statement FnExactStridesOf over lists alone: both programs tell the same strides of all beginnings of the loads. -/
import Derived.Test.YtnocikchdkaabaaPFnExactStridesOfx
import Derived.Test.YtnocikchdkaabaaX2
namespace Go.Proofs.Ytnocikchdkaabaa.Pure
open Go.RowKit Go.Proofs.YtnocikchdkaabaaW.PrintWords Go.Proofs.Ytnocikchdkaabaa.PFnExactStridesOf

theorem in_impl (a b c : Int) : impl_inRange.f a b c = some (decide (b ≤ a) && decide (a ≤ c)) := by
  unfold impl_inRange.f
  by_cases h : b ≤ a <;> simp [h]
theorem in_spec (a b c : Int) : spec_l00In.f a b c = some (decide (b ≤ a) && decide (a ≤ c)) := by
  unfold spec_l00In.f
  by_cases h : b ≤ a <;> simp [h]
theorem szLoadS_f (l : List S107) (a : Int) (h0 : 0 ≤ a) (h1 : a ≤ 1048576) (hl : l.length ≤ 9223372036854775807) : laws_szLoadS.f l a = some (if a < l.length then -1 else a - l.length) := by
  unfold laws_szLoadS.f
  rw [wrap_id (by omega) (by omega)]
  by_cases h : a < l.length
  · rw [if_pos (by omega), if_pos h]
  · rw [if_neg (by omega), if_neg h]
def cvLoad (x : S107) : S105 := ⟨x.f0, x.f1⟩
theorem toLoadS_ev (l : List S107) (h : l.length ≤ 1048576) : Ev (fun k => laws_toLoadS.f k l) (l.map cvLoad) := by
  unfold laws_toLoadS.f
  refine Ev.pos (by omega) (Ev.pos (by omega) ?_)
  refine Ev.upto (F := fun k s i => laws_toLoadS.l0 k l s i) (n := l.length) (r := l.map cvLoad) (fun i s => s = (l.take i).map cvLoad ++ List.replicate (l.length - i) z105) ?_ ?_ 0 (Nat.zero_le _) _ (by simp)
  · intro i s hi hs ih
    have hsl : s.length = l.length := by rw [hs]; simp; omega
    refine Ev.succ ?_
    simp only [laws_toLoadS.l0]
    refine Ev.pos (by omega) (Ev.pos (by omega) (Ev.bindc (a := ((rd_T107 l (i : Int)).f0, (rd_T107 l (i : Int)).f1)) rfl (Ev.pos (by omega) ?_)))
    rw [wrap_succ hi (by omega)]
    refine ih _ ?_
    rw [hs, Int.toNat_natCast]
    exact fill_next cvLoad l z105 z107 i hi _ rfl
  · intro s hs
    refine Ev.succ ?_
    simp only [laws_toLoadS.l0]
    exact Ev.neg (by omega) (Ev.some (by rw [hs]; simp))
theorem eqLoadS_ev (l : List S105) (h : l.length ≤ 1048576) : Ev (fun k => laws_eqLoadS.f k l l) true := by
  unfold laws_eqLoadS.f
  refine Ev.pos rfl ?_
  refine Ev.upto (F := fun k (_ : Unit) i => laws_eqLoadS.l0 k l l i) (n := l.length) (r := true) (fun _ _ => True) ?_ ?_ 0 (Nat.zero_le _) () trivial
  · intro i s hi _ ih
    refine Ev.succ ?_
    simp only [laws_eqLoadS.l0]
    refine Ev.pos (by omega) (Ev.pos (by omega) (Ev.pos (by omega) (Ev.bindc (a := true) (by simp [laws_eqLoad.f]) (Ev.pos rfl ?_))))
    rw [wrap_succ hi (by omega)]
    exact ih () trivial
  · intro s _
    refine Ev.succ ?_
    simp only [laws_eqLoadS.l0]
    exact Ev.neg (by omega) (Ev.some rfl)
def okLoad (x : S105) : Bool := (decide (0 ≤ x.f0) && decide (x.f0 ≤ 3)) && (decide (0 ≤ x.f1) && decide (x.f1 ≤ 63))
theorem xpLoad_not (x : S105) : xpLoad x = !okLoad x := by
  unfold xpLoad okLoad
  cases decide (0 ≤ x.f0) <;> cases decide (x.f0 ≤ 3) <;> cases decide (0 ≤ x.f1) <;> cases decide (x.f1 ≤ 63) <;> rfl
theorem specLoads0_ev (l : List (S105)) (h : l.length ≤ 1048576) : Ev (fun k => spec_l09Loads.f k l) (decide (l.length ≤ 60) && !(l.any xpLoad)) := by
  unfold spec_l09Loads.f
  have key : ∀ i, i ≤ l.length → Ev (fun k => spec_l09Loads.l0 k l (i : Int)) (decide (l.length ≤ 60) && !((l.drop i).any xpLoad)) := by
    intro i hi
    obtain ⟨d, hd⟩ : ∃ d, l.length - i = d := ⟨_, rfl⟩
    induction d generalizing i with
    | zero =>
      obtain rfl : i = l.length := by omega
      refine Ev.succ ?_
      simp only [spec_l09Loads.l0]
      refine Ev.neg (by omega) (Ev.some ?_)
      simp
      omega
    | succ d ih =>
      refine Ev.succ ?_
      simp only [spec_l09Loads.l0, spec_l09Stream.f, spec_l03Address.f, in_spec, Option.bind_some]
      refine Ev.pos (by omega) (Ev.pos (by omega) ?_)
      have hc := drop_cons l i z105 (by omega)
      have hrd : rd_T105 l (i : Int) = l.getD i z105 := rfl
      rw [hrd]
      generalize l.getD i z105 = x at *
      rw [hc, List.any_cons, xpLoad_not]
      cases ha : (decide (0 ≤ x.f0) && decide (x.f0 ≤ 3)) with
      | false => exact Ev.neg (by simp) (Ev.some (by simp [okLoad, ha]))
      | true =>
        refine Ev.pos rfl ?_
        cases hb : (decide (0 ≤ x.f1) && decide (x.f1 ≤ 63)) with
        | false => exact Ev.neg (by simp) (Ev.some (by simp [okLoad, ha, hb]))
        | true =>
          refine Ev.pos rfl ?_
          rw [wrap_succ (show i < l.length by omega) (by omega)]
          have := ih (i + 1) (by omega) (by omega)
          simpa [okLoad, ha, hb] using this
  have := key 0 (Nat.zero_le _)
  simpa using this
/-- n rising numbers from a on. -/
def cnt (a : Int) (n : Nat) : List Int := (List.range n).map fun (j : Nat) => a + (j : Int)
theorem cnt_length (a : Int) (n : Nat) : (cnt a n).length = n := by simp [cnt]
theorem cnt_succ (a : Int) (n : Nat) : cnt a (n + 1) = cnt a n ++ [a + (n : Int)] := by simp [cnt, List.range_succ]
theorem cnt_getD (a : Int) (n i : Nat) (h : i < n) : (cnt a n).getD i 0 = a + (i : Int) := by
  simp [cnt, List.getD_eq_getElem?_getD, h]
theorem set_mark {α : Type} (A l : List α) (i : Nat) (v : α) (h : i = A.length) (hi : i < l.length) : (A ++ l.drop i).set i v = (A ++ [v]) ++ l.drop (i + 1) := by
  subst h
  rw [List.set_append_right _ _ (Nat.le_refl _), Nat.sub_self, List.drop_eq_getElem_cons hi, List.set_cons_zero]
  simp
theorem eqInt64S_ev (l : List Int) (h : l.length ≤ 1048576) : Ev (fun k => laws_eqInt64S.f k l l) true := by
  unfold laws_eqInt64S.f
  refine Ev.pos rfl ?_
  refine Ev.upto (F := fun k (_ : Unit) i => laws_eqInt64S.l0 k l l i) (n := l.length) (r := true) (fun _ _ => True) ?_ ?_ 0 (Nat.zero_le _) () trivial
  · intro i s hi _ ih
    refine Ev.succ ?_
    simp only [laws_eqInt64S.l0]
    refine Ev.pos (by omega) (Ev.pos (by omega) (Ev.pos (by omega) (Ev.pos (by simp) ?_)))
    rw [wrap_succ hi (by omega)]
    exact ih () trivial
  · intro s _
    refine Ev.succ ?_
    simp only [laws_eqInt64S.l0]
    exact Ev.neg (by omega) (Ev.some rfl)
theorem markLoadS_ev (l : List S105) (a : Int) (h : l.length ≤ 1048576) (h0 : 0 ≤ a) (h1 : a ≤ 1000000000000) : ∃ l' : List S105, Ev (fun k => laws_markLoadS.f k l a) (a + 2 * (l.length : Int), l') := by
  unfold laws_markLoadS.f
  have key : ∀ d i (y0 : List S105), l.length - i = d → i ≤ l.length → y0.length = l.length → ∃ l' : List S105, Ev (fun k => laws_markLoadS.l0 k y0 (a + 2 * (i : Int)) (i : Int)) (a + 2 * (l.length : Int), l') := by
    intro d
    induction d with
    | zero =>
      intro i s hd hi hs
      refine ⟨s, Ev.succ ?_⟩
      simp only [laws_markLoadS.l0]
      exact Ev.neg (by omega) (Ev.some (by rw [show i = l.length by omega]))
    | succ d ih =>
      intro i y0 hd hi hs
      let y1 := y0.set (i : Int).toNat (⟨a + 2 * (i : Int), (rd_T105 y0 (i : Int)).f1⟩ : S105)
      let y2 := y1.set (i : Int).toNat (⟨(rd_T105 y1 (i : Int)).f0, a + 2 * (i : Int) + 1⟩ : S105)
      obtain ⟨l', hl'⟩ := ih (i + 1) y2 (by omega) (by omega) (by simp only [y1, y2, List.length_set]; exact hs)
      refine ⟨l', Ev.succ ?_⟩
      simp only [laws_markLoadS.l0, Option.bind_some]
      refine Ev.pos (by omega) (Ev.pos (by omega) ?_)
      rw [wrap_succ (show i < l.length by omega) (by omega), wrap_id (x := a + 2 * (i : Int) + 1) (by omega) (by omega), wrap_id (x := a + 2 * (i : Int) + 1 + 1) (by omega) (by omega)]
      rw [show a + 2 * (i : Int) + 1 + 1 = a + 2 * ((i + 1 : Nat) : Int) by omega]
      exact hl'
  obtain ⟨l', hl'⟩ := key l.length 0 l (by omega) (by omega) rfl
  refine ⟨l', ?_⟩
  simpa using hl'
theorem markInt64S_ev (l : List Int) (a : Int) (h : l.length ≤ 1048576) (h0 : 0 ≤ a) (h1 : a ≤ 1000000000000) : Ev (fun k => laws_markInt64S.f k l a) (a + (l.length : Int), cnt a l.length) := by
  unfold laws_markInt64S.f
  refine Ev.upto (F := fun k (s : List Int × Int) i => laws_markInt64S.l0 k s.1 s.2 i) (n := l.length) (r := (a + (l.length : Int), cnt a l.length)) (fun i s => s = (cnt a i ++ l.drop i, a + (i : Int))) ?_ ?_ 0 (Nat.zero_le _) (l, a) (by simp [cnt])
  · intro i s hi hs ih
    have hsl : (cnt a i ++ l.drop i).length = l.length := by simp [cnt_length]; omega
    refine Ev.succ ?_
    simp only [laws_markInt64S.l0, hs]
    refine Ev.pos (by omega) (Ev.pos (by omega) ?_)
    rw [wrap_succ hi (by omega), wrap_id (x := a + (i : Int) + 1) (by omega) (by omega)]
    refine ih (_, _) ?_
    rw [Int.toNat_natCast, set_mark _ _ _ _ (cnt_length a i).symm hi, cnt_succ]
    simp only [Prod.mk.injEq, true_and]
    omega
  · intro s hs
    have hsl : (cnt a l.length ++ l.drop l.length).length = l.length := by simp [cnt_length]
    refine Ev.succ ?_
    simp only [laws_markInt64S.l0, hs]
    exact Ev.neg (by omega) (Ev.some (by simp))
theorem heldInt64S_ev (n : Nat) (a : Int) (h : n ≤ 1048576) (h0 : 0 ≤ a) (h1 : a ≤ 1000000000000) : Ev (fun k => laws_heldInt64S.f k (cnt a n) a) (a + (n : Int)) := by
  unfold laws_heldInt64S.f
  have hl := cnt_length a n
  refine Ev.upto (F := fun k (s : Int) i => laws_heldInt64S.l0 k (cnt a n) s i) (n := n) (r := a + (n : Int)) (fun i s => s = a + (i : Int)) ?_ ?_ 0 (Nat.zero_le _) a (by simp)
  · intro i s hi hs ih
    refine Ev.succ ?_
    simp only [laws_heldInt64S.l0, hs]
    have hr : rd (cnt a n) (i : Int) = a + (i : Int) := by unfold rd; rw [Int.toNat_natCast, cnt_getD _ _ _ hi]
    refine Ev.pos (by omega) (Ev.pos (by omega) (Ev.pos hr ?_))
    rw [wrap_succ hi (by omega), wrap_id (x := a + (i : Int) + 1) (by omega) (by omega)]
    exact ih _ (by omega)
  · intro s hs
    refine Ev.succ ?_
    simp only [laws_heldInt64S.l0, hs]
    exact Ev.neg (by omega) (Ev.some rfl)
/-- The lines of a stream. -/
def linesL (l : List (S105)) (s : Int) : List Int := (l.filter fun x => decide (x.f0 = s)).map fun x => x.f1
theorem linesL_length (l : List (S105)) (s : Int) : (linesL l s).length ≤ l.length := by
  unfold linesL; rw [List.length_map]; exact List.length_filter_le _ _
def strideV (t : List Int) : Int :=
  if (t.length : Int) < 3 then 0
  else if (wrap64 ((rd t (wrap64 ((t.length : Int) - 1))) - (rd t (wrap64 ((t.length : Int) - 2))))) = (wrap64 ((rd t (wrap64 ((t.length : Int) - 2))) - (rd t (wrap64 ((t.length : Int) - 3)))))
    then wrap64 ((rd t (wrap64 ((t.length : Int) - 1))) - (rd t (wrap64 ((t.length : Int) - 2)))) else 0
theorem strideV_eq (t : List Int) (ht : t.length ≤ 1048576) : (if (t.length : Int) < 3 then (some 0) else (if 0 ≤ (wrap64 ((t.length : Int) - 1)) then (if (wrap64 ((t.length : Int) - 1)) < (t.length : Int) then (if 0 ≤ (wrap64 ((t.length : Int) - 2)) then (if (wrap64 ((t.length : Int) - 2)) < (t.length : Int) then (if 0 ≤ (wrap64 ((t.length : Int) - 3)) then (if (wrap64 ((t.length : Int) - 3)) < (t.length : Int) then (if (wrap64 ((rd t (wrap64 ((t.length : Int) - 1))) - (rd t (wrap64 ((t.length : Int) - 2))))) = (wrap64 ((rd t (wrap64 ((t.length : Int) - 2))) - (rd t (wrap64 ((t.length : Int) - 3))))) then (some (wrap64 ((rd t (wrap64 ((t.length : Int) - 1))) - (rd t (wrap64 ((t.length : Int) - 2)))))) else (some 0)) else (none)) else (none)) else (none)) else (none)) else (none)) else (none))) = some (strideV t) := by
  unfold strideV
  by_cases h : (t.length : Int) < 3
  · rw [if_pos h, if_pos h]
  · rw [if_neg h, if_neg h]
    have e1 : wrap64 ((t.length : Int) - 1) = (t.length : Int) - 1 := wrap_id (by omega) (by omega)
    have e2 : wrap64 ((t.length : Int) - 2) = (t.length : Int) - 2 := wrap_id (by omega) (by omega)
    have e3 : wrap64 ((t.length : Int) - 3) = (t.length : Int) - 3 := wrap_id (by omega) (by omega)
    rw [if_pos (by rw [e1]; omega), if_pos (by rw [e1]; omega), if_pos (by rw [e2]; omega), if_pos (by rw [e2]; omega), if_pos (by rw [e3]; omega), if_pos (by rw [e3]; omega)]
    split <;> rfl
theorem linesL_cons (x : S105) (l : List (S105)) (s : Int) : linesL (x :: l) s = if x.f0 = s then x.f1 :: linesL l s else linesL l s := by
  unfold linesL
  rw [List.filter_cons]
  by_cases h : x.f0 = s <;> simp [h]
theorem implLines_ev (l : List (S105)) (s : Int) (h : l.length ≤ 1048576) : Ev (fun k => impl_linesOf.f k l s) (linesL l s) := by
  unfold impl_linesOf.f
  have key : ∀ d i (acc : List Int), l.length - i = d → i ≤ l.length → acc.length ≤ i → Ev (fun k => impl_linesOf.l0 k s acc l (l.length : Int) (i : Int)) (acc ++ linesL (l.drop i) s) := by
    intro d
    induction d with
    | zero =>
      intro i acc hd hi ha
      refine Ev.succ ?_
      simp only [impl_linesOf.l0]
      refine Ev.neg (by omega) (Ev.some ?_)
      rw [List.drop_eq_nil_of_le (by omega)]
      simp [linesL]
    | succ d ih =>
      intro i acc hd hi ha
      refine Ev.succ ?_
      simp only [impl_linesOf.l0]
      refine Ev.pos (by omega) (Ev.pos (by omega) (Ev.pos (by omega) ?_))
      have hrd : rd_T105 l (i : Int) = l.getD i z105 := rfl
      rw [drop_cons l i z105 (by omega), linesL_cons, hrd, wrap_succ (show i < l.length by omega) (by omega)]
      by_cases hs : (l.getD i z105).f0 = s
      · refine Ev.pos hs (Ev.pos (by omega) ?_)
        rw [if_pos hs]
        have := ih (i + 1) (acc ++ [(l.getD i z105).f1]) (by omega) (by omega) (by simp; omega)
        simpa using this
      · refine Ev.neg hs ?_
        rw [if_neg hs]
        exact ih (i + 1) acc (by omega) (by omega) (by omega)
  have := key l.length 0 [] (by omega) (by omega) (by simp)
  simpa using this
theorem specLines_ev (l : List (S105)) (n : Nat) (s : Int) (h : l.length ≤ 1048576) (hn : n ≤ l.length) : Ev (fun k => spec_l09Of.f k l (n : Int) s) (linesL (l.take n) s) := by
  unfold spec_l09Of.f
  have key : ∀ d i (acc : List Int), n - i = d → i ≤ n → acc.length ≤ i → Ev (fun k => spec_l09Of.l0 k l (n : Int) s acc (i : Int)) (acc ++ linesL ((l.take n).drop i) s) := by
    intro d
    induction d with
    | zero =>
      intro i acc hd hi ha
      refine Ev.succ ?_
      simp only [spec_l09Of.l0]
      refine Ev.neg (by omega) (Ev.some ?_)
      rw [List.drop_eq_nil_of_le (by rw [List.length_take]; omega)]
      simp [linesL]
    | succ d ih =>
      intro i acc hd hi ha
      refine Ev.succ ?_
      simp only [spec_l09Of.l0]
      refine Ev.pos (by omega) (Ev.pos (by omega) (Ev.pos (by omega) ?_))
      have hrd : rd_T105 l (i : Int) = l.getD i z105 := rfl
      have hg : (l.take n).getD i z105 = l.getD i z105 := by
        rw [List.getD_eq_getElem?_getD, List.getD_eq_getElem?_getD, List.getElem?_take_of_lt (by omega)]
      rw [drop_cons (l.take n) i z105 (by rw [List.length_take]; omega), linesL_cons, hg, hrd, wrap_succ (show i < l.length by omega) (by omega)]
      by_cases hs : (l.getD i z105).f0 = s
      · refine Ev.pos hs (Ev.pos (by omega) ?_)
        rw [if_pos hs]
        have := ih (i + 1) (acc ++ [(l.getD i z105).f1]) (by omega) (by omega) (by simp; omega)
        simpa using this
      · refine Ev.neg hs ?_
        rw [if_neg hs]
        exact ih (i + 1) acc (by omega) (by omega) (by omega)
  have := key n 0 [] (by omega) (by omega) (by simp)
  simpa using this
/-- The stride behind load i. -/
def strideAt (l : List (S105)) (i : Nat) : Int := strideV (linesL (l.take (i + 1)) (l.getD i z105).f0)
theorem implStride_ev (l : List (S105)) (i : Nat) (h : l.length ≤ 1048576) (hi : i < l.length) : Ev (fun k => impl_stride.f k (l.take (i + 1))) (strideAt l i) := by
  have hl : (l.take (i + 1)).length = i + 1 := by rw [List.length_take]; omega
  have e1 : wrap64 (((l.take (i + 1)).length : Int) - 1) = (i : Int) := by rw [hl, wrap_id (by omega) (by omega)]; omega
  have hg : rd_T105 (l.take (i + 1)) (i : Int) = l.getD i z105 := by
    show (l.take (i + 1)).getD i z105 = _
    rw [List.getD_eq_getElem?_getD, List.getD_eq_getElem?_getD, List.getElem?_take_of_lt (by omega)]
  unfold impl_stride.f
  rw [e1, hg]
  refine Ev.pos (by omega) (Ev.pos (by omega) (Ev.bind (implLines_ev _ _ (by omega)) ?_))
  exact Ev.congr (fun _ => strideV_eq _ (Nat.le_trans (linesL_length _ _) (by omega))) (Ev.some rfl)
theorem specStride_ev (l : List (S105)) (i : Nat) (h : l.length ≤ 1048576) (hi : i < l.length) : Ev (fun k => spec_l09Stride.f k l (i : Int)) (strideAt l i) := by
  unfold spec_l09Stride.f
  rw [wrap_succ hi (by omega)]
  have hg : rd_T105 l (i : Int) = l.getD i z105 := rfl
  rw [hg]
  refine Ev.pos (by omega) (Ev.pos (by omega) (Ev.bind (specLines_ev l (i + 1) _ h (by omega)) ?_))
  exact Ev.congr (fun _ => strideV_eq _ (Nat.le_trans (linesL_length _ _) (by rw [List.length_take]; omega))) (Ev.some rfl)
def stridesL (l : List (S105)) : List Int := (List.range l.length).map (strideAt l)
def stridesR (l : List (S105)) : List Int × Bool := if (decide (l.length ≤ 60) && !(l.any xpLoad)) = true then (stridesL l, true) else ([], false)
theorem stridesR_length (l : List (S105)) : (stridesR l).1.length ≤ l.length := by
  unfold stridesR
  split
  · simp [stridesL]
  · simp
theorem range_map_succ {β : Type} (f : Nat → β) (i : Nat) : (List.range (i + 1)).map f = (List.range i).map f ++ [f i] := by simp [List.range_succ]
theorem implStrides_ev (l : List (S105)) (h : l.length ≤ 1048576) : Ev (fun k => impl_StridesOf.f k l) (stridesR l) := by
  unfold impl_StridesOf.f impl_ValidLoads.f stridesR
  cases hv : (decide (l.length ≤ 60) && !(l.any xpLoad)) with
  | false => exact Ev.bindc rfl (Ev.neg (by simp) (Ev.some (by simp)))
  | true =>
    refine Ev.bindc rfl (Ev.pos rfl ?_)
    rw [if_pos rfl]
    refine Ev.upto (F := fun k (s : List Int) i => impl_StridesOf.l0 k l s (l.length : Int) i) (n := l.length) (r := (stridesL l, true)) (fun i s => s = (List.range i).map (strideAt l)) ?_ ?_ 0 (Nat.zero_le _) [] (by simp)
    · intro i s hi hs ih
      have hsl : s.length = i := by rw [hs]; simp
      refine Ev.succ ?_
      simp only [impl_StridesOf.l0]
      rw [wrap_succ hi (by omega), Int.toNat_natCast]
      refine Ev.pos (by omega) (Ev.pos (by omega) (Ev.pos (by omega) (Ev.bind (implStride_ev l i h hi) (Ev.pos (by omega) ?_))))
      exact ih _ (by rw [hs, range_map_succ])
    · intro s hs
      refine Ev.succ ?_
      simp only [impl_StridesOf.l0]
      exact Ev.neg (by omega) (Ev.some (by rw [hs]; rfl))
theorem specStrides_ev (l : List (S105)) (h : l.length ≤ 1048576) : Ev (fun k => spec_StridesOf.f k l) (stridesR l) := by
  unfold spec_StridesOf.f stridesR
  refine Ev.bind (specLoads0_ev l h) ?_
  cases hv : (decide (l.length ≤ 60) && !(l.any xpLoad)) with
  | false => exact Ev.neg (by simp) (Ev.some (by simp))
  | true =>
    refine Ev.pos rfl ?_
    rw [if_pos rfl]
    refine Ev.upto (F := fun k (s : List Int) i => spec_StridesOf.l0 k l s i) (n := l.length) (r := (stridesL l, true)) (fun i s => s = (List.range i).map (strideAt l)) ?_ ?_ 0 (Nat.zero_le _) [] (by simp)
    · intro i s hi hs ih
      have hsl : s.length = i := by rw [hs]; simp
      refine Ev.succ ?_
      simp only [spec_StridesOf.l0]
      rw [wrap_succ hi (by omega)]
      refine Ev.pos (by omega) (Ev.bind (specStride_ev l i h hi) (Ev.pos (by omega) ?_))
      exact ih _ (by rw [hs, range_map_succ])
    · intro s hs
      refine Ev.succ ?_
      simp only [spec_StridesOf.l0]
      exact Ev.neg (by omega) (Ev.some (by rw [hs]; rfl))

theorem FnExactStridesOf : laws_FnExactStridesOf.Pure := by
  intro l ⟨hl, _⟩
  refine Ev.rounds ?_
  unfold laws_FnExactStridesOf.f
  by_cases hb : (1048576 : Int) < l.length
  · refine Ev.bindc (szLoadS_f l 1048576 (by omega) (by omega) hl) ?_
    rw [if_pos hb]
    exact Ev.pos (by omega) (Ev.some rfl)
  · have hn : l.length ≤ 1048576 := by omega
    have hm : (l.map cvLoad).length ≤ 1048576 := by simpa using hn
    have h1 := toLoadS_ev l hn
    have h2 := specStrides_ev (l.map cvLoad) hm
    have h3 := implStrides_ev (l.map cvLoad) hm
    obtain ⟨⟨a, b⟩, hab⟩ : ∃ q, q = stridesR (l.map cvLoad) := ⟨_, rfl⟩
    have hal : a.length ≤ 1048576 := by
      have := stridesR_length (l.map cvLoad)
      rw [← hab] at this
      simp at this
      omega
    rw [← hab] at h2 h3
    have h4 := eqInt64S_ev a hal
    have h5 := eqLoadS_ev (l.map cvLoad) hm
    obtain ⟨l', h6⟩ := markLoadS_ev (l.map cvLoad) 1 hm (by omega) (by omega)
    have h7 := markInt64S_ev a 1 hal (by omega) (by omega)
    have h8 := heldInt64S_ev a.length 1 hal (by omega) (by omega)
    refine Ev.bindc (szLoadS_f l 1048576 (by omega) (by omega) hl) ?_
    rw [if_neg hb]
    refine Ev.neg (by omega) (Ev.bind h1 (Ev.bind h2 (Ev.bind h1 (Ev.bind h3 (Ev.bind h4 (Ev.pos rfl (Ev.succ ?_)))))))
    simp only [laws_FnExactStridesOf.j0]
    refine Ev.neg (by simp) (Ev.bind h1 (Ev.bind h5 (Ev.pos rfl (Ev.bind h6 (Ev.neg (by dsimp only; omega) (Ev.bind h4 (Ev.pos rfl (Ev.succ ?_))))))))
    simp only [laws_FnExactStridesOf.j1]
    refine Ev.neg (by simp) (Ev.bind h7 (Ev.bind h8 (Ev.neg (by omega) (Ev.pos rfl (Ev.bind h1 (Ev.bind h3 (Ev.bind h4 (Ev.pos rfl (Ev.succ ?_)))))))))
    simp only [laws_FnExactStridesOf.j2]
    exact Ev.neg (by simp) (Ev.bind h8 (Ev.neg (by omega) (Ev.pos rfl (Ev.some rfl))))

end Go.Proofs.Ytnocikchdkaabaa.Pure
