-- Printed by this session's own program (wip/tools/xprint.py) over the kit's print; not trusted: Lean checks it.
import Derived.Test.YtpmglamjgfpmnaaZExactFreeFramesPFnExactFreeFramesx0
import Derived.Test.YtpmglamjgfpmnaaZExactFreeFramesPFnExactFreeFramesx2
import Derived.Test.YtpmglamjgfpmnaaZExactFreeFramesPFnExactFreeFramesx3
import Derived.Test.YtpmglamjgfpmnaaZExactFreeFramesPFnExactFreeFramesx4
import Derived.Test.YtpmglamjgfpmnaaZExactFreeFramesPFnExactFreeFramesx5
import Derived.Test.YtpmglamjgfpmnaaZExactFreeFramesPFnExactFreeFramesx6
import Derived.Test.YtpmglamjgfpmnaaZExactFreeFramesPFnExactFreeFramesx7
import Derived.Test.YtpmglamjgfpmnaaZExactFreeFramesPFnExactFreeFramesx8
import Derived.Test.YtpmglamjgfpmnaaZExactFreeFramesPFnExactFreeFramesx9
import Derived.Test.YtpmglamjgfpmnaaZExactFreeFramesPFnExactFreeFramesx10
import Derived.Test.YtpmglamjgfpmnaaZExactFreeFramesPFnExactFreeFramesx11
namespace Go.Proofs.Ytpmglamjgfpmnaa.PFnExactFreeFrames
open Go.RowKit Go.Proofs.YtpmglamjgfpmnaaW.PrintWords Go.Proofs.YtpmglamjgfpmnaaW.PrintLast Go.Proofs.YtpmglamjgfpmnaaW.PrintMore
attribute [local go_sem] max2_int min2_int max_two min_two max_three min_three max_four min_four   -- for this text's walks alone
set_option linter.unusedVariables false
set_option linter.unusedSimpArgs false

/-! ### laws_FnExactFreeFrames: function 7 -/
theorem in_spec (a b c : Int) : spec_l00In.f a b c = some (decide (b ≤ a) && decide (a ≤ c)) := by
  unfold spec_l00In.f
  by_cases h : b ≤ a <;> simp [h]
def sumLen {α : Type} (l : List (List α)) : Nat := (l.map List.length).sum
theorem sumLen_cons {α : Type} (x : List α) (l : List (List α)) : sumLen (x :: l) = x.length + sumLen l := by simp [sumLen]
theorem sumLen_mem {α : Type} {l : List (List α)} {x : List α} (h : x ∈ l) : x.length ≤ sumLen l := by
  induction l with
  | nil => simp at h
  | cons y l ih =>
    rw [sumLen_cons]
    rcases List.mem_cons.1 h with rfl | h
    · omega
    · have := ih h; omega
theorem getD_mem {α : Type} (l : List α) (i : Nat) (z : α) (h : i < l.length) : l.getD i z ∈ l := by
  rw [getD_lt l i z h]; exact List.getElem_mem h
/-- n rising numbers from a on. -/
def cnt (a : Int) (n : Nat) : List Int := (List.range n).map fun (j : Nat) => a + (j : Int)
theorem cnt_length (a : Int) (n : Nat) : (cnt a n).length = n := by simp [cnt]
theorem cnt_succ (a : Int) (n : Nat) : cnt a (n + 1) = cnt a n ++ [a + (n : Int)] := by simp [cnt, List.range_succ]
theorem cnt_getD (a : Int) (n i : Nat) (h : i < n) : (cnt a n).getD i 0 = a + (i : Int) := by
  simp [cnt, List.getD_eq_getElem?_getD, h]
theorem set_mark {α : Type} (A l : List α) (i : Nat) (v : α) (h : i = A.length) (hi : i < l.length) : (A ++ l.drop i).set i v = (A ++ [v]) ++ l.drop (i + 1) := by
  subst h
  rw [List.set_append_right _ _ (Nat.le_refl _), Nat.sub_self, List.drop_eq_getElem_cons hi, List.set_cons_zero]
  simp
theorem szInt64S_f (l : List Int) (a : Int) (h0 : 0 ≤ a) (h1 : a ≤ 1048576) (hl : l.length ≤ 9223372036854775807) : laws_szInt64S.f l a = some (if a < l.length then -1 else a - l.length) := by
  unfold laws_szInt64S.f
  rw [wrap_id (by omega) (by omega)]
  by_cases h : a < l.length
  · rw [if_pos (by omega), if_pos h]
  · rw [if_neg (by omega), if_neg h]
theorem szEntryS_f (l : List S93) (a : Int) (h0 : 0 ≤ a) (h1 : a ≤ 1048576) (hl : l.length ≤ 9223372036854775807) : laws_szEntryS.f l a = some (if a < l.length then -1 else a - l.length) := by
  unfold laws_szEntryS.f
  rw [wrap_id (by omega) (by omega)]
  by_cases h : a < l.length
  · rw [if_pos (by omega), if_pos h]
  · rw [if_neg (by omega), if_neg h]
theorem szEntrySS_ev (l : List (List (S93))) (a : Int) (h0 : 0 ≤ a) (h1 : a ≤ 1048576) (hl : l.length ≤ 9223372036854775807) (hi : ∀ x ∈ l, x.length ≤ 9223372036854775807) :
    Ev (fun k => laws_szEntrySS.f k l a) (if a < (l.length : Int) + (sumLen l : Int) then -1 else a - ((l.length : Int) + (sumLen l : Int))) := by
  unfold laws_szEntrySS.f
  rw [wrap_id (by omega) (by omega)]
  by_cases h : a < l.length
  · refine Ev.pos (by omega) (Ev.some ?_)
    rw [if_pos (by omega)]
  · refine Ev.neg (by omega) ?_
    have key : ∀ d i (b : Int), l.length - i = d → i ≤ l.length → 0 ≤ b → b ≤ 1048576 → Ev (fun k => laws_szEntrySS.l0 k l b (i : Int)) (if b < (sumLen (l.drop i) : Int) then -1 else b - (sumLen (l.drop i) : Int)) := by
      intro d
      induction d with
      | zero =>
        intro i b hd hi' hb0 hb1
        refine Ev.succ ?_
        simp only [laws_szEntrySS.l0]
        refine Ev.neg (by omega) (Ev.some ?_)
        rw [List.drop_eq_nil_of_le (by omega)]
        simp [sumLen]; omega
      | succ d ih =>
        intro i b hd hi' hb0 hb1
        refine Ev.succ ?_
        simp only [laws_szEntrySS.l0]
        have hx := hi _ (getD_mem l i [] (by omega))
        refine Ev.pos (by omega) (Ev.pos (by omega) (Ev.bindc (szEntryS_f (l.getD i []) b hb0 hb1 hx) ?_))
        rw [drop_cons l i [] (by omega), sumLen_cons]
        generalize l.getD i [] = x at hx ⊢
        by_cases hx2 : b < x.length
        · rw [if_pos hx2]
          refine Ev.pos (by omega) (Ev.some ?_)
          rw [if_pos (by omega)]
        · rw [if_neg hx2]
          refine Ev.neg (by omega) ?_
          rw [wrap_succ (show i < l.length by omega) (by omega)]
          have := ih (i + 1) (b - x.length) (by omega) (by omega) (by omega) (by omega)
          rw [show (if b < ((x.length + sumLen (l.drop (i + 1)) : Nat) : Int) then (-1 : Int) else b - ((x.length + sumLen (l.drop (i + 1)) : Nat) : Int)) = (if b - x.length < (sumLen (l.drop (i + 1)) : Int) then (-1 : Int) else b - x.length - (sumLen (l.drop (i + 1)) : Int)) by split <;> split <;> omega]
          exact this
    have := key l.length 0 (a - l.length) (by omega) (by omega) (by omega) (by omega)
    rw [List.drop_zero] at this
    rw [show (if a < (l.length : Int) + (sumLen l : Int) then (-1 : Int) else a - ((l.length : Int) + (sumLen l : Int))) = (if a - l.length < (sumLen l : Int) then (-1 : Int) else a - l.length - (sumLen l : Int)) by split <;> split <;> omega]
    exact this
theorem szCachedS_f (l : List S82) (a : Int) (h0 : 0 ≤ a) (h1 : a ≤ 1048576) (hl : l.length ≤ 9223372036854775807) : laws_szCachedS.f l a = some (if a < l.length then -1 else a - l.length) := by
  unfold laws_szCachedS.f
  rw [wrap_id (by omega) (by omega)]
  by_cases h : a < l.length
  · rw [if_pos (by omega), if_pos h]
  · rw [if_neg (by omega), if_neg h]
theorem toInt64S_ev (l : List Int) (h : l.length ≤ 1048576) : Ev (fun k => laws_toInt64S.f k l) l := by
  unfold laws_toInt64S.f
  refine Ev.pos (by omega) (Ev.pos (by omega) ?_)
  refine Ev.upto (F := fun k s i => laws_toInt64S.l0 k l s i) (n := l.length) (r := l) (fun i s => s = (l.take i).map id ++ List.replicate (l.length - i) 0) ?_ ?_ 0 (Nat.zero_le _) _ (by simp)
  · intro i s hi hs ih
    have hsl : s.length = l.length := by rw [hs]; simp; omega
    refine Ev.succ ?_
    simp only [laws_toInt64S.l0]
    refine Ev.pos (by omega) (Ev.pos (by omega) (Ev.pos (by omega) ?_))
    rw [wrap_succ hi (by omega)]
    refine ih _ ?_
    rw [hs, Int.toNat_natCast]
    exact fill_next id l 0 0 i hi _ rfl
  · intro s hs
    refine Ev.succ ?_
    simp only [laws_toInt64S.l0]
    exact Ev.neg (by omega) (Ev.some (by rw [hs]; simp))
def cvEntry (x : S93) : S37 := ⟨x.f0, x.f1, x.f2, x.f3⟩
theorem toEntryS_ev (l : List S93) (h : l.length ≤ 1048576) : Ev (fun k => laws_toEntryS.f k l) (l.map cvEntry) := by
  unfold laws_toEntryS.f
  refine Ev.pos (by omega) (Ev.pos (by omega) ?_)
  refine Ev.upto (F := fun k s i => laws_toEntryS.l0 k l s i) (n := l.length) (r := l.map cvEntry) (fun i s => s = (l.take i).map cvEntry ++ List.replicate (l.length - i) z37) ?_ ?_ 0 (Nat.zero_le _) _ (by simp)
  · intro i s hi hs ih
    have hsl : s.length = l.length := by rw [hs]; simp; omega
    refine Ev.succ ?_
    simp only [laws_toEntryS.l0]
    refine Ev.pos (by omega) (Ev.pos (by omega) (Ev.bindc (a := ((rd_T93 l (i : Int)).f0, (rd_T93 l (i : Int)).f1, (rd_T93 l (i : Int)).f2, (rd_T93 l (i : Int)).f3)) rfl (Ev.pos (by omega) ?_)))
    rw [wrap_succ hi (by omega)]
    refine ih _ ?_
    rw [hs, Int.toNat_natCast]
    exact fill_next cvEntry l z37 z93 i hi _ rfl
  · intro s hs
    refine Ev.succ ?_
    simp only [laws_toEntryS.l0]
    exact Ev.neg (by omega) (Ev.some (by rw [hs]; simp))
theorem toEntrySS_ev (l : List (List (S93))) (h : l.length ≤ 1048576) (hi : ∀ x ∈ l, x.length ≤ 1048576) : Ev (fun k => laws_toEntrySS.f k l) (l.map (List.map cvEntry)) := by
  unfold laws_toEntrySS.f
  refine Ev.pos (by omega) (Ev.pos (by omega) ?_)
  refine Ev.upto (F := fun k s i => laws_toEntrySS.l0 k l s i) (n := l.length) (r := l.map (List.map cvEntry)) (fun i s => s = (l.take i).map (List.map cvEntry) ++ List.replicate (l.length - i) []) ?_ ?_ 0 (Nat.zero_le _) _ (by simp)
  · intro i s hi' hs ih
    have hsl : s.length = l.length := by rw [hs]; simp; omega
    refine Ev.succ ?_
    simp only [laws_toEntrySS.l0]
    refine Ev.pos (by omega) (Ev.pos (by omega) (Ev.bind (toEntryS_ev (l.getD i []) (hi _ (getD_mem l i [] hi'))) (Ev.pos (by omega) ?_)))
    rw [wrap_succ hi' (by omega)]
    refine ih _ ?_
    rw [hs, Int.toNat_natCast]
    exact fill_next (List.map cvEntry) l [] [] i hi' _ rfl
  · intro s hs
    refine Ev.succ ?_
    simp only [laws_toEntrySS.l0]
    exact Ev.neg (by omega) (Ev.some (by rw [hs]; simp))
def cvCached (x : S82) : S53 := ⟨x.f0, x.f1, x.f2⟩
theorem toCachedS_ev (l : List S82) (h : l.length ≤ 1048576) : Ev (fun k => laws_toCachedS.f k l) (l.map cvCached) := by
  unfold laws_toCachedS.f
  refine Ev.pos (by omega) (Ev.pos (by omega) ?_)
  refine Ev.upto (F := fun k s i => laws_toCachedS.l0 k l s i) (n := l.length) (r := l.map cvCached) (fun i s => s = (l.take i).map cvCached ++ List.replicate (l.length - i) z53) ?_ ?_ 0 (Nat.zero_le _) _ (by simp)
  · intro i s hi hs ih
    have hsl : s.length = l.length := by rw [hs]; simp; omega
    refine Ev.succ ?_
    simp only [laws_toCachedS.l0]
    refine Ev.pos (by omega) (Ev.pos (by omega) (Ev.bindc (a := ((rd_T82 l (i : Int)).f0, (rd_T82 l (i : Int)).f1, (rd_T82 l (i : Int)).f2)) rfl (Ev.pos (by omega) ?_)))
    rw [wrap_succ hi (by omega)]
    refine ih _ ?_
    rw [hs, Int.toNat_natCast]
    exact fill_next cvCached l z53 z82 i hi _ rfl
  · intro s hs
    refine Ev.succ ?_
    simp only [laws_toCachedS.l0]
    exact Ev.neg (by omega) (Ev.some (by rw [hs]; simp))
theorem eqInt64S_ev (l : List Int) (h : l.length ≤ 1048576) : Ev (fun k => laws_eqInt64S.f k l l) true := by
  unfold laws_eqInt64S.f
  refine Ev.pos rfl ?_
  refine Ev.upto (F := fun k (_ : Unit) i => laws_eqInt64S.l0 k l l i) (n := l.length) (r := true) (fun _ _ => True) ?_ ?_ 0 (Nat.zero_le _) () trivial
  · intro i s hi _ ih
    refine Ev.succ ?_
    simp only [laws_eqInt64S.l0]
    refine Ev.pos (by omega) (Ev.pos (by omega) (Ev.pos (by omega) (Ev.pos (by simp) ?_)))
    rw [wrap_succ hi (by omega)]
    exact ih () trivial
  · intro s _
    refine Ev.succ ?_
    simp only [laws_eqInt64S.l0]
    exact Ev.neg (by omega) (Ev.some rfl)
theorem eqEntryS_ev (l : List S37) (h : l.length ≤ 1048576) : Ev (fun k => laws_eqEntryS.f k l l) true := by
  unfold laws_eqEntryS.f
  refine Ev.pos rfl ?_
  refine Ev.upto (F := fun k (_ : Unit) i => laws_eqEntryS.l0 k l l i) (n := l.length) (r := true) (fun _ _ => True) ?_ ?_ 0 (Nat.zero_le _) () trivial
  · intro i s hi _ ih
    refine Ev.succ ?_
    simp only [laws_eqEntryS.l0]
    refine Ev.pos (by omega) (Ev.pos (by omega) (Ev.pos (by omega) (Ev.bindc (a := true) (by simp [laws_eqEntry.f]) (Ev.pos rfl ?_))))
    rw [wrap_succ hi (by omega)]
    exact ih () trivial
  · intro s _
    refine Ev.succ ?_
    simp only [laws_eqEntryS.l0]
    exact Ev.neg (by omega) (Ev.some rfl)
theorem eqEntrySS_ev (l : List (List (S37))) (h : l.length ≤ 1048576) (hi : ∀ x ∈ l, x.length ≤ 1048576) : Ev (fun k => laws_eqEntrySS.f k l l) true := by
  unfold laws_eqEntrySS.f
  refine Ev.pos rfl ?_
  refine Ev.upto (F := fun k (_ : Unit) i => laws_eqEntrySS.l0 k l l i) (n := l.length) (r := true) (fun _ _ => True) ?_ ?_ 0 (Nat.zero_le _) () trivial
  · intro i s hi' _ ih
    refine Ev.succ ?_
    simp only [laws_eqEntrySS.l0]
    refine Ev.pos (by omega) (Ev.pos (by omega) (Ev.pos (by omega) (Ev.bind (eqEntryS_ev (l.getD i []) (hi _ (getD_mem l i [] hi'))) (Ev.pos rfl ?_))))
    rw [wrap_succ hi' (by omega)]
    exact ih () trivial
  · intro s _
    refine Ev.succ ?_
    simp only [laws_eqEntrySS.l0]
    exact Ev.neg (by omega) (Ev.some rfl)
theorem eqCachedS_ev (l : List S53) (h : l.length ≤ 1048576) : Ev (fun k => laws_eqCachedS.f k l l) true := by
  unfold laws_eqCachedS.f
  refine Ev.pos rfl ?_
  refine Ev.upto (F := fun k (_ : Unit) i => laws_eqCachedS.l0 k l l i) (n := l.length) (r := true) (fun _ _ => True) ?_ ?_ 0 (Nat.zero_le _) () trivial
  · intro i s hi _ ih
    refine Ev.succ ?_
    simp only [laws_eqCachedS.l0]
    refine Ev.pos (by omega) (Ev.pos (by omega) (Ev.pos (by omega) (Ev.bindc (a := true) (by simp [laws_eqCached.f]) (Ev.pos rfl ?_))))
    rw [wrap_succ hi (by omega)]
    exact ih () trivial
  · intro s _
    refine Ev.succ ?_
    simp only [laws_eqCachedS.l0]
    exact Ev.neg (by omega) (Ev.some rfl)
theorem markInt64S_ev (l : List Int) (a : Int) (h : l.length ≤ 1048576) (h0 : 0 ≤ a) (h1 : a ≤ 1000000000000) : Ev (fun k => laws_markInt64S.f k l a) (a + (l.length : Int), cnt a l.length) := by
  unfold laws_markInt64S.f
  refine Ev.upto (F := fun k (s : List Int × Int) i => laws_markInt64S.l0 k s.1 s.2 i) (n := l.length) (r := (a + (l.length : Int), cnt a l.length)) (fun i s => s = (cnt a i ++ l.drop i, a + (i : Int))) ?_ ?_ 0 (Nat.zero_le _) (l, a) (by simp [cnt])
  · intro i s hi hs ih
    have hsl : (cnt a i ++ l.drop i).length = l.length := by simp [cnt_length]; omega
    refine Ev.succ ?_
    simp only [laws_markInt64S.l0, hs]
    refine Ev.pos (by omega) (Ev.pos (by omega) ?_)
    rw [wrap_succ hi (by omega), wrap_id (x := a + (i : Int) + 1) (by omega) (by omega)]
    refine ih (_, _) ?_
    rw [Int.toNat_natCast, set_mark _ _ _ _ (cnt_length a i).symm hi, cnt_succ]
    simp only [Prod.mk.injEq, true_and]
    omega
  · intro s hs
    have hsl : (cnt a l.length ++ l.drop l.length).length = l.length := by simp [cnt_length]
    refine Ev.succ ?_
    simp only [laws_markInt64S.l0, hs]
    exact Ev.neg (by omega) (Ev.some (by simp))
theorem heldInt64S_ev (n : Nat) (a : Int) (h : n ≤ 1048576) (h0 : 0 ≤ a) (h1 : a ≤ 1000000000000) : Ev (fun k => laws_heldInt64S.f k (cnt a n) a) (a + (n : Int)) := by
  unfold laws_heldInt64S.f
  have hl := cnt_length a n
  refine Ev.upto (F := fun k (s : Int) i => laws_heldInt64S.l0 k (cnt a n) s i) (n := n) (r := a + (n : Int)) (fun i s => s = a + (i : Int)) ?_ ?_ 0 (Nat.zero_le _) a (by simp)
  · intro i s hi hs ih
    refine Ev.succ ?_
    simp only [laws_heldInt64S.l0, hs]
    have hr : rd (cnt a n) (i : Int) = a + (i : Int) := by unfold rd; rw [Int.toNat_natCast, cnt_getD _ _ _ hi]
    refine Ev.pos (by omega) (Ev.pos (by omega) (Ev.pos hr ?_))
    rw [wrap_succ hi (by omega), wrap_id (x := a + (i : Int) + 1) (by omega) (by omega)]
    exact ih _ (by omega)
  · intro s hs
    refine Ev.succ ?_
    simp only [laws_heldInt64S.l0, hs]
    exact Ev.neg (by omega) (Ev.some rfl)
theorem markEntryS_ev (l : List S37) (a : Int) (h : l.length ≤ 1048576) (h0 : 0 ≤ a) (h1 : a ≤ 1000000000000) : ∃ l' : List S37, Ev (fun k => laws_markEntryS.f k l a) (a + 4 * (l.length : Int), l') := by
  unfold laws_markEntryS.f
  have key : ∀ d i (y0 : List S37), l.length - i = d → i ≤ l.length → y0.length = l.length → ∃ l' : List S37, Ev (fun k => laws_markEntryS.l0 k y0 (a + 4 * (i : Int)) (i : Int)) (a + 4 * (l.length : Int), l') := by
    intro d
    induction d with
    | zero =>
      intro i s hd hi hs
      refine ⟨s, Ev.succ ?_⟩
      simp only [laws_markEntryS.l0]
      exact Ev.neg (by omega) (Ev.some (by rw [show i = l.length by omega]))
    | succ d ih =>
      intro i y0 hd hi hs
      let y1 := y0.set (i : Int).toNat (⟨a + 4 * (i : Int), (rd_T37 y0 (i : Int)).f1, (rd_T37 y0 (i : Int)).f2, (rd_T37 y0 (i : Int)).f3⟩ : S37)
      let y2 := y1.set (i : Int).toNat (⟨(rd_T37 y1 (i : Int)).f0, (Int.tmod (a + 4 * (i : Int) + 1) 3) == 0, (rd_T37 y1 (i : Int)).f2, (rd_T37 y1 (i : Int)).f3⟩ : S37)
      let y3 := y2.set (i : Int).toNat (⟨(rd_T37 y2 (i : Int)).f0, (rd_T37 y2 (i : Int)).f1, (Int.tmod (a + 4 * (i : Int) + 1 + 1) 3) == 0, (rd_T37 y2 (i : Int)).f3⟩ : S37)
      let y4 := y3.set (i : Int).toNat (⟨(rd_T37 y3 (i : Int)).f0, (rd_T37 y3 (i : Int)).f1, (rd_T37 y3 (i : Int)).f2, (Int.tmod (a + 4 * (i : Int) + 1 + 1 + 1) 3) == 0⟩ : S37)
      obtain ⟨l', hl'⟩ := ih (i + 1) y4 (by omega) (by omega) (by simp only [y1, y2, y3, y4, List.length_set]; exact hs)
      refine ⟨l', Ev.succ ?_⟩
      simp only [laws_markEntryS.l0, Option.bind_some]
      refine Ev.pos (by omega) (Ev.pos (by omega) ?_)
      rw [wrap_succ (show i < l.length by omega) (by omega), wrap_id (x := a + 4 * (i : Int) + 1) (by omega) (by omega), wrap_id (x := a + 4 * (i : Int) + 1 + 1) (by omega) (by omega), wrap_id (x := a + 4 * (i : Int) + 1 + 1 + 1) (by omega) (by omega), wrap_id (x := a + 4 * (i : Int) + 1 + 1 + 1 + 1) (by omega) (by omega)]
      rw [show a + 4 * (i : Int) + 1 + 1 + 1 + 1 = a + 4 * ((i + 1 : Nat) : Int) by omega]
      exact hl'
  obtain ⟨l', hl'⟩ := key l.length 0 l (by omega) (by omega) rfl
  refine ⟨l', ?_⟩
  simpa using hl'
theorem markCachedS_ev (l : List S53) (a : Int) (h : l.length ≤ 1048576) (h0 : 0 ≤ a) (h1 : a ≤ 1000000000000) : ∃ l' : List S53, Ev (fun k => laws_markCachedS.f k l a) (a + 3 * (l.length : Int), l') := by
  unfold laws_markCachedS.f
  have key : ∀ d i (y0 : List S53), l.length - i = d → i ≤ l.length → y0.length = l.length → ∃ l' : List S53, Ev (fun k => laws_markCachedS.l0 k y0 (a + 3 * (i : Int)) (i : Int)) (a + 3 * (l.length : Int), l') := by
    intro d
    induction d with
    | zero =>
      intro i s hd hi hs
      refine ⟨s, Ev.succ ?_⟩
      simp only [laws_markCachedS.l0]
      exact Ev.neg (by omega) (Ev.some (by rw [show i = l.length by omega]))
    | succ d ih =>
      intro i y0 hd hi hs
      let y1 := y0.set (i : Int).toNat (⟨a + 3 * (i : Int), (rd_T53 y0 (i : Int)).f1, (rd_T53 y0 (i : Int)).f2⟩ : S53)
      let y2 := y1.set (i : Int).toNat (⟨(rd_T53 y1 (i : Int)).f0, a + 3 * (i : Int) + 1, (rd_T53 y1 (i : Int)).f2⟩ : S53)
      let y3 := y2.set (i : Int).toNat (⟨(rd_T53 y2 (i : Int)).f0, (rd_T53 y2 (i : Int)).f1, (Int.tmod (a + 3 * (i : Int) + 1 + 1) 3) == 0⟩ : S53)
      obtain ⟨l', hl'⟩ := ih (i + 1) y3 (by omega) (by omega) (by simp only [y1, y2, y3, List.length_set]; exact hs)
      refine ⟨l', Ev.succ ?_⟩
      simp only [laws_markCachedS.l0, Option.bind_some]
      refine Ev.pos (by omega) (Ev.pos (by omega) ?_)
      rw [wrap_succ (show i < l.length by omega) (by omega), wrap_id (x := a + 3 * (i : Int) + 1) (by omega) (by omega), wrap_id (x := a + 3 * (i : Int) + 1 + 1) (by omega) (by omega), wrap_id (x := a + 3 * (i : Int) + 1 + 1 + 1) (by omega) (by omega)]
      rw [show a + 3 * (i : Int) + 1 + 1 + 1 = a + 3 * ((i + 1 : Nat) : Int) by omega]
      exact hl'
  obtain ⟨l', hl'⟩ := key l.length 0 l (by omega) (by omega) rfl
  refine ⟨l', ?_⟩
  simpa using hl'
/-- A thing of which nothing is told. -/
def noThing : Thing where
  P _ _ _ := True
  move _ _ := trivial
theorem rows_len {α : Type} {d : Kd α} {e : Nat} {w : World} {A : Option Addr} {n : Nat} {xs : List (List α)} (h : Kd.C (Kd.slice e d) w A n xs) (y : List α) (hy : y ∈ xs) : y.length ≤ 9223372036854775807 := by
  obtain ⟨i, hi, rfl⟩ := List.getElem_of_mem hy
  obtain ⟨ad, A', c', _, _, _, hC⟩ := at_row h i (by have := h.1; omega)
  have h2 := hC.2.1
  rw [getD_lt xs i [] hi] at h2
  exact h2
def tabAt (root : List Int) (tabs : List (List S37)) (i : Nat) : Bool := decide (root.count (i : Int) = 1) && decide ((tabs.getD i []).length = 8)
def rootIn (root : List Int) (n : Int) : Bool := root.all fun r => decide (-1 ≤ r) && decide (r ≤ n - 1)
def tabS (root : List Int) (tabs : List (List S37)) : Bool := ((root.length : Int) == 8) && (!(decide ((tabs.length : Int) > 8)) && (((List.range tabs.length).all (tabAt root tabs)) && rootIn root (tabs.length : Int)))
theorem specTabRoot_ev (root : List Int) (tabs : List (List S37)) (buf : List S53) (hr : root.length ≤ 1048576) (ht : tabs.length ≤ 1048576) : Ev (fun k => spec_l08Tables.l2 k 0 root tabs buf) (rootIn root (tabs.length : Int)) := by
  refine Ev.upto (F := fun k (_ : Unit) i => spec_l08Tables.l2 k i root tabs buf) (n := root.length) (r := rootIn root (tabs.length : Int)) (fun i _ => ((root.take i).all fun r => decide (-1 ≤ r) && decide (r ≤ (tabs.length : Int) - 1)) = true) ?_ ?_ 0 (Nat.zero_le _) () (by simp)
  · intro i s hi hs ih
    refine Ev.succ ?_
    simp only [spec_l08Tables.l2]
    have hrd : rd root (i : Int) = root.getD i 0 := rfl
    rw [hrd, wrap_succ hi (by omega), wrap_id (show -9223372036854775808 ≤ (tabs.length : Int) - 1 by omega) (by omega)]
    refine Ev.pos (by omega) (Ev.pos (by omega) (Ev.bindc (in_spec _ _ _) ?_))
    by_cases hin : (decide (-1 ≤ root.getD i 0) && decide (root.getD i 0 ≤ (tabs.length : Int) - 1)) = true
    · refine Ev.pos hin (ih () ?_)
      rw [take_succ root i 0 hi, List.all_append, hs, List.all_cons, hin]
      rfl
    · refine Ev.neg hin (Ev.some (Eq.symm (Bool.eq_false_iff.2 (fun hc => hin ?_))))
      unfold rootIn at hc
      exact List.all_eq_true.1 hc _ (getD_mem root i 0 hi)
  · intro s hs
    refine Ev.succ ?_
    simp only [spec_l08Tables.l2]
    rw [List.take_length] at hs
    exact Ev.neg (by omega) (Ev.some hs.symm)
theorem specTab_l1 (root : List Int) (tabs : List (List S37)) (buf : List S53) (hr : root.length ≤ 1048576) (i : Nat) (hi : i < tabs.length) (ht : tabs.length ≤ 1048576) (rn : Bool) (hn : Ev (fun k => spec_l08Tables.l0 k ((i + 1 : Nat) : Int) root tabs buf) rn) :
    Ev (fun k => spec_l08Tables.l1 k (i : Int) 0 0 root tabs buf) (tabAt root tabs i && rn) := by
  have key : ∀ e j (c : Nat), root.length - j = e → j ≤ root.length → c ≤ j → Ev (fun k => spec_l08Tables.l1 k (i : Int) (c : Int) (j : Int) root tabs buf) ((decide (c + (root.drop j).count (i : Int) = 1) && decide ((tabs.getD i []).length = 8)) && rn) := by
    intro e
    induction e with
    | zero =>
      intro j c he hj hc
      refine Ev.succ ?_
      simp only [spec_l08Tables.l1]
      have hd : root.drop j = [] := List.drop_eq_nil_of_le (by omega)
      rw [hd, List.count_nil, Nat.add_zero, wrap_succ hi (by omega)]
      refine Ev.neg (by omega) ?_
      by_cases h1 : c = 1
      · refine Ev.pos (by omega) (Ev.pos (by omega) (Ev.pos (by omega) ?_))
        by_cases h8 : (tabs.getD i []).length = 8
        · rw [decide_eq_true h1, decide_eq_true h8, Bool.true_and, Bool.true_and]
          exact Ev.pos (by show ((tabs.getD i []).length : Int) = 8; omega) hn
        · rw [decide_eq_false h8, Bool.and_false, Bool.false_and]
          exact Ev.neg (by show ¬ ((tabs.getD i []).length : Int) = 8; omega) (Ev.some rfl)
      · rw [decide_eq_false h1, Bool.false_and, Bool.false_and]
        exact Ev.neg (by omega) (Ev.some rfl)
    | succ e ih =>
      intro j c he hj hc
      refine Ev.succ ?_
      simp only [spec_l08Tables.l1]
      have hjl : j < root.length := by omega
      have hrd : rd root (j : Int) = root.getD j 0 := rfl
      rw [hrd, drop_cons root j 0 hjl, List.count_cons, wrap_succ hjl (by omega)]
      refine Ev.pos (by omega) (Ev.pos (by omega) ?_)
      by_cases hx : root.getD j 0 = (i : Int)
      · have := ih (j + 1) (c + 1) (by omega) (by omega) (by omega)
        rw [wrap_succ (show c < root.length by omega) (by omega)]
        refine Ev.pos hx ?_
        rw [hx, beq_self_eq_true, if_pos rfl, show c + (List.count (i : Int) (root.drop (j + 1)) + 1) = c + 1 + List.count (i : Int) (root.drop (j + 1)) by omega]
        exact this
      · refine Ev.neg hx ?_
        rw [if_neg (by simpa using hx), Nat.add_zero]
        exact ih (j + 1) c (by omega) (by omega) (by omega)
  have := key root.length 0 0 (by omega) (by omega) (by omega)
  rw [List.drop_zero, Nat.zero_add] at this
  exact this
theorem specTables_ev (root : List Int) (tabs : List (List S37)) (buf : List S53) (hr : root.length ≤ 1048576) (ht : tabs.length ≤ 1048576) : Ev (fun k => spec_l08Tables.f k root tabs buf) (tabS root tabs) := by
  have j0t : Ev (fun k => spec_l08Tables.j0 k true root tabs buf) false := by
    refine Ev.succ ?_
    simp only [spec_l08Tables.j0]
    exact Ev.pos (by simp) (Ev.some rfl)
  have l0 : ∀ d i, tabs.length - i = d → i ≤ tabs.length → Ev (fun k => spec_l08Tables.l0 k (i : Int) root tabs buf) (((List.range' i (tabs.length - i)).all (tabAt root tabs)) && rootIn root (tabs.length : Int)) := by
    intro d
    induction d with
    | zero =>
      intro i hd hi
      refine Ev.succ ?_
      simp only [spec_l08Tables.l0]
      rw [hd]
      exact Ev.neg (by omega) (specTabRoot_ev root tabs buf hr ht)
    | succ d ih =>
      intro i hd hi
      refine Ev.succ ?_
      simp only [spec_l08Tables.l0]
      have hn := ih (i + 1) (by omega) (by omega)
      rw [show tabs.length - (i + 1) = d by omega] at hn
      rw [hd, List.range'_succ, List.all_cons, Bool.and_assoc]
      exact Ev.pos (by omega) (specTab_l1 root tabs buf hr i (by omega) ht _ hn)
  unfold spec_l08Tables.f tabS
  by_cases h1 : (root.length : Int) = 8
  · refine Ev.pos h1 ?_
    rw [beq_iff_eq.2 h1, Bool.true_and]
    by_cases h2 : (tabs.length : Int) > 8
    · rw [decide_eq_true h2]
      exact j0t
    · rw [decide_eq_false h2, Bool.not_false, Bool.true_and]
      refine Ev.succ ?_
      simp only [spec_l08Tables.j0]
      refine Ev.neg (by simp) ?_
      have := l0 tabs.length 0 (by omega) (by omega)
      rw [Nat.sub_zero, ← List.range_eq_range'] at this
      exact this
  · refine Ev.neg h1 ?_
    rw [beq_eq_false_iff_ne.2 h1, Bool.false_and]
    exact j0t
def Rep (taken : List Bool) (F : List Int) : Prop := taken.length = 16 ∧ ∀ a : Int, 0 ≤ a → a < 16 → (rdOf false taken a = true ↔ a ∈ F)
theorem rep_start : Rep (List.replicate 16 false) [] := by
  refine ⟨by simp, fun a h0 h1 => ?_⟩
  have : rdOf false (List.replicate 16 false) a = false := by
    unfold rdOf
    rw [getD_lt _ _ _ (by rw [List.length_replicate]; omega), List.getElem_replicate]
  rw [this]
  simp
theorem rep_set {taken : List Bool} {F : List Int} (h : Rep taken F) (a : Int) (h0 : 0 ≤ a) (h1 : a < 16) : Rep (taken.set a.toNat true) (F ++ [a]) := by
  refine ⟨by rw [List.length_set]; exact h.1, fun b b0 b1 => ?_⟩
  have hb := h.2 b b0 b1
  have l16 := h.1
  by_cases e : b = a
  · subst e
    have : rdOf false (taken.set b.toNat true) b = true := by
      unfold rdOf
      rw [getD_lt _ _ _ (by rw [List.length_set]; omega)]
      simp
    rw [this]
    simp
  · have : rdOf false (taken.set a.toNat true) b = rdOf false taken b := by
      unfold rdOf
      rw [getD_lt _ _ _ (by rw [List.length_set]; omega), getD_lt _ _ _ (by omega), List.getElem_set_ne (by omega)]
    rw [this, hb, List.mem_append, List.mem_singleton]
    constructor
    · exact Or.inl
    · rintro (h_ | h_)
      · exact h_
      · exact absurd h_ e
def entsOk (tabs : List (List S37)) : Prop := ∀ t ∈ tabs, ∀ y ∈ t, entB y = true
theorem entries_ev (root : List Int) (tabs : List (List S37)) (buf : List S53) (bo : Bool) (h8 : tabs.length ≤ 8) (ht : ∀ t ∈ tabs, t.length = 8) (hbuf : Ev (fun k => spec_l08Is.l2 k 0 root tabs buf) bo) :
    ∀ d i taken F, tabs.length - i = d → i ≤ tabs.length → Rep taken F → F.Nodup → ∃ v, Ev (fun k => spec_l08Is.l0 k taken (i : Int) root tabs buf) v ∧ ((entsOk (tabs.drop i) ∧ (F ++ framesL (tabs.drop i)).Nodup) ∧ v = bo ∨ ¬ (entsOk (tabs.drop i) ∧ (F ++ framesL (tabs.drop i)).Nodup) ∧ v = false) := by
  intro d
  induction d with
  | zero =>
    intro i taken F hd hi hrep hn
    refine ⟨bo, ?_, Or.inl ⟨⟨?_, ?_⟩, rfl⟩⟩
    · refine Ev.succ ?_
      simp only [spec_l08Is.l0]
      exact Ev.neg (by omega) hbuf
    · rw [List.drop_eq_nil_of_le (by omega)]
      intro t ht'
      simp at ht'
    · rw [List.drop_eq_nil_of_le (by omega)]
      simpa [framesL] using hn
  | succ d ih =>
    intro i taken F hd hi hrep hn
    have hlt : i < tabs.length := by omega
    have hm : (tabs.getD i []).length = 8 := ht _ (by rw [getD_lt tabs i [] hlt]; exact List.getElem_mem _)
    have hdr := drop_cons tabs i [] hlt
    have hfl : framesL (tabs.drop i) = framesT (tabs.getD i []) ++ framesL (tabs.drop (i + 1)) := by
      rw [hdr]; unfold framesL; rw [List.map_cons, List.flatten_cons]
    have hen : entsOk (tabs.drop i) ↔ (∀ y ∈ tabs.getD i [], entB y = true) ∧ entsOk (tabs.drop (i + 1)) := by
      rw [hdr]; unfold entsOk; simp
    rw [hfl]
    have inner : ∀ (e j : Nat) (taken : List Bool) (F : List Int), 8 - j = e → j ≤ 8 → Rep taken F → F.Nodup → ∃ v, Ev (fun k => spec_l08Is.l1 k taken (i : Int) (j : Int) root tabs buf) v ∧
        (((∀ y ∈ (tabs.getD i []).drop j, entB y = true) ∧ entsOk (tabs.drop (i + 1)) ∧ (F ++ (framesT ((tabs.getD i []).drop j) ++ framesL (tabs.drop (i + 1)))).Nodup) ∧ v = bo ∨
          ¬ ((∀ y ∈ (tabs.getD i []).drop j, entB y = true) ∧ entsOk (tabs.drop (i + 1)) ∧ (F ++ (framesT ((tabs.getD i []).drop j) ++ framesL (tabs.drop (i + 1)))).Nodup) ∧ v = false) := by
      intro e
      induction e with
      | zero =>
        intro j taken F he hj hrep hn
        obtain ⟨v, hv, hw⟩ := ih (i + 1) taken F (by omega) (by omega) hrep hn
        refine ⟨v, ?_, ?_⟩
        · refine Ev.succ ?_
          simp only [spec_l08Is.l1]
          rw [wrap_succ hlt (by omega)]
          exact Ev.neg (by omega) hv
        · rw [List.drop_eq_nil_of_le (show (tabs.getD i []).length ≤ j by omega)]
          simpa [framesT] using hw
      | succ e ihe =>
        intro j taken F he hj hrep hn
        have hjl : j < (tabs.getD i []).length := by omega
        have hdj := drop_cons (tabs.getD i []) j z37 hjl
        obtain ⟨y, hy⟩ : ∃ y, y = (tabs.getD i []).getD j z37 := ⟨_, rfl⟩
        have hl16 := hrep.1
        have step : ∀ v, Ev (fun k => spec_l08Is.j3 k taken (i : Int) (j : Int) (decide (y.f0 = -1) && (!y.f1 && (!y.f2 && !y.f3))) root tabs buf y.f0 y.f1 y.f2 y.f3) v → Ev (fun k => spec_l08Is.l1 k taken (i : Int) (j : Int) root tabs buf) v := by
          intro v hv
          refine Ev.succ ?_
          simp only [spec_l08Is.l1]
          refine Ev.pos (by omega) (Ev.pos (by omega) (Ev.pos (by omega) (Ev.pos (by omega) (Ev.pos (by show (j : Int) < ((tabs.getD i []).length : Int); omega) ?_))))
          have hy' : rd_T37 (tabs.getD i []) (j : Int) = y := by rw [hy]; rfl
          change Ev (fun n => if (rd_T37 (tabs.getD i []) (j : Int)).f0 = -1 then (if (rd_T37 (tabs.getD i []) (j : Int)).f1 = true then spec_l08Is.j3 n taken (i : Int) (j : Int) false root tabs buf (rd_T37 (tabs.getD i []) (j : Int)).f0 (rd_T37 (tabs.getD i []) (j : Int)).f1 (rd_T37 (tabs.getD i []) (j : Int)).f2 (rd_T37 (tabs.getD i []) (j : Int)).f3 else (if (rd_T37 (tabs.getD i []) (j : Int)).f2 = true then spec_l08Is.j3 n taken (i : Int) (j : Int) false root tabs buf (rd_T37 (tabs.getD i []) (j : Int)).f0 (rd_T37 (tabs.getD i []) (j : Int)).f1 (rd_T37 (tabs.getD i []) (j : Int)).f2 (rd_T37 (tabs.getD i []) (j : Int)).f3 else spec_l08Is.j3 n taken (i : Int) (j : Int) (!(rd_T37 (tabs.getD i []) (j : Int)).f3) root tabs buf (rd_T37 (tabs.getD i []) (j : Int)).f0 (rd_T37 (tabs.getD i []) (j : Int)).f1 (rd_T37 (tabs.getD i []) (j : Int)).f2 (rd_T37 (tabs.getD i []) (j : Int)).f3)) else spec_l08Is.j3 n taken (i : Int) (j : Int) false root tabs buf (rd_T37 (tabs.getD i []) (j : Int)).f0 (rd_T37 (tabs.getD i []) (j : Int)).f1 (rd_T37 (tabs.getD i []) (j : Int)).f2 (rd_T37 (tabs.getD i []) (j : Int)).f3) v
          rw [hy']
          by_cases c0 : y.f0 = -1
          · refine Ev.pos c0 ?_
            rw [decide_eq_true c0, Bool.true_and] at hv
            cases c1 : y.f1 with
            | true =>
              rw [c1] at hv
              exact Ev.pos rfl hv
            | false =>
              rw [c1] at hv
              refine Ev.neg (by simp) ?_
              cases c2 : y.f2 with
              | true =>
                rw [c2] at hv
                exact Ev.pos rfl hv
              | false =>
                rw [c2] at hv
                exact Ev.neg (by simp) hv
          · rw [decide_eq_false c0, Bool.false_and] at hv
            exact Ev.neg c0 hv
        rw [hdj, ← hy]
        by_cases ce : (decide (y.f0 = -1) && (!y.f1 && (!y.f2 && !y.f3))) = true
        · obtain ⟨v, hv, hw⟩ := ihe (j + 1) taken F (by omega) (by omega) hrep hn
          have c0 : y.f0 = -1 := of_decide_eq_true (Bool.and_eq_true _ _ ▸ ce).1
          have heb : entB y = true := by
            unfold entB
            rw [if_pos c0]
            exact (Bool.and_eq_true _ _ ▸ ce).2
          refine ⟨v, step v ?_, ?_⟩
          · rw [ce]
            refine Ev.succ ?_
            simp only [spec_l08Is.j3]
            rw [wrap_succ (show j < 8 by omega) (by omega)]
            exact Ev.pos (by simp) hv
          · rw [framesT_cons, if_neg (by omega)]
            simpa [heb] using hw
        · have ce' := Bool.eq_false_iff.2 ce
          have bad : entB y = false → ∃ v, Ev (fun k => spec_l08Is.j3 k taken (i : Int) (j : Int) false root tabs buf y.f0 y.f1 y.f2 y.f3) false → Ev (fun k => spec_l08Is.l1 k taken (i : Int) (j : Int) root tabs buf) v ∧
              (((∀ z ∈ y :: (tabs.getD i []).drop (j + 1), entB z = true) ∧ entsOk (tabs.drop (i + 1)) ∧ (F ++ (framesT (y :: (tabs.getD i []).drop (j + 1)) ++ framesL (tabs.drop (i + 1)))).Nodup) ∧ v = bo ∨
                ¬ ((∀ z ∈ y :: (tabs.getD i []).drop (j + 1), entB z = true) ∧ entsOk (tabs.drop (i + 1)) ∧ (F ++ (framesT (y :: (tabs.getD i []).drop (j + 1)) ++ framesL (tabs.drop (i + 1)))).Nodup) ∧ v = false) := fun hb =>
            ⟨false, fun hj3 => ⟨step false (by rw [ce']; exact hj3), Or.inr ⟨fun hA => (by have h_ := hA.1 y List.mem_cons_self; rw [hb] at h_; cases h_), rfl⟩⟩⟩
          have j3s : ∀ v, Ev (fun k => (spec_l08Frame.f y.f0).bind fun t121 => (if t121 = true then (if 0 ≤ y.f0 then (if y.f0 < (taken.length : Int) then (if rdOf false taken y.f0 = true then (some false) else (if y.f3 = true then (if y.f2 = true then (spec_l08Is.l1 k (taken.set (y.f0 : Int).toNat true) (i : Int) (wrap64 ((j : Int) + 1)) root tabs buf) else (some false)) else (spec_l08Is.l1 k (taken.set (y.f0 : Int).toNat true) (i : Int) (wrap64 ((j : Int) + 1)) root tabs buf))) else (none)) else (none)) else (some false))) v → Ev (fun k => spec_l08Is.j3 k taken (i : Int) (j : Int) false root tabs buf y.f0 y.f1 y.f2 y.f3) v := by
            intro v hv
            refine Ev.succ ?_
            simp only [spec_l08Is.j3]
            exact Ev.neg (by simp) hv
          have hframe : spec_l08Frame.f y.f0 = some (decide (0 ≤ y.f0) && decide (y.f0 ≤ 15)) := by
            unfold spec_l08Frame.f
            rw [in_spec]
            rfl
          by_cases fr : (decide (0 ≤ y.f0) && decide (y.f0 ≤ 15)) = true
          · have f0 : 0 ≤ y.f0 := of_decide_eq_true (Bool.and_eq_true _ _ ▸ fr).1
            have f1 : y.f0 ≤ 15 := of_decide_eq_true (Bool.and_eq_true _ _ ▸ fr).2
            have hmem := hrep.2 y.f0 f0 (by omega)
            have heb : entB y = (y.f2 || !y.f3) := by
              unfold entB
              rw [if_neg (by omega), fr, Bool.true_and]
            have hft : framesT (y :: (tabs.getD i []).drop (j + 1)) = y.f0 :: framesT ((tabs.getD i []).drop (j + 1)) := by rw [framesT_cons, if_pos f0]
            by_cases tk : rdOf false taken y.f0 = true
            · refine ⟨false, step false ?_, Or.inr ⟨fun hA => ?_, rfl⟩⟩
              · rw [ce']
                exact j3s _ (Ev.bindc hframe (Ev.pos fr (Ev.pos f0 (Ev.pos (by omega) (Ev.pos tk (Ev.some rfl))))))
              · have hn' := hA.2.2
                rw [hft] at hn'
                exact (List.nodup_append.1 hn').2.2 y.f0 (hmem.1 tk) y.f0 (by simp) rfl
            · have hnF : y.f0 ∉ F := fun h_ => tk (hmem.2 h_)
              by_cases ok : (y.f2 || !y.f3) = true
              · obtain ⟨v, hv, hw⟩ := ihe (j + 1) (taken.set y.f0.toNat true) (F ++ [y.f0]) (by omega) (by omega) (rep_set hrep y.f0 f0 (by omega)) (by rw [List.nodup_append]; exact ⟨hn, by simp, fun a ha b hb e => by rw [List.mem_singleton] at hb; subst hb; subst e; exact hnF ha⟩)
                refine ⟨v, step v ?_, ?_⟩
                · rw [ce']
                  refine j3s _ (Ev.bindc hframe (Ev.pos fr (Ev.pos f0 (Ev.pos (by omega) (Ev.neg tk ?_)))))
                  rw [wrap_succ (show j < 8 by omega) (by omega)]
                  by_cases h3 : y.f3 = true
                  · have h2 : y.f2 = true := by rw [h3] at ok; simpa using ok
                    exact Ev.pos h3 (Ev.pos h2 hv)
                  · exact Ev.neg h3 hv
                · rw [hft]
                  simpa [heb, ok] using hw
              · obtain ⟨v, hv⟩ := bad (by rw [heb]; exact Bool.eq_false_iff.2 ok)
                refine ⟨v, hv ?_⟩
                refine j3s _ (Ev.bindc hframe (Ev.pos fr (Ev.pos f0 (Ev.pos (by omega) (Ev.neg tk ?_)))))
                have h3 : y.f3 = true := by cases h_ : y.f3 with | true => rfl | false => rw [h_] at ok; simp at ok
                have h2 : ¬ y.f2 = true := fun h_ => ok (by rw [h_]; rfl)
                exact Ev.pos h3 (Ev.neg h2 (Ev.some rfl))
          · obtain ⟨v, hv⟩ := bad (by
              unfold entB
              by_cases c0 : y.f0 = -1
              · rw [if_pos c0]
                rw [decide_eq_true c0, Bool.true_and] at ce'
                exact ce'
              · rw [if_neg c0, Bool.eq_false_iff.2 fr, Bool.false_and])
            exact ⟨v, hv (j3s _ (Ev.bindc hframe (Ev.neg fr (Ev.some rfl))))⟩
    obtain ⟨v, hv, hw⟩ := inner 8 0 taken F (by omega) (by omega) hrep hn
    refine ⟨v, ?_, ?_⟩
    · refine Ev.succ ?_
      simp only [spec_l08Is.l0]
      exact Ev.pos (by omega) hv
    · rw [List.drop_zero] at hw
      rw [hen]
      simpa [and_assoc] using hw
theorem specFind_ev (l : List S53) (x : Int) (h : l.length ≤ 1048576) : Ev (fun k => spec_l08Find.f k l x) (xIdx (fun c : S53 => decide (c.f0 = x)) l 0) := by
  unfold spec_l08Find.f
  have key : ∀ d i, l.length - i = d → i ≤ l.length → Ev (fun k => spec_l08Find.l0 k l x (i : Int)) (xIdx (fun c : S53 => decide (c.f0 = x)) (l.drop i) (i : Int)) := by
    intro d
    induction d with
    | zero =>
      intro i hd hi
      refine Ev.succ ?_
      simp only [spec_l08Find.l0]
      rw [xIdx_drop_end _ _ _ (by omega)]
      exact Ev.neg (by omega) (Ev.some rfl)
    | succ d ih =>
      intro i hd hi
      have hlt : i < l.length := by omega
      refine Ev.succ ?_
      simp only [spec_l08Find.l0]
      have hrd : rd_T53 l (i : Int) = l.getD i z53 := rfl
      rw [hrd, wrap_succ hlt (by omega)]
      refine Ev.pos (by omega) (Ev.pos (by omega) ?_)
      by_cases hx : (l.getD i z53).f0 = x
      · rw [xIdx_drop_hit _ l i z53 hlt _ (decide_eq_true hx)]
        exact Ev.pos hx (Ev.some rfl)
      · rw [xIdx_drop_miss _ l i z53 hlt _ (decide_eq_false hx)]
        refine Ev.neg hx ?_
        have := ih (i + 1) (by omega) (by omega)
        simpa using this
  have := key l.length 0 (by omega) (by omega)
  simpa using this
theorem specAddr2_f (a : Int) : spec_l02Address.f a = some (decide (0 ≤ a) && decide (a ≤ 63)) := by
  unfold spec_l02Address.f
  rw [in_spec]
  rfl
theorem specFrame2_f (a : Int) : spec_l08Frame.f a = some (decide (0 ≤ a) && decide (a ≤ 15)) := by
  unfold spec_l08Frame.f
  rw [in_spec]
  rfl
theorem specBuf_ev (root : List Int) (tabs : List (List S37)) (buf : List S53) (h : buf.length ≤ 1048576) : Ev (fun k => spec_l08Is.l2 k 0 root tabs buf) (!((List.range buf.length).any (badAt buf))) := by
  refine Ev.upto (F := fun k (_ : Unit) i => spec_l08Is.l2 k i root tabs buf) (n := buf.length) (r := !((List.range buf.length).any (badAt buf))) (fun i _ => ∀ j, j < i → badAt buf j = false) ?_ ?_ 0 (Nat.zero_le _) () (fun j hj => absurd hj (Nat.not_lt_zero j))
  · intro i s hi hs ih
    refine Ev.succ ?_
    simp only [spec_l08Is.l2]
    have hrd : rd_T53 buf (i : Int) = buf.getD i z53 := rfl
    rw [hrd, Int.toNat_natCast, wrap_succ hi (by omega)]
    have fin : badAt buf i = true → (!((List.range buf.length).any (badAt buf))) = false := fun hb => by
      rw [List.any_eq_true.2 ⟨i, List.mem_range.2 hi, hb⟩]; rfl
    refine Ev.pos (by omega) (Ev.pos (by omega) (Ev.bindc (specAddr2_f _) ?_))
    by_cases ha : (decide (0 ≤ (buf.getD i z53).f0) && decide ((buf.getD i z53).f0 ≤ 63)) = true
    · refine Ev.pos ha (Ev.bindc (specFrame2_f _) ?_)
      by_cases hf : (decide (0 ≤ (buf.getD i z53).f1) && decide ((buf.getD i z53).f1 ≤ 15)) = true
      · refine Ev.pos hf (Ev.pos (by omega) (Ev.bind (specFind_ev _ _ (by rw [List.length_take]; omega)) ?_))
        by_cases hq : xIdx (fun c : S53 => decide (c.f0 = (buf.getD i z53).f0)) (buf.take i) 0 ≥ 0
        · refine Ev.pos hq (Ev.some (Eq.symm (fin ?_)))
          unfold badAt
          rw [ha, hf, decide_eq_true hq]
          rfl
        · refine Ev.neg hq (ih () (fun j hj => ?_))
          by_cases e : j = i
          · subst e
            unfold badAt
            rw [ha, hf, decide_eq_false hq]
            rfl
          · exact hs j (by omega)
      · refine Ev.neg hf (Ev.some (Eq.symm (fin ?_)))
        unfold badAt
        rw [Bool.eq_false_iff.2 hf, ha]
        rfl
    · refine Ev.neg ha (Ev.some (Eq.symm (fin ?_)))
      unfold badAt
      rw [Bool.eq_false_iff.2 ha]
      rfl
  · intro s hs
    refine Ev.succ ?_
    simp only [spec_l08Is.l2]
    refine Ev.neg (by omega) (Ev.some (Eq.symm ?_))
    rw [List.any_eq_false.2 (fun i hi => by rw [hs i (List.mem_range.1 hi)]; simp)]
    rfl
theorem set_nodup (t : List Int) (h : (setI t).length = t.length) : t.Nodup := by
  have hp := sortI_perm t
  refine hp.nodup_iff.1 ?_
  have hs := sortI_le t
  have hl : (setI t).length = (sortI t).length := by rw [h, sortI_length]
  unfold setI Lib.compact Lib.compactUpTo at hl
  rw [List.length_map] at hl
  generalize sortI t = z at hs hl
  have hk : ∀ j, j < z.length → Lib.keeps z.toArray j = true := by
    have e : ((List.range z.length).filter (Lib.keeps z.toArray)).length = (List.range z.length).length := by rw [hl, List.length_range]
    intro j hj
    exact List.length_filter_eq_length_iff.1 e j (List.mem_range.2 hj)
  unfold List.Nodup
  rw [List.pairwise_iff_getElem]
  intro i j hi hj hij e
  have hne : z.toArray[j]! ≠ z.toArray[j - 1]! := by
    intro e2
    have h2 := hk j hj
    rw [Lib.keeps_neg (d := z.toArray) (m := j) (by omega) e2] at h2
    cases h2
  have e1 : z.toArray[j]! = z[j] := by simp [hj]
  have e2 : z.toArray[j - 1]! = z[j - 1] := by
    have : j - 1 < z.length := by omega
    simp [this]
  rw [e1, e2] at hne
  have le1 : z[i] ≤ z[j - 1] := by
    by_cases c : i = j - 1
    · subst c; exact Int.le_refl _
    · exact List.pairwise_iff_getElem.1 hs i (j - 1) hi (by omega) (by omega)
  have le2 : z[j - 1] ≤ z[j] := List.pairwise_iff_getElem.1 hs (j - 1) j (by omega) hj (by omega)
  omega
theorem nodup_set (t : List Int) (h : t.Nodup) : (setI t).length = t.length := by
  have hp := sortI_perm t
  have hn : (sortI t).Nodup := hp.nodup_iff.2 h
  have hlt : (sortI t).Pairwise (· < ·) := (List.Pairwise.and (sortI_le t) hn).imp (fun h => by omega)
  have e : setI t = sortI t := rising_ext (setI_lt t) hlt (fun x => by rw [mem_setI]; exact hp.mem_iff.symm)
  rw [e, sortI_length]
theorem upTo_mem (n : Nat) (x : Int) : x ∈ ((List.range n).map fun (j : Nat) => (j : Int)) ↔ 0 ≤ x ∧ x < (n : Int) := by
  rw [List.mem_map]
  constructor
  · rintro ⟨j, hj, rfl⟩
    rw [List.mem_range] at hj
    omega
  · rintro ⟨h0, h1⟩
    exact ⟨x.toNat, List.mem_range.2 (by omega), by omega⟩
theorem upTo_nodup (n : Nat) : ((List.range n).map fun (j : Nat) => (j : Int)).Nodup := by
  unfold List.Nodup
  rw [List.pairwise_map]
  exact List.Pairwise.imp (fun h => by omega) (List.pairwise_lt_range (n := n))
theorem used_mem (root : List Int) (x : Int) : x ∈ usedL root ↔ x ∈ root ∧ x ≠ -1 := by
  unfold usedL
  rw [List.mem_filter]
  by_cases h : x = -1 <;> simp [h]
theorem used_count (root : List Int) (x : Int) (h : x ≠ -1) : (usedL root).count x = root.count x := by
  unfold usedL
  exact List.count_filter (by rw [decide_eq_false h]; rfl)
theorem order_counts (root : List Int) (n : Nat) : orderB (usedL root) (n : Int) = true ↔ (∀ k, k < n → root.count (k : Int) = 1) ∧ rootIn root (n : Int) = true := by
  constructor
  · intro h
    obtain ⟨h1, h2, h3⟩ := (orderB_iff _ _).1 h
    have hs : sortI (usedL root) = (List.range (usedL root).length).map fun (j : Nat) => (j : Int) := by
      unfold orderB at h
      rw [Bool.and_eq_true] at h
      exact of_decide_eq_true h.2
    refine ⟨fun k hk => ?_, ?_⟩
    · have hm : (k : Int) ∈ usedL root := by
        refine (sortI_perm (usedL root)).mem_iff.1 ?_
        rw [hs]
        exact (upTo_mem _ _).2 (by omega)
      rw [← used_count root (k : Int) (by omega), h3.count, if_pos hm]
    · unfold rootIn
      rw [List.all_eq_true]
      intro r hr
      by_cases e : r = -1
      · subst e
        rw [decide_eq_true (by omega), decide_eq_true (by omega)]
        rfl
      · have := h2 r ((used_mem root r).2 ⟨hr, e⟩)
        rw [decide_eq_true (by omega), decide_eq_true (by omega)]
        rfl
  · rintro ⟨h1, h2⟩
    unfold rootIn at h2
    have hin : ∀ x ∈ usedL root, 0 ≤ x ∧ x ≤ (n : Int) - 1 := by
      intro x hx
      obtain ⟨hx1, hx2⟩ := (used_mem root x).1 hx
      have := List.all_eq_true.1 h2 x hx1
      simp only [Bool.and_eq_true, decide_eq_true_eq] at this
      omega
    have hnd : (usedL root).Nodup := by
      rw [List.nodup_iff_count]
      intro a
      by_cases ha : a ∈ usedL root
      · obtain ⟨a0, a1⟩ := hin a ha
        have := h1 a.toNat (by omega)
        rw [Int.toNat_of_nonneg a0] at this
        rw [used_count root a (by omega), this]
        exact Nat.le_refl _
      · rw [List.count_eq_zero.2 ha]
        omega
    have hle : (usedL root).length ≤ n := by
      have := hnd.length_le_of_subset (l₂ := (List.range n).map fun (j : Nat) => (j : Int)) (fun x hx => (upTo_mem n x).2 (by have := hin x hx; omega))
      simpa using this
    have hge : n ≤ (usedL root).length := by
      have := (upTo_nodup n).length_le_of_subset (l₂ := usedL root) (fun x hx => by
        obtain ⟨x0, x1⟩ := (upTo_mem n x).1 hx
        have h_ := h1 x.toNat (by omega)
        rw [Int.toNat_of_nonneg x0, ← used_count root x (by omega)] at h_
        exact List.count_pos_iff.1 (by omega))
      simpa using this
    exact (orderB_iff _ _).2 ⟨by omega, hin, hnd⟩
theorem badT_false (t : List S37) : badT t = false ↔ t.length = 8 ∧ ∀ y ∈ t, entB y = true := by
  unfold badT
  rw [Bool.or_eq_false_iff, List.any_eq_false]
  constructor
  · rintro ⟨h1, h2⟩
    refine ⟨?_, fun y hy => ?_⟩
    · have : ((t.length : Int) == 8) = true := by simpa using h1
      have := beq_iff_eq.1 this
      omega
    · have := h2 y hy
      simpa using this
  · rintro ⟨h1, h2⟩
    refine ⟨?_, fun y hy => ?_⟩
    · rw [beq_iff_eq.2 (show (t.length : Int) = 8 by omega)]; rfl
    · rw [h2 y hy]; simp
theorem tabS_iff (root : List Int) (tabs : List (List S37)) : tabS root tabs = true ↔ (root.length = 8 ∧ tabs.length ≤ 8 ∧ orderB (usedL root) (tabs.length : Int) = true) ∧ ∀ t ∈ tabs, t.length = 8 := by
  unfold tabS
  rw [Bool.and_eq_true, Bool.and_eq_true, Bool.and_eq_true, beq_iff_eq, Bool.not_eq_true', decide_eq_false_iff_not, List.all_eq_true, order_counts]
  constructor
  · rintro ⟨h1, h2, h3, h4⟩
    have h3' : ∀ k, k < tabs.length → root.count (k : Int) = 1 ∧ (tabs.getD k []).length = 8 := fun k hk => by
      have := h3 k (List.mem_range.2 hk)
      unfold tabAt at this
      rw [Bool.and_eq_true] at this
      exact ⟨of_decide_eq_true this.1, of_decide_eq_true this.2⟩
    refine ⟨⟨by omega, by omega, fun k hk => (h3' k hk).1, h4⟩, fun t ht => ?_⟩
    obtain ⟨k, hk, rfl⟩ := List.getElem_of_mem ht
    have := (h3' k hk).2
    rwa [getD_lt tabs k [] hk] at this
  · rintro ⟨⟨h1, h2, h3, h4⟩, h5⟩
    refine ⟨by omega, by omega, fun k hk => ?_, h4⟩
    have hk' := List.mem_range.1 hk
    unfold tabAt
    rw [h3 k hk', h5 _ (by rw [getD_lt tabs k [] hk']; exact List.getElem_mem _)]
    rfl
theorem condB_iff (root : List Int) (tabs : List (List S37)) (buf : List S53) : condB root tabs buf = true ↔ (root.length = 8 ∧ tabs.length ≤ 8 ∧ orderB (usedL root) (tabs.length : Int) = true) ∧ buf.length ≤ 4 := by
  unfold condB
  rw [Bool.and_eq_true, Bool.and_eq_true, Bool.and_eq_true, beq_iff_eq, Bool.not_eq_true', decide_eq_false_iff_not, Bool.not_eq_true', decide_eq_false_iff_not]
  constructor
  · rintro ⟨h1, h2, h3, h4⟩
    exact ⟨⟨by omega, by omega, h3⟩, by omega⟩
  · rintro ⟨⟨h1, h2, h3⟩, h4⟩
    exact ⟨by omega, by omega, h3, by omega⟩
theorem specIsSpace_ev (root : List Int) (tabs : List (List S37)) (buf : List S53) (hr : root.length ≤ 1048576) (ht : tabs.length ≤ 1048576) (hb : buf.length ≤ 1048576) : Ev (fun k => spec_l08Is.f k root tabs buf) (spaceB root tabs buf) := by
  have j0t : Ev (fun k => spec_l08Is.j0 k true root tabs buf) false := by
    refine Ev.succ ?_
    simp only [spec_l08Is.j0]
    exact Ev.pos (by simp) (Ev.some rfl)
  unfold spec_l08Is.f
  refine Ev.bind (specTables_ev root tabs buf hr ht) ?_
  by_cases T : tabS root tabs = true
  · refine Ev.pos T ?_
    obtain ⟨tc, t8⟩ := (tabS_iff root tabs).1 T
    by_cases B : (buf.length : Int) > 4
    · rw [decide_eq_true B]
      have : spaceB root tabs buf = false := by
        unfold spaceB
        have : condB root tabs buf = false := Bool.eq_false_iff.2 (fun hc => by have := ((condB_iff _ _ _).1 hc).2; omega)
        rw [this, Bool.false_and]
      rw [this]
      exact j0t
    · rw [decide_eq_false B]
      have hc : condB root tabs buf = true := (condB_iff _ _ _).2 ⟨tc, by omega⟩
      obtain ⟨v, hv, hw⟩ := entries_ev root tabs buf _ tc.2.1 t8 (specBuf_ev root tabs buf hb) tabs.length 0 (List.replicate 16 false) [] (by omega) (by omega) rep_start List.nodup_nil
      rw [List.drop_zero, List.nil_append] at hw
      have hs : spaceB root tabs buf = v := by
        unfold spaceB restB
        rw [hc, Bool.true_and]
        rcases hw with ⟨⟨h1, h2⟩, rfl⟩ | ⟨h1, rfl⟩
        · have e1 : tabs.any badT = false := List.any_eq_false.2 (fun t ht' => by rw [(badT_false t).2 ⟨t8 t ht', h1 t ht'⟩]; simp)
          have e2 : (((setI (framesL tabs)).length : Int) == ((framesL tabs).length : Int)) = true := by rw [beq_iff_eq, nodup_set _ h2]
          rw [e1, e2, Bool.and_true]
          rfl
        · refine Bool.eq_false_iff.2 (fun hA => h1 ?_)
          simp only [Bool.and_eq_true, Bool.not_eq_true', beq_iff_eq] at hA
          obtain ⟨a1, a2, a3⟩ := hA
          refine ⟨fun t ht' => ((badT_false t).1 ?_).2, set_nodup _ (by omega)⟩
          have := List.any_eq_false.1 a1 t ht'
          simpa using this
      rw [hs]
      refine Ev.succ ?_
      simp only [spec_l08Is.j0]
      exact Ev.neg (by simp) (Ev.pos (by decide) hv)
  · refine Ev.neg T ?_
    have : spaceB root tabs buf = false := Bool.eq_false_iff.2 (fun hA => T ?_)
    · rw [this]; exact j0t
    · unfold spaceB restB at hA
      rw [Bool.and_eq_true, Bool.and_eq_true, Bool.not_eq_true'] at hA
      refine (tabS_iff root tabs).2 ⟨((condB_iff _ _ _).1 hA.1).1, fun t ht' => ((badT_false t).1 ?_).1⟩
      have := List.any_eq_false.1 hA.2.1 t ht'
      simpa using this
def wk : Option S37 → Int × Bool × Bool × Bool
  | none => (-1, false, false, false)
  | some y => (y.f0, y.f1, y.f2, y.f3)
theorem specWalk_f (root : List Int) (tabs : List (List S37)) (buf : List S53) (p : Int) (h0 : 0 ≤ p) (h1 : p < 64) (h8 : root.length = 8) (hin : ∀ r ∈ root, r < (tabs.length : Int)) (ht : ∀ t ∈ tabs, t.length = 8) :
    spec_l08Walk.f root tabs buf p = some (wk (walkE root tabs p)) := by
  have e1 : wrap64 (Int.tdiv p 8) = p / 8 := by rw [Int.tdiv_eq_ediv_of_nonneg h0]; exact wrap_id (by omega) (by omega)
  have e2 : Int.tmod p 8 = p % 8 := Int.tmod_eq_emod_of_nonneg h0
  have hm : rd root (p / 8) ∈ root := by unfold rd; rw [getD_lt root _ 0 (by omega)]; exact List.getElem_mem _
  have h2 := hin _ hm
  unfold spec_l08Walk.f walkE
  rw [e1, e2]
  refine (if_pos (by omega)).trans ((if_pos (by omega)).trans ?_)
  by_cases hn : rd root (p / 8) < 0
  · refine (if_pos hn).trans ?_
    rw [if_pos hn]
    rfl
  · refine (if_neg hn).trans ?_
    rw [if_neg hn]
    have hl : (rd root (p / 8)).toNat < tabs.length := by omega
    have hr : (tabs.getD (rd root (p / 8)).toNat []).length = 8 := ht _ (by rw [getD_lt tabs _ _ hl]; exact List.getElem_mem _)
    refine (if_pos (by omega)).trans ((if_pos (by omega)).trans ((if_pos (by omega)).trans ((if_pos ?_).trans ?_)))
    · show p % 8 < ((tabs.getD (rd root (p / 8)).toNat []).length : Int)
      rw [hr]; omega
    · rfl
theorem szSpace_ev (r : List Int) (t : List (List S93)) (b : List S82) (a : Int) (h0 : 0 ≤ a) (h1 : a ≤ 1048576) (hr : r.length ≤ 9223372036854775807) (ht : t.length ≤ 9223372036854775807) (hi : ∀ x ∈ t, x.length ≤ 9223372036854775807) (hb : b.length ≤ 9223372036854775807) :
    Ev (fun k => laws_szSpace.f k r t b a) (if a < (r.length : Int) + ((t.length : Int) + (sumLen t : Int)) + b.length then -1 else a - ((r.length : Int) + ((t.length : Int) + (sumLen t : Int)) + b.length)) := by
  unfold laws_szSpace.f
  refine Ev.bindc (szInt64S_f r a h0 h1 hr) ?_
  by_cases q0 : a < r.length
  · rw [if_pos q0]
    exact Ev.pos (by omega) (Ev.some (by rw [if_pos (by omega)]))
  rw [if_neg q0]
  refine Ev.neg (by omega) (Ev.bind (szEntrySS_ev t _ (by omega) (by omega) ht hi) ?_)
  by_cases q1 : a - r.length < (t.length : Int) + (sumLen t : Int)
  · rw [if_pos q1]
    exact Ev.pos (by omega) (Ev.some (by rw [if_pos (by omega)]))
  rw [if_neg q1]
  refine Ev.neg (by omega) (Ev.bindc (szCachedS_f b _ (by omega) (by omega) hb) ?_)
  by_cases q2 : a - r.length - ((t.length : Int) + (sumLen t : Int)) < b.length
  · rw [if_pos q2]
    exact Ev.pos (by omega) (Ev.some (by rw [if_pos (by omega)]))
  rw [if_neg q2]
  exact Ev.neg (by omega) (Ev.some (by rw [if_neg (by omega)]; omega))
theorem eqSpace_ev (r : List Int) (t : List (List S37)) (b : List S53) (hr : r.length ≤ 1048576) (ht : t.length ≤ 1048576) (hi : ∀ x ∈ t, x.length ≤ 1048576) (hb : b.length ≤ 1048576) : Ev (fun k => laws_eqSpace.f k r t b r t b) true := by
  unfold laws_eqSpace.f
  exact Ev.bind (eqInt64S_ev r hr) (Ev.pos rfl (Ev.bind (eqEntrySS_ev t ht hi) (Ev.pos rfl (Ev.bind (eqCachedS_ev b hb) (Ev.pos rfl (Ev.some rfl))))))
theorem specHas_ev (l : List Int) (x : Int) (h : l.length ≤ 1048576) : Ev (fun k => spec_l00Has.f k l x) (l.any fun y => decide (y = x)) := by
  unfold spec_l00Has.f
  have key : ∀ d i, l.length - i = d → i ≤ l.length → Ev (fun k => spec_l00Has.l0 k l x (i : Int)) ((l.drop i).any fun y => decide (y = x)) := by
    intro d
    induction d with
    | zero =>
      intro i hd hi
      refine Ev.succ ?_
      simp only [spec_l00Has.l0]
      refine Ev.neg (by omega) (Ev.some ?_)
      rw [List.drop_eq_nil_of_le (by omega)]
      rfl
    | succ d ih =>
      intro i hd hi
      refine Ev.succ ?_
      simp only [spec_l00Has.l0]
      refine Ev.pos (by omega) (Ev.pos (by omega) ?_)
      have hrd : rd l (i : Int) = l.getD i 0 := rfl
      rw [drop_cons l i 0 (by omega), List.any_cons, hrd, wrap_succ (show i < l.length by omega) (by omega)]
      by_cases hx : l.getD i 0 = x
      · exact Ev.pos hx (Ev.some (by rw [decide_eq_true hx]; rfl))
      · refine Ev.neg hx ?_
        have := ih (i + 1) (by omega) (by omega)
        rw [decide_eq_false hx, Bool.false_or]
        exact this
  have := key l.length 0 (by omega) (by omega)
  simpa using this
theorem specMapped_ev (root : List Int) (tabs : List (List S37)) (buf : List S53) (h8 : root.length = 8) (hin : ∀ r ∈ root, r < (tabs.length : Int)) (ht : ∀ t ∈ tabs, t.length = 8) : Ev (fun k => spec_l08Mapped.f k root tabs buf) (pagesL root tabs (fun _ => true) 64) := by
  unfold spec_l08Mapped.f
  have key : ∀ d i, 64 - i = d → i ≤ 64 → Ev (fun k => spec_l08Mapped.l0 k (pagesL root tabs (fun _ => true) i) (i : Int) root tabs buf) (pagesL root tabs (fun _ => true) 64) := by
    intro d
    induction d with
    | zero =>
      intro i hd hi
      refine Ev.succ ?_
      simp only [spec_l08Mapped.l0]
      exact Ev.neg (by omega) (Ev.some (by rw [show i = 64 by omega]))
    | succ d ih =>
      intro i hd hi
      have hl := pagesL_len root tabs (fun _ => true) i
      have := ih (i + 1) (by omega) (by omega)
      rw [pagesL_succ] at this
      refine Ev.succ ?_
      simp only [spec_l08Mapped.l0]
      refine Ev.pos (by omega) (Ev.bindc (specWalk_f root tabs buf (i : Int) (by omega) (by omega) h8 hin ht) ?_)
      rw [wrap_succ (show i < 64 by omega) (by omega)]
      unfold mapE at this
      cases hw : walkE root tabs (i : Int) with
      | none =>
        rw [hw, List.append_nil] at this
        exact Ev.neg (by simp [wk]) this
      | some y =>
        rw [hw] at this
        by_cases hy : y.f0 < 0
        · simp only [if_pos hy, List.append_nil] at this
          exact Ev.neg (by simp only [wk]; omega) this
        · simp only [if_neg hy, if_true] at this
          exact Ev.pos (by simp only [wk]; omega) (Ev.pos (by omega) this)
  have := key 64 0 (by omega) (by omega)
  simpa [pagesL] using this
theorem pages_in (root : List Int) (tabs : List (List S37)) (p : S37 → Bool) (n : Nat) : ∀ x ∈ pagesL root tabs p n, 0 ≤ x ∧ x < (n : Int) := by
  intro x hx
  unfold pagesL at hx
  obtain ⟨hx, _⟩ := List.mem_filter.1 hx
  obtain ⟨j, hj, rfl⟩ := List.mem_map.1 hx
  have := List.mem_range.1 hj
  omega
def frameS (root : List Int) (tabs : List (List S37)) (p : Int) : Int := (wk (walkE root tabs p)).1
theorem specFree0_ev (root : List Int) (tabs : List (List S37)) (buf : List S53) (h8 : root.length = 8) (hin : ∀ r ∈ root, r < (tabs.length : Int)) (ht : ∀ t ∈ tabs, t.length = 8) (l : List Int) (hl : l.length ≤ 64) (hm : ∀ x ∈ l, 0 ≤ x ∧ x < 64) (R : List Int)
    (hR : Ev (fun k => spec_l08Free.l1 k (l.map (frameS root tabs)) [] 0) R) :
    ∀ d i (acc : List Int), l.length - i = d → i ≤ l.length → acc = (l.take i).map (frameS root tabs) → Ev (fun k => spec_l08Free.l0 k acc l (i : Int) root tabs buf) R := by
  intro d
  induction d with
  | zero =>
    intro i acc hd hi ha
    refine Ev.succ ?_
    simp only [spec_l08Free.l0]
    refine Ev.neg (by omega) ?_
    rw [List.take_of_length_le (by omega)] at ha
    rw [ha]
    exact hR
  | succ d ih =>
    intro i acc hd hi ha
    have hlt : i < l.length := by omega
    have hmem : l.getD i 0 ∈ l := by rw [getD_lt l i 0 hlt]; exact List.getElem_mem _
    have hal : acc.length = i := by rw [ha, List.length_map, List.length_take]; omega
    refine Ev.succ ?_
    simp only [spec_l08Free.l0]
    have e0 : rd l (i : Int) = l.getD i 0 := rfl
    have := ih (i + 1) (acc ++ [frameS root tabs (l.getD i 0)]) (by omega) (by omega) (by rw [take_succ l i 0 hlt, List.map_append, ha]; rfl)
    rw [e0]
    refine Ev.pos (by omega) (Ev.pos (by omega) (Ev.bindc (specWalk_f root tabs buf (l.getD i 0) (hm _ hmem).1 (hm _ hmem).2 h8 hin ht) (Ev.pos (by omega) ?_)))
    rw [wrap_succ hlt (by omega)]
    exact this
theorem specFree1_ev (tk : List Int) (hl : tk.length ≤ 64) : Ev (fun k => spec_l08Free.l1 k tk [] 0) (freeL tk) := by
  have key : ∀ d i, 16 - i = d → i ≤ 16 → Ev (fun k => spec_l08Free.l1 k tk (((List.range i).map fun (j : Nat) => (j : Int)).filter fun n => !(tk.any fun y => decide (y = n))) (i : Int)) (freeL tk) := by
    intro d
    induction d with
    | zero =>
      intro i hd hi
      refine Ev.succ ?_
      simp only [spec_l08Free.l1]
      exact Ev.neg (by omega) (Ev.some (by rw [show i = 16 by omega]; rfl))
    | succ d ih =>
      intro i hd hi
      have hlen : (((List.range i).map fun (j : Nat) => (j : Int)).filter fun n => !(tk.any fun y => decide (y = n))).length ≤ i := Nat.le_trans (List.length_filter_le _ _) (by simp)
      have := ih (i + 1) (by omega) (by omega)
      rw [List.range_succ, List.map_append, List.filter_append, List.map_cons, List.map_nil, List.filter_cons] at this
      refine Ev.succ ?_
      simp only [spec_l08Free.l1]
      refine Ev.pos (by omega) (Ev.bind (specHas_ev tk (i : Int) (by omega)) ?_)
      rw [wrap_succ (show i < 16 by omega) (by omega)]
      cases hh : (tk.any fun y => decide (y = (i : Int))) with
      | true =>
        rw [hh] at this
        simp only [Bool.not_true, if_neg (show ¬ (false = true) by decide), List.filter_nil, List.append_nil] at this
        exact Ev.pos rfl this
      | false =>
        rw [hh] at this
        simp only [Bool.not_false, if_true, List.filter_nil] at this
        exact Ev.neg (by decide) (Ev.pos (by omega) this)
  have := key 16 0 (by omega) (by omega)
  simpa using this
theorem frames_mem (tabs : List (List S37)) (n : Int) : n ∈ framesL tabs ↔ ∃ t ∈ tabs, ∃ y ∈ t, y.f0 ≥ 0 ∧ y.f0 = n := by
  unfold framesL framesT
  simp only [List.mem_flatten, List.mem_map]
  constructor
  · rintro ⟨l, ⟨t, ht, rfl⟩, hn⟩
    obtain ⟨y, hy, rfl⟩ := List.mem_map.1 hn
    obtain ⟨h1, h2⟩ := List.mem_filter.1 hy
    exact ⟨t, ht, y, h1, of_decide_eq_true h2, rfl⟩
  · rintro ⟨t, ht, y, hy, h0, rfl⟩
    exact ⟨_, ⟨t, ht, rfl⟩, List.mem_map.2 ⟨y, List.mem_filter.2 ⟨hy, decide_eq_true h0⟩, rfl⟩⟩
theorem mapped_frames (root : List Int) (tabs : List (List S37)) (h8 : root.length = 8) (hin : ∀ r ∈ root, r < (tabs.length : Int)) (ht : ∀ t ∈ tabs, t.length = 8) (ho : orderB (usedL root) (tabs.length : Int) = true) (n : Int) (hn : 0 ≤ n) :
    n ∈ (pagesL root tabs (fun _ => true) 64).map (frameS root tabs) ↔ n ∈ framesL tabs := by
  rw [frames_mem]
  constructor
  · intro h
    obtain ⟨p, hp, rfl⟩ := List.mem_map.1 h
    unfold frameS at hn ⊢
    unfold walkE at hn ⊢
    by_cases hneg : rd root (p / 8) < 0
    · rw [if_pos hneg] at hn
      simp [wk] at hn
    · rw [if_neg hneg] at hn ⊢
      obtain ⟨h0, h1⟩ := pages_in root tabs _ 64 p hp
      have hm : rd root (p / 8) ∈ root := by unfold rd; rw [getD_lt root _ 0 (by omega)]; exact List.getElem_mem _
      have h2 := hin _ hm
      have hl : (rd root (p / 8)).toNat < tabs.length := by omega
      have htm : tabs.getD (rd root (p / 8)).toNat [] ∈ tabs := by rw [getD_lt tabs _ _ hl]; exact List.getElem_mem _
      refine ⟨_, htm, (tabs.getD (rd root (p / 8)).toNat []).getD (p % 8).toNat z37, ?_, hn, rfl⟩
      have := ht _ htm
      rw [getD_lt _ (p % 8).toNat _ (by omega)]
      exact List.getElem_mem _
  · rintro ⟨t, htm, y, hy, hf, rfl⟩
    obtain ⟨j, hj, rfl⟩ := List.getElem_of_mem htm
    obtain ⟨i, hi, rfl⟩ := List.getElem_of_mem hy
    have h88 := ht _ htm
    unfold orderB at ho
    rw [Bool.and_eq_true, decide_eq_true_eq, decide_eq_true_eq] at ho
    have hjm : (j : Int) ∈ sortI (usedL root) := by
      rw [ho.2]
      exact List.mem_map.2 ⟨j, List.mem_range.2 (by have := ho.1; omega), rfl⟩
    have hju := ((used_mem' root j).1 ((sortI_perm (usedL root)).mem_iff.1 hjm)).1
    obtain ⟨r, hr, hrj⟩ := List.getElem_of_mem hju
    have e1 : ((8 * r + i : Nat) : Int) / 8 = (r : Int) := by omega
    have e2 : ((8 * r + i : Nat) : Int) % 8 = (i : Int) := by omega
    have hrd : rd root (r : Int) = (j : Int) := by unfold rd; rw [Int.toNat_natCast, getD_lt root r 0 hr, hrj]
    have hw : walkE root tabs ((8 * r + i : Nat) : Int) = some (tabs[j])[i] := by
      unfold walkE
      rw [e1, e2, hrd, if_neg (by omega), Int.toNat_natCast, Int.toNat_natCast, getD_lt tabs j _ hj, getD_lt _ i _ hi]
    refine List.mem_map.2 ⟨((8 * r + i : Nat) : Int), ?_, by unfold frameS; rw [hw]; rfl⟩
    unfold pagesL
    refine List.mem_filter.2 ⟨List.mem_map.2 ⟨8 * r + i, List.mem_range.2 (by omega), rfl⟩, ?_⟩
    unfold mapE
    rw [hw]
    simp only [if_neg (show ¬ ((tabs[j])[i]).f0 < 0 by omega)]
theorem freeL_congr (a b : List Int) (h : ∀ n : Int, 0 ≤ n → (n ∈ a ↔ n ∈ b)) : freeL a = freeL b := by
  unfold freeL
  refine List.filter_congr ?_
  intro n hn
  obtain ⟨j, _, rfl⟩ := List.mem_map.1 hn
  have := h (j : Int) (by omega)
  congr 1
  rw [Bool.eq_iff_iff, List.any_eq_true, List.any_eq_true]
  constructor
  · rintro ⟨x, hx, e⟩
    exact ⟨x, by have e := of_decide_eq_true e; rw [e] at hx ⊢; exact this.1 hx, e⟩
  · rintro ⟨x, hx, e⟩
    exact ⟨x, by have e := of_decide_eq_true e; rw [e] at hx ⊢; exact this.2 hx, e⟩
def pagesFreeFramesV (root : List Int) (tabs : List (List S37)) (buf : List S53) : List Int × Bool := freeR root tabs buf
theorem pagesFreeFrames_ev (root : List Int) (tabs : List (List S37)) (buf : List S53) (hr : root.length ≤ 1048576) (ht : tabs.length ≤ 1048576) (hb : buf.length ≤ 1048576) :
    (pagesFreeFramesV root tabs buf).1.length ≤ 1048576 ∧ Ev (fun k => spec_FreeFrames.f k root tabs buf) (pagesFreeFramesV root tabs buf) ∧ impl_FreeFrames.f root tabs buf = some (pagesFreeFramesV root tabs buf) := by
  refine ⟨?_, ?_, if_pos hr⟩
  · unfold pagesFreeFramesV freeR
    split
    · have : (freeL (framesL tabs)).length ≤ 16 := Nat.le_trans (List.length_filter_le _ _) (by simp)
      simp only; omega
    · simp
  · unfold spec_FreeFrames.f pagesFreeFramesV freeR
    refine Ev.bind (specIsSpace_ev root tabs buf hr ht hb) ?_
    cases hV : spaceB root tabs buf with
    | false => exact Ev.neg (by decide) (Ev.some rfl)
    | true =>
      obtain ⟨f1, f2, f3, f4, f5, f6, f7, f8⟩ := spaceB_facts hV
      refine Ev.pos rfl ?_
      have hl := pagesL_len root tabs (fun _ => true) 64
      have h1 := specFree1_ev ((pagesL root tabs (fun _ => true) 64).map (frameS root tabs)) (by rw [List.length_map]; exact hl)
      rw [freeL_congr _ _ (mapped_frames root tabs f1 f4 f5 f8)] at h1
      have h0 := specFree0_ev root tabs buf f1 f4 f5 _ hl (pages_in root tabs _ 64) _ h1 (pagesL root tabs (fun _ => true) 64).length 0 [] (by omega) (by omega) (by simp)
      have hF : Ev (fun k => spec_l08Free.f k root tabs buf) (freeL (framesL tabs)) := by
        unfold spec_l08Free.f
        exact Ev.bind (specMapped_ev root tabs buf f1 f4 f5) h0
      exact Ev.bind hF (Ev.some rfl)
theorem st_toInt64S_ {w0 W : World} {L : List (Thing × Nat × Nat)} {A : Option Addr} {c : Nat} {l : List Int} {r : List Int} (h : St w0 W L) (hr : Kd.C (Kd.int .i64) w0 A l.length l) (hc : l.length ≤ c) (he : Ev (fun k => laws_toInt64S.f k l) r) :
    Calls Try.prog 31 #[.slice A l.length c] W fun e w' => ∃ B cb lo hi, e = .returned (.slice B r.length cb) ∧ St w0 w' ((flat (Kd.int .i64) 2 (.slice B r.length cb) r, lo, hi) :: L) := by
  obtain ⟨k, hk⟩ := he
  refine (laws_toInt64S.calls k A c l r W (Kd.C_below hr h.below) hc (hk k (Nat.le_refl _))).mono ?_
  rintro e w' ⟨v, rfl, hr', hb⟩
  obtain ⟨B, cb, rfl⟩ := Kd.R_slice hr'
  exact ⟨B, cb, _, _, rfl, h.add hb (flat_new hr')⟩
theorem st_eqInt64S_ {w0 W : World} {L : List (Thing × Nat × Nat)} {v1 v2 : Value} {l : List Int} {lo1 hi1 lo2 hi2 : Nat} {b : Bool} (h : St w0 W L) (h1 : (flat (Kd.int .i64) 2 v1 l, lo1, hi1) ∈ L) (h2 : (flat (Kd.int .i64) 2 v2 l, lo2, hi2) ∈ L) (he : Ev (fun k => laws_eqInt64S.f k l l) b) :
    Calls Try.prog 18 #[v1, v2] W fun e w' => e = .returned (.bool b) ∧ St w0 w' L := by
  obtain ⟨A1, c1, rfl, hc1, hC1⟩ := flat_reads (h.get h1).1
  obtain ⟨A2, c2, rfl, hc2, hC2⟩ := flat_reads (h.get h2).1
  obtain ⟨k, hk⟩ := he
  refine (laws_eqInt64S.calls k A1 c1 l A2 c2 l b W hC1 hc1 hC2 hc2 (hk k (Nat.le_refl _))).mono ?_
  rintro e w' ⟨rfl, hb⟩
  exact ⟨rfl, by first | exact h.step hb | exact h.step hb.below⟩
theorem st_markInt64S_ {w0 W : World} {L L' : List (Thing × Nat × Nat)} {v : Value} {l l' : List Int} {a r : Int} {lo hi : Nat} (h : St w0 W L) (u : Upd (flat (Kd.int .i64) 2 v l) (flat (Kd.int .i64) 2 v l') lo hi L L') (he : Ev (fun k => laws_markInt64S.f k l a) (r, l')) :
    Calls Try.prog 20 #[v, .int .i64 a] W fun e w' => e = .returned (.int .i64 r) ∧ St w0 w' L' := by
  obtain ⟨hp, hlo, _, _⟩ := h.get u.mem
  obtain ⟨k, hk⟩ := he
  refine (laws_markInt64S.calls k (fun k_ => some k_ = v.ownBlock) v l a r l' w0 W h.below (Kd.R_lower (Kd.R_tight rfl hp) hlo) (hk k (Nat.le_refl _))).mono ?_
  rintro e w' ⟨rfl, hr', hb, hk'⟩
  exact ⟨rfl, h.upd u hb (hk'.mono (fun k e => hp.1 k e.symm)) (flat_marked (b := w0.heap.size) rfl (fun _ _ _ _ h => h) hp hr')⟩
theorem st_heldInt64S_ {w0 W : World} {L : List (Thing × Nat × Nat)} {v1 : Value} {l : List Int} {a r : Int} {lo hi : Nat} (h : St w0 W L) (h1 : (flat (Kd.int .i64) 2 v1 l, lo, hi) ∈ L) (he : Ev (fun k => laws_heldInt64S.f k l a) r) :
    Calls Try.prog 21 #[v1, .int .i64 a] W fun e w' => e = .returned (.int .i64 r) ∧ St w0 w' L := by
  obtain ⟨A1, c1, rfl, hc1, hC1⟩ := flat_reads (h.get h1).1
  obtain ⟨k, hk⟩ := he
  refine (laws_heldInt64S.calls k A1 c1 l a r W hC1 hc1 (hk k (Nat.le_refl _))).mono ?_
  rintro e w' ⟨rfl, hb⟩
  exact ⟨rfl, by first | exact h.step hb | exact h.step hb.below⟩
theorem st_toEntrySS_ {w0 W : World} {L : List (Thing × Nat × Nat)} {A : Option Addr} {c : Nat} {l : List (List S93)} {r : List (List S37)} (h : St w0 W L) (hr : Kd.C (Kd.slice 93 k93) w0 A l.length l) (hc : l.length ≤ c) (he : Ev (fun k => laws_toEntrySS.f k l) r) :
    Calls Try.prog 32 #[.slice A l.length c] W fun e w' => ∃ B cb lo hi, e = .returned (.slice B r.length cb) ∧ St w0 w' ((nest (Kd.slice 37 k37) 77 (.slice B r.length cb) r, lo, hi) :: L) := by
  obtain ⟨k, hk⟩ := he
  refine (laws_toEntrySS.calls k A c l r W (Kd.C_below hr h.below) hc (hk k (Nat.le_refl _))).mono ?_
  rintro e w' ⟨v, rfl, hr', hb⟩
  obtain ⟨B, cb, rfl⟩ := Kd.S_slice hr'
  exact ⟨B, cb, _, _, rfl, h.add hb (nest_new hr')⟩
theorem sumLen_take_le_ {α : Type} (l : List (List α)) (i : Nat) : sumLen (l.take i) ≤ sumLen l := by
  have h : sumLen l = sumLen (l.take i) + sumLen (l.drop i) := by unfold sumLen; rw [← List.sum_append, ← List.map_append, List.take_append_drop]
  omega
set_option maxHeartbeats 1600000 in
/-- Marks in a list of lists: what the lists are then is not told; what lies elsewhere is kept. -/
theorem markEntrySS_calls_ (v : Value) (l0 : List (List S37)) (a : Int) (lo hi : Nat) (w0 w : World) (hB : Below w0.heap.size w0 w) (hlo : w0.heap.size ≤ lo) (h0 : (nest (Kd.slice 37 k37) 77 v l0).P w lo hi)
    (hl : l0.length ≤ 1048576) (hr : ∀ x ∈ l0, x.length ≤ 1048576) (hs : sumLen l0 ≤ 2000000) (ha : 0 ≤ a) (ha1 : a ≤ 10000000) :
    Calls Try.prog 45 #[v, .int .i64 a] w fun e w' => e = .returned (.int .i64 (a + 4 * (sumLen l0 : Int))) ∧ Below w0.heap.size w0 w' ∧ Kept w w' (In lo hi) := by
  obtain ⟨A0, c0, rfl, hc0, _⟩ := nest_reads h0
  have HS0 := Aside0.mk h0
  have HB0 := Aside0.mk hB
  clear h0 hB
  go_enter Try.func45, Try.ntmps45
  go_wp2
  go_loopg [1, 5] l0.length (fun gg s1 s5 wr => ∃ kk : Nat, kk ≤ l0.length ∧ l0.length - kk ≤ gg ∧ s1 = .int .i64 (a + 4 * (sumLen (l0.take kk) : Int)) ∧ s5 = .int .i64 kk ∧ Aside0 (Below w0.heap.size w0 wr) ∧ Aside0 (Kept w wr (In lo hi)) ∧ ∃ m : List (List S37), Aside0 (m.length = l0.length) ∧ Aside0 (∀ i, kk ≤ i → m.getD i [] = l0.getD i []) ∧ Aside0 ((nest (Kd.slice 37 k37) 77 (.slice A0 l0.length c0) m).P wr lo hi))
  case atStart => exact ⟨0, Nat.zero_le _, by omega, by simp [sumLen], rfl, HB0, ⟨Kept.refl _ _⟩, l0, ⟨rfl⟩, ⟨fun _ _ => rfl⟩, HS0⟩
  case round =>
    obtain ⟨kk, hkk, hg, rfl, rfl, BW, KW, m, ML, MR, SW⟩ := hrel
    by_cases hlt : kk < l0.length
    · have hltz : (kk : Int) < (l0.length : Int) := by omega
      have hmlt : kk < m.length := by have := ML.out; omega
      obtain ⟨A1, c1, e1, hc1, hC⟩ := nest_reads SW.out
      have hlen := ML.out
      rw [hlen] at e1 hC
      injection e1 with e1 _ e2
      subst e1 e2
      clear hlen
      obtain ⟨ad, A1, c1, e, hx0, hle, hC1⟩ := at_row hC kk hlt
      subst e
      obtain ⟨g, rfl⟩ := Kd.R_head (Kd.S_R SW.out)
      obtain ⟨oki, c, hcl, hM, hcc, hoki, hH⟩ := Kd.S_lend SW.out [] (kk : Int) (by omega) (by have := ML.out; omega)
      obtain ⟨vi, rfl, hRi⟩ := hM
      rw [Int.toNat_natCast] at hRi hcc
      have hcell := hcc 0 vi rfl
      have hvi : vi = .slice A1 (m.getD kk []).length c1 := by
        have hx1 := hx0
        rw [add_plain] at hx1
        simp only [Kd.slice, Nat.mul_one, Nat.add_zero] at hcell
        rw [hcell] at hx1
        exact Option.some.inj hx1
      subst hvi
      have hrow : m.getD kk [] = l0.getD kk [] := MR.out kk (Nat.le_refl _)
      rw [hrow] at hRi hx0
      rw [add_plain] at hx0
      obtain ⟨y, hy⟩ : ∃ y, y = l0.getD kk [] := ⟨_, rfl⟩
      rw [← hy] at hRi hx0
      have hyl : y.length ≤ 1048576 := by rw [hy]; exact hr _ (getD_mem l0 kk [] hlt)
      have htk : l0.take (kk + 1) = l0.take kk ++ [y] := by rw [take_succ l0 kk [] hlt, hy]
      have hsm : sumLen (l0.take (kk + 1)) = sumLen (l0.take kk) + y.length := by rw [htk]; simp [sumLen]
      have hsb := sumLen_take_le_ l0 (kk + 1)
      obtain ⟨y', q, hq⟩ := markEntryS_ev y (a + 4 * (sumLen (l0.take kk) : Int)) hyl (by omega) (by omega)
      have HM := Aside0.mk (hq q (Nat.le_refl _))
      have HR := Aside0.mk hRi
      have HH := Aside0.mk hH
      have HY := Aside0.mk hy
      have HRO := Aside0.mk hrow
      have HO := Aside0.mk hoki
      have HML := Aside0.mk hmlt
      clear hq hRi hH hy hoki hC1 hle hC hrow hmlt
      go_wp2_with (go_at_call 77; refine (laws_markEntryS.calls q oki (.slice A1 y.length c1) y _ _ _ w0 _ BW.out (Kd.R_lower HR.out hlo) HM.out).mono ?_; rintro e w' ⟨rfl, hr', hb', hk'⟩)
      go_roundg (l0.length - (kk + 1))
      case measure => omega
      case rel =>
        refine ⟨kk + 1, by omega, by omega, by rw [hsm]; go_num, by go_num, ⟨hb'⟩, ⟨KW.out.then_ hk' (fun k hk => .inl (HO.out k hk).1)⟩, m.set kk y', ⟨by rw [List.length_set]; exact ML.out⟩, ⟨fun i hi => ?_⟩, ⟨?_⟩⟩
        · rw [← MR.out i (by omega), List.getD_eq_getElem?_getD, List.getD_eq_getElem?_getD, List.getElem?_set_ne (by omega)]
        · have hM' : (Kd.slice 37 k37).M w' lo oki y' [.slice A1 (m.getD kk []).length c1] := by
            refine ⟨_, rfl, ?_⟩
            rw [HRO.out, ← HY.out]
            exact Kd.R_reok rfl (Kd.R_raise (d := k37) (b := w0.heap.size) (b' := lo) (fun _ _ _ _ h => h) hr' (fun k hk => ((HO.out k (HR.out.1 k hk)).1).1)) (fun k hk => HR.out.1 k hk)
          have := Kd.H_back (Kd.H_kept HH.out hk' (fun k _ hn hs => hn hs)) hM' (fun k hk => hk)
          rw [Int.toNat_natCast] at this
          exact this
    · have hltz : ¬ (kk : Int) < (l0.length : Int) := by omega
      obtain rfl : kk = l0.length := by omega
      go_wp2
      go_ret
      exact ⟨by simp, BW.out, KW.out⟩
theorem st_markEntrySS_ {w0 W : World} {L L' : List (Thing × Nat × Nat)} {v : Value} {l : List (List S37)} {a : Int} {lo hi : Nat} {T' : Thing} (h : St w0 W L) (u : Upd (nest (Kd.slice 37 k37) 77 v l) T' lo hi L L') (ht : ∀ (w : World) lo hi, T'.P w lo hi)
    (hl : l.length ≤ 1048576) (hr : ∀ x ∈ l, x.length ≤ 1048576) (hs : sumLen l ≤ 2000000) (ha : 0 ≤ a) (ha1 : a ≤ 10000000) :
    Calls Try.prog 45 #[v, .int .i64 a] W fun e w' => e = .returned (.int .i64 (a + 4 * (sumLen l : Int))) ∧ St w0 w' L' := by
  obtain ⟨hp, hlo, _, _⟩ := h.get u.mem
  refine (markEntrySS_calls_ v l a lo hi w0 W h.below hlo hp hl hr hs ha ha1).mono ?_
  rintro e w' ⟨rfl, hb, hk'⟩
  exact ⟨rfl, h.upd u hb hk' (ht _ _ _)⟩
theorem st_toCachedS_ {w0 W : World} {L : List (Thing × Nat × Nat)} {A : Option Addr} {c : Nat} {l : List S82} {r : List S53} (h : St w0 W L) (hr : Kd.C k82 w0 A l.length l) (hc : l.length ≤ c) (he : Ev (fun k => laws_toCachedS.f k l) r) :
    Calls Try.prog 33 #[.slice A l.length c] W fun e w' => ∃ B cb lo hi, e = .returned (.slice B r.length cb) ∧ St w0 w' ((flat k53 53 (.slice B r.length cb) r, lo, hi) :: L) := by
  obtain ⟨k, hk⟩ := he
  refine (laws_toCachedS.calls k A c l r W (Kd.C_below hr h.below) hc (hk k (Nat.le_refl _))).mono ?_
  rintro e w' ⟨v, rfl, hr', hb⟩
  obtain ⟨B, cb, rfl⟩ := Kd.R_slice hr'
  exact ⟨B, cb, _, _, rfl, h.add hb (flat_new hr')⟩
theorem st_markCachedS_ {w0 W : World} {L L' : List (Thing × Nat × Nat)} {v : Value} {l l' : List S53} {a r : Int} {lo hi : Nat} (h : St w0 W L) (u : Upd (flat k53 53 v l) (flat k53 53 v l') lo hi L L') (he : Ev (fun k => laws_markCachedS.f k l a) (r, l')) :
    Calls Try.prog 46 #[v, .int .i64 a] W fun e w' => e = .returned (.int .i64 r) ∧ St w0 w' L' := by
  obtain ⟨hp, hlo, _, _⟩ := h.get u.mem
  obtain ⟨k, hk⟩ := he
  refine (laws_markCachedS.calls k (fun k_ => some k_ = v.ownBlock) v l a r l' w0 W h.below (Kd.R_lower (Kd.R_tight rfl hp) hlo) (hk k (Nat.le_refl _))).mono ?_
  rintro e w' ⟨rfl, hr', hb, hk'⟩
  exact ⟨rfl, h.upd u hb (hk'.mono (fun k e => hp.1 k e.symm)) (flat_marked (b := w0.heap.size) rfl (fun _ _ _ _ h => h) hp hr')⟩
theorem st_szSpace {w0 W : World} {L : List (Thing × Nat × Nat)} {A0 : Option Addr} {c0 : Nat} {l0 : List Int} {A1 : Option Addr} {c1 : Nat} {l1 : List (List S93)} {A2 : Option Addr} {c2 : Nat} {l2 : List S82} {a r : Int} (h : St w0 W L) (hr0 : Kd.C (Kd.int .i64) w0 A0 l0.length l0) (hc0 : l0.length ≤ c0) (hr1 : Kd.C (Kd.slice 93 k93) w0 A1 l1.length l1) (hc1 : l1.length ≤ c1) (hr2 : Kd.C k82 w0 A2 l2.length l2) (hc2 : l2.length ≤ c2) (he : Ev (fun k => laws_szSpace.f k l0 l1 l2 a) r) :
    Calls Try.prog 8 #[.agg #[.slice A0 l0.length c0, .slice A1 l1.length c1, .slice A2 l2.length c2], .int .i64 a] W fun e w' => e = .returned (.int .i64 r) ∧ St w0 w' L := by
  obtain ⟨k, hk⟩ := he
  refine (laws_szSpace.calls k A0 c0 l0 A1 c1 l1 A2 c2 l2 a r W (Kd.C_below hr0 h.below) hc0 (Kd.C_below hr1 h.below) hc1 (Kd.C_below hr2 h.below) hc2 (hk k (Nat.le_refl _))).mono ?_
  rintro e w' ⟨rfl, hb⟩
  exact ⟨rfl, h.step (by first | exact hb | exact hb.below)⟩
set_option maxHeartbeats 3200000 in
set_option maxRecDepth 100000 in
theorem st_toSpace {w0 W : World} {L : List (Thing × Nat × Nat)} {A0 : Option Addr} {c0 : Nat} {l0 : List Int} {A1 : Option Addr} {c1 : Nat} {l1 : List (List S93)} {A2 : Option Addr} {c2 : Nat} {l2 : List S82} {r0 : List Int} {r1 : List (List S37)} {r2 : List S53} (h : St w0 W L) (hr0 : Kd.C (Kd.int .i64) w0 A0 l0.length l0) (hc0 : l0.length ≤ c0) (hr1 : Kd.C (Kd.slice 93 k93) w0 A1 l1.length l1) (hc1 : l1.length ≤ c1) (hr2 : Kd.C k82 w0 A2 l2.length l2) (hc2 : l2.length ≤ c2) (he0 : Ev (fun k => laws_toInt64S.f k l0) r0) (he1 : Ev (fun k => laws_toEntrySS.f k l1) r1) (he2 : Ev (fun k => laws_toCachedS.f k l2) r2) :
    Calls Try.prog 10 #[.agg #[.slice A0 l0.length c0, .slice A1 l1.length c1, .slice A2 l2.length c2]] W fun e w' => ∃ B0 b0 B1 b1 B2 b2, e = .returned (.agg #[.slice B0 r0.length b0, .slice B1 r1.length b1, .slice B2 r2.length b2]) ∧ ∃ lo0 hi0 lo1 hi1 lo2 hi2, St w0 w' ((flat k53 53 (.slice B2 r2.length b2) r2, lo2, hi2) :: (nest (Kd.slice 37 k37) 77 (.slice B1 r1.length b1) r1, lo1, hi1) :: (flat (Kd.int .i64) 2 (.slice B0 r0.length b0) r0, lo0, hi0) :: L) := by
  have HR0 := Aside0.mk hr0
  have HC0 := Aside0.mk hc0
  have HE0 := Aside0.mk he0
  have HR1 := Aside0.mk hr1
  have HC1 := Aside0.mk hc1
  have HE1 := Aside0.mk he1
  have HR2 := Aside0.mk hr2
  have HC2 := Aside0.mk hc2
  have HE2 := Aside0.mk he2
  have HS := h
  clear hr0 hc0 he0 hr1 hc1 he1 hr2 hc2 he2 h
  go_enter Try.func10, Try.ntmps10
  go_wp2_with fail
  refine (st_toInt64S_ (w0 := w0) (St.box (St.box (St.box HS _ _) _ _) _ _) HR0.out HC0.out HE0.out).mono ?_
  rintro e w1 ⟨B0, b0, lo0, hi0, rfl, HS⟩
  simp only [World.size_alloc] at HS
  have q1 : w1.cell? ⟨W.heap.size, 1, none⟩ = some (.slice A1 l1.length c1) := HS.cell (cs := #[.slice A0 l0.length c0, .slice A1 l1.length c1, .slice A2 l2.length c2]) (t := 26) (by repeat (first | with_reducible exact List.mem_cons_self | refine List.mem_cons_of_mem _ ?_)) 1 _ rfl
  have u0 : w1.cell? ⟨W.heap.size + 1 + 1, 0, none⟩ = some (.slice none 0 0) := HS.cell (cs := #[.slice none 0 0, .slice none 0 0, .slice none 0 0]) (t := 32) (by repeat (first | with_reducible exact List.mem_cons_self | refine List.mem_cons_of_mem _ ?_)) 0 _ rfl
  have fzu : ∀ j, w1.frozen? ⟨W.heap.size + 1 + 1, j, none⟩ = false := HS.thaw (cs := #[.slice none 0 0, .slice none 0 0, .slice none 0 0]) (t := 32) (by repeat (first | with_reducible exact List.mem_cons_self | refine List.mem_cons_of_mem _ ?_))
  go_wp2_with fail
  refine (st_toEntrySS_ (w0 := w0) (St.setBox (by with_reducible exact HS) 0 _ (by repeat (first | with_reducible exact Upd.here | apply Upd.there))) HR1.out HC1.out HE1.out).mono ?_
  rintro e w2 ⟨B1, b1, lo1, hi1, rfl, HS⟩
  simp only [List.setIfInBounds_toArray, List.set_cons_zero, List.set_cons_succ] at HS
  clear q1 u0 fzu
  have q2 : w2.cell? ⟨W.heap.size, 2, none⟩ = some (.slice A2 l2.length c2) := HS.cell (cs := #[.slice A0 l0.length c0, .slice A1 l1.length c1, .slice A2 l2.length c2]) (t := 26) (by repeat (first | with_reducible exact List.mem_cons_self | refine List.mem_cons_of_mem _ ?_)) 2 _ rfl
  have u1 : w2.cell? ⟨W.heap.size + 1 + 1, 1, none⟩ = some (.slice none 0 0) := HS.cell (cs := #[.slice B0 r0.length b0, .slice none 0 0, .slice none 0 0]) (t := 32) (by repeat (first | with_reducible exact List.mem_cons_self | refine List.mem_cons_of_mem _ ?_)) 1 _ rfl
  have fzu : ∀ j, w2.frozen? ⟨W.heap.size + 1 + 1, j, none⟩ = false := HS.thaw (cs := #[.slice B0 r0.length b0, .slice none 0 0, .slice none 0 0]) (t := 32) (by repeat (first | with_reducible exact List.mem_cons_self | refine List.mem_cons_of_mem _ ?_))
  go_wp2_with fail
  refine (st_toCachedS_ (w0 := w0) (St.setBox (by with_reducible exact HS) 1 _ (by repeat (first | with_reducible exact Upd.here | apply Upd.there))) HR2.out HC2.out HE2.out).mono ?_
  rintro e w3 ⟨B2, b2, lo2, hi2, rfl, HS⟩
  simp only [List.setIfInBounds_toArray, List.set_cons_zero, List.set_cons_succ] at HS
  clear q2 u1 fzu
  have u0 : w3.cell? ⟨W.heap.size + 1 + 1, 0, none⟩ = some (.slice B0 r0.length b0) := HS.cell (cs := #[.slice B0 r0.length b0, .slice B1 r1.length b1, .slice none 0 0]) (t := 32) (by repeat (first | with_reducible exact List.mem_cons_self | refine List.mem_cons_of_mem _ ?_)) 0 _ rfl
  have u1 : w3.cell? ⟨W.heap.size + 1 + 1, 1, none⟩ = some (.slice B1 r1.length b1) := HS.cell (cs := #[.slice B0 r0.length b0, .slice B1 r1.length b1, .slice none 0 0]) (t := 32) (by repeat (first | with_reducible exact List.mem_cons_self | refine List.mem_cons_of_mem _ ?_)) 1 _ rfl
  have u2 : w3.cell? ⟨W.heap.size + 1 + 1, 2, none⟩ = some (.slice none 0 0) := HS.cell (cs := #[.slice B0 r0.length b0, .slice B1 r1.length b1, .slice none 0 0]) (t := 32) (by repeat (first | with_reducible exact List.mem_cons_self | refine List.mem_cons_of_mem _ ?_)) 2 _ rfl
  have fzu : ∀ j, w3.frozen? ⟨W.heap.size + 1 + 1, j, none⟩ = false := HS.thaw (cs := #[.slice B0 r0.length b0, .slice B1 r1.length b1, .slice none 0 0]) (t := 32) (by repeat (first | with_reducible exact List.mem_cons_self | refine List.mem_cons_of_mem _ ?_))
  have z0 : w3.cell? ⟨W.heap.size + 1, 0, none⟩ = some (.slice none 0 0) := HS.cell (cs := #[.slice none 0 0, .slice none 0 0, .slice none 0 0]) (t := 32) (by repeat (first | with_reducible exact List.mem_cons_self | refine List.mem_cons_of_mem _ ?_)) 0 _ rfl
  have z1 : w3.cell? ⟨W.heap.size + 1, 1, none⟩ = some (.slice none 0 0) := HS.cell (cs := #[.slice none 0 0, .slice none 0 0, .slice none 0 0]) (t := 32) (by repeat (first | with_reducible exact List.mem_cons_self | refine List.mem_cons_of_mem _ ?_)) 1 _ rfl
  have z2 : w3.cell? ⟨W.heap.size + 1, 2, none⟩ = some (.slice none 0 0) := HS.cell (cs := #[.slice none 0 0, .slice none 0 0, .slice none 0 0]) (t := 32) (by repeat (first | with_reducible exact List.mem_cons_self | refine List.mem_cons_of_mem _ ?_)) 2 _ rfl
  have fzz : ∀ j, w3.frozen? ⟨W.heap.size + 1, j, none⟩ = false := HS.thaw (cs := #[.slice none 0 0, .slice none 0 0, .slice none 0 0]) (t := 32) (by repeat (first | with_reducible exact List.mem_cons_self | refine List.mem_cons_of_mem _ ?_))
  go_wp2_with fail
  refine bodyPost_ret (results_cell_row rfl _ _ (W.heap.size + 1) 32 _ (0, 0) _ rfl (St.blk (w0 := w0) (St.setBox (St.setBox (St.setBox (St.setBox (by with_reducible exact HS) 2 _ (by repeat (first | with_reducible exact Upd.here | apply Upd.there))) 0 _ (by repeat (first | with_reducible exact Upd.here | apply Upd.there))) 1 _ (by repeat (first | with_reducible exact Upd.here | apply Upd.there))) 2 _ (by repeat (first | with_reducible exact Upd.here | apply Upd.there))) (by repeat (first | with_reducible exact List.mem_cons_self | refine List.mem_cons_of_mem _ ?_))) Try.underlying32 rfl (by kernel_rfl)) rfl ?_
  exact ⟨B0, b0, B1, b1, B2, b2, rfl, _, _, _, _, _, _, St.sub (w0 := w0) (St.setBox (St.setBox (St.setBox (St.setBox (by with_reducible exact HS) 2 _ (by repeat (first | with_reducible exact Upd.here | apply Upd.there))) 0 _ (by repeat (first | with_reducible exact Upd.here | apply Upd.there))) 1 _ (by repeat (first | with_reducible exact Upd.here | apply Upd.there))) 2 _ (by repeat (first | with_reducible exact Upd.here | apply Upd.there))) (List.Sublist.cons_cons _ (List.Sublist.cons_cons _ (List.Sublist.cons_cons _ (List.Sublist.cons _ (List.Sublist.cons _ (List.Sublist.cons _ (List.Sublist.refl _)))))))⟩
theorem st_eqSpace {w0 W : World} {L : List (Thing × Nat × Nat)} {r0 : List Int} {A0 B0 : Option Addr} {n0 m0 c0 d0 lo0 hi0 lp0 hp0 : Nat} {r1 : List (List S37)} {A1 B1 : Option Addr} {n1 m1 c1 d1 lo1 hi1 lp1 hp1 : Nat} {r2 : List S53} {A2 B2 : Option Addr} {n2 m2 c2 d2 lo2 hi2 lp2 hp2 : Nat} {b : Bool} (h : St w0 W L)
    (h0 : (flat (Kd.int .i64) 2 (.slice A0 n0 c0) r0, lo0, hi0) ∈ L) (g0 : (flat (Kd.int .i64) 2 (.slice B0 m0 d0) r0, lp0, hp0) ∈ L) (h1 : (nest (Kd.slice 37 k37) 77 (.slice A1 n1 c1) r1, lo1, hi1) ∈ L) (g1 : (nest (Kd.slice 37 k37) 77 (.slice B1 m1 d1) r1, lp1, hp1) ∈ L) (h2 : (flat k53 53 (.slice A2 n2 c2) r2, lo2, hi2) ∈ L) (g2 : (flat k53 53 (.slice B2 m2 d2) r2, lp2, hp2) ∈ L)
    (he : Ev (fun k => laws_eqSpace.f k r0 r1 r2 r0 r1 r2) b) :
    Calls Try.prog 12 #[.agg #[.slice A0 n0 c0, .slice A1 n1 c1, .slice A2 n2 c2], .agg #[.slice B0 m0 d0, .slice B1 m1 d1, .slice B2 m2 d2]] W fun e w' => e = .returned (.bool b) ∧ St w0 w' L := by
  obtain ⟨rfl, a0, C0⟩ := Kd.R_reads' (h.get h0).1
  obtain ⟨rfl, a1, C1⟩ := Kd.S_reads' (h.get h1).1
  obtain ⟨rfl, a2, C2⟩ := Kd.R_reads' (h.get h2).1
  obtain ⟨rfl, a3, C3⟩ := Kd.R_reads' (h.get g0).1
  obtain ⟨rfl, a4, C4⟩ := Kd.S_reads' (h.get g1).1
  obtain ⟨rfl, a5, C5⟩ := Kd.R_reads' (h.get g2).1
  obtain ⟨k, hk⟩ := he
  refine (laws_eqSpace.calls k A0 c0 r0 A1 c1 r1 A2 c2 r2 B0 d0 r0 B1 d1 r1 B2 d2 r2 b W C0 a0 C1 a1 C2 a2 C3 a3 C4 a4 C5 a5 (hk k (Nat.le_refl _))).mono ?_
  rintro e w' ⟨rfl, hb⟩
  exact ⟨rfl, by first | exact h.step hb | exact h.step hb.below⟩
set_option maxHeartbeats 1600000 in
set_option maxRecDepth 100000 in
theorem st_markSpace {w0 W : World} {L0 : List (Thing × Nat × Nat)} {L1 : List (Thing × Nat × Nat)} {L2 : List (Thing × Nat × Nat)} {L3 : List (Thing × Nat × Nat)} {r0 : List Int} {A0 : Option Addr} {n0 c0 lo0 hi0 : Nat} {r1 : List (List S37)} {A1 : Option Addr} {n1 c1 lo1 hi1 : Nat} {r2 : List S53} {A2 : Option Addr} {n2 c2 lo2 hi2 : Nat} {s0 : List Int} {s2 : List S53} {a a1 a2 a3 : Int} (h : St w0 W L0)
    (u0 : Upd (flat (Kd.int .i64) 2 (.slice A0 n0 c0) r0) (flat (Kd.int .i64) 2 (.slice A0 n0 c0) s0) lo0 hi0 L0 L1) (e0 : Ev (fun k => laws_markInt64S.f k r0 a) (a1, s0))
    (u1 : Upd (nest (Kd.slice 37 k37) 77 (.slice A1 n1 c1) r1) noThing lo1 hi1 L1 L2) (p1 : r1.length ≤ 1048576) (j1 : ∀ x ∈ r1, x.length ≤ 1048576) (i1 : sumLen r1 ≤ 2000000) (b1 : 0 ≤ a1) (v1 : a1 ≤ 10000000) (e1 : a1 + 4 * (sumLen r1 : Int) = a2)
    (u2 : Upd (flat k53 53 (.slice A2 n2 c2) r2) (flat k53 53 (.slice A2 n2 c2) s2) lo2 hi2 L2 L3) (e2 : Ev (fun k => laws_markCachedS.f k r2 a2) (a3, s2)) :
    Calls Try.prog 19 #[.agg #[.slice A0 n0 c0, .slice A1 n1 c1, .slice A2 n2 c2], .int .i64 a] W fun e w' => e = .returned (.int .i64 a3) ∧ St w0 w' L3 := by
  have Xu0 := Aside0.mk u0
  have Xe0 := Aside0.mk e0
  have Xu1 := Aside0.mk u1
  have Xp1 := Aside0.mk p1
  have Xj1 := Aside0.mk j1
  have Xi1 := Aside0.mk i1
  have Xb1 := Aside0.mk b1
  have Xv1 := Aside0.mk v1
  have Xe1 := Aside0.mk e1
  have Xu2 := Aside0.mk u2
  have Xe2 := Aside0.mk e2
  have HS := h
  clear u0 e0 u1 p1 j1 i1 b1 v1 e1 u2 e2 h
  go_enter Try.func19, Try.ntmps19
  go_wp2_with fail
  refine (st_markInt64S_ (w0 := w0) (St.box HS _ _) (Upd.there Xu0.out) Xe0.out).mono ?_
  rintro e w1 ⟨rfl, HS⟩
  have q1 : w1.cell? ⟨W.heap.size, 1, none⟩ = some (.slice A1 n1 c1) := HS.cell (cs := #[.slice A0 n0 c0, .slice A1 n1 c1, .slice A2 n2 c2]) (t := 32) (by repeat (first | with_reducible exact List.mem_cons_self | refine List.mem_cons_of_mem _ ?_)) 1 _ rfl
  go_wp2_with fail
  refine (st_markEntrySS_ (w0 := w0) (by with_reducible exact HS) (Upd.there Xu1.out) (fun _ _ _ => trivial) Xp1.out Xj1.out Xi1.out Xb1.out Xv1.out).mono ?_
  rw [Xe1.out]
  rintro e w2 ⟨rfl, HS⟩
  clear q1
  have q2 : w2.cell? ⟨W.heap.size, 2, none⟩ = some (.slice A2 n2 c2) := HS.cell (cs := #[.slice A0 n0 c0, .slice A1 n1 c1, .slice A2 n2 c2]) (t := 32) (by repeat (first | with_reducible exact List.mem_cons_self | refine List.mem_cons_of_mem _ ?_)) 2 _ rfl
  go_wp2_with fail
  refine (st_markCachedS_ (w0 := w0) (by with_reducible exact HS) (Upd.there Xu2.out) Xe2.out).mono ?_
  rintro e w3 ⟨rfl, HS⟩
  clear q2
  go_wp2_with fail
  go_ret
  exact ⟨rfl, St.sub HS (List.Sublist.cons _ (List.Sublist.refl _))⟩
theorem st_specX {w0 W : World} {L : List (Thing × Nat × Nat)} {l0 : List Int} {l1 : List (List S37)} {l2 : List S53} {g : List Int} {d : Bool} {A0 A1 A2 : Option Addr} {n0 n1 n2 c0 c1 c2 lo0 hi0 lo1 hi1 lo2 hi2 : Nat} (h : St w0 W L) (h0 : (flat (Kd.int .i64) 2 (.slice A0 n0 c0) l0, lo0, hi0) ∈ L) (h1 : (nest (Kd.slice 37 k37) 77 (.slice A1 n1 c1) l1, lo1, hi1) ∈ L) (h2 : (flat k53 53 (.slice A2 n2 c2) l2, lo2, hi2) ∈ L) (he : Ev (fun k => spec_FreeFrames.f k l0 l1 l2) (g, d)) :
    Calls Try.prog 24 #[.agg #[.slice A0 n0 c0, .slice A1 n1 c1, .slice A2 n2 c2]] W fun e w' => ∃ A cap lo hi, e = .returned (.tuple #[.slice A g.length cap, .bool d]) ∧ St w0 w' ((flat (Kd.int .i64) 2 (.slice A g.length cap) g, lo, hi) :: L) := by
  obtain ⟨rfl, a0, C0⟩ := Kd.R_reads' (h.get h0).1
  obtain ⟨rfl, a1, C1⟩ := Kd.S_reads' (h.get h1).1
  obtain ⟨rfl, a2, C2⟩ := Kd.R_reads' (h.get h2).1
  obtain ⟨k, hk⟩ := he
  refine (spec_FreeFrames.calls k A0 c0 l0 A1 c1 l1 A2 c2 l2 g d W C0 a0 C1 a1 C2 a2 (hk k (Nat.le_refl _))).mono ?_
  rintro e w' ⟨v, rfl, hr', hb⟩
  obtain ⟨A, cap, rfl⟩ := Kd.R_slice hr'
  exact ⟨A, cap, _, _, rfl, h.add (by first | exact hb | exact hb.below) (flat_new hr')⟩
theorem st_implX {w0 W : World} {L : List (Thing × Nat × Nat)} {l0 : List Int} {l1 : List (List S37)} {l2 : List S53} {g : List Int} {d : Bool} {A0 A1 A2 : Option Addr} {n0 n1 n2 c0 c1 c2 lo0 hi0 lo1 hi1 lo2 hi2 : Nat} (h : St w0 W L) (h0 : (flat (Kd.int .i64) 2 (.slice A0 n0 c0) l0, lo0, hi0) ∈ L) (h1 : (nest (Kd.slice 37 k37) 77 (.slice A1 n1 c1) l1, lo1, hi1) ∈ L) (h2 : (flat k53 53 (.slice A2 n2 c2) l2, lo2, hi2) ∈ L) (he : impl_FreeFrames.f l0 l1 l2 = some (g, d)) :
    Calls Try.prog 25 #[.agg #[.slice A0 n0 c0, .slice A1 n1 c1, .slice A2 n2 c2]] W fun e w' => ∃ A cap lo hi, e = .returned (.tuple #[.slice A g.length cap, .bool d]) ∧ St w0 w' ((flat (Kd.int .i64) 2 (.slice A g.length cap) g, lo, hi) :: L) := by
  obtain ⟨rfl, a0, C0⟩ := Kd.R_reads' (h.get h0).1
  obtain ⟨rfl, a1, C1⟩ := Kd.S_reads' (h.get h1).1
  obtain ⟨rfl, a2, C2⟩ := Kd.R_reads' (h.get h2).1
  refine (impl_FreeFrames.calls A0 c0 l0 A1 c1 l1 A2 c2 l2 g d W C0 a0 C1 a1 C2 a2 he).mono ?_
  rintro e w' ⟨v, rfl, hr', hb⟩
  obtain ⟨A, cap, rfl⟩ := Kd.R_slice hr'
  exact ⟨A, cap, _, _, rfl, h.add (by first | exact hb | exact hb.below) (flat_new hr')⟩
set_option maxHeartbeats 1600000 in
theorem big (A0 : Option Addr) (c0 : Nat) (r : List Int) (A1 : Option Addr) (c1 : Nat) (t : List (List S93)) (A2 : Option Addr) (c2 : Nat) (b : List S82) (w : World) (hr0 : Kd.C (Kd.int .i64) w A0 r.length r) (hc0 : r.length ≤ c0) (hr1 : Kd.C (Kd.slice 93 k93) w A1 t.length t) (hc1 : t.length ≤ c1) (hr2 : Kd.C k82 w A2 b.length b) (hc2 : b.length ≤ c2) (z : Int) (hz : decide (z < 0) = true) (hs : Ev (fun k => laws_szSpace.f k r t b 1048576) z) :
    Calls Try.prog 7 #[.agg #[.slice A0 r.length c0, .slice A1 t.length c1, .slice A2 b.length c2]] w fun e w' => e = .returned (.bool true) ∧ Below w.heap.size w w' := by
  have SZ := Aside0.mk hs
  have HR0 := Aside0.mk hr0
  have HC0 := Aside0.mk hc0
  have HR1 := Aside0.mk hr1
  have HC1 := Aside0.mk hc1
  have HR2 := Aside0.mk hr2
  have HC2 := Aside0.mk hc2
  have HS := St.start w
  clear hr0 hc0 hr1 hc1 hr2 hc2
  clear hs
  go_enter Try.func7, Try.ntmps7
  go_wp2_with fail
  refine (st_szSpace (w0 := w) (St.box HS _ _) HR0.out HC0.out HR1.out HC1.out HR2.out HC2.out SZ.out).mono ?_
  rintro e w1 ⟨rfl, HS⟩
  go_wp2_with fail
  go_ret
  exact ⟨rfl, HS.below⟩
set_option maxHeartbeats 4000000 in
set_option maxRecDepth 100000 in
theorem walk (A0 : Option Addr) (c0 : Nat) (r : List Int) (A1 : Option Addr) (c1 : Nat) (t : List (List S93)) (A2 : Option Addr) (c2 : Nat) (b : List S82) (w : World) (hr0 : Kd.C (Kd.int .i64) w A0 r.length r) (hc0 : r.length ≤ c0) (hr1 : Kd.C (Kd.slice 93 k93) w A1 t.length t) (hc1 : t.length ≤ c1) (hr2 : Kd.C k82 w A2 b.length b) (hc2 : b.length ≤ c2) (T : List (List S37)) (B : List S53) (R : List Int) (d : Bool) (z : Int) (hz : decide (z < 0) = false) (hs : Ev (fun k => laws_szSpace.f k r t b 1048576) z)
    (m1 m2 m3 q : Int) (s0 : List Int) (s2 : List S53) (hm3 : decide (m3 < 0) = false) (hq : decide (q < 0) = false)
    (t0 : Ev (fun k => laws_toInt64S.f k r) r) (t1 : Ev (fun k => laws_toEntrySS.f k t) T) (t2 : Ev (fun k => laws_toCachedS.f k b) B) (hsp : Ev (fun k => spec_FreeFrames.f k r T B) (R, d)) (him : impl_FreeFrames.f r T B = some (R, d))
    (eg : Ev (fun k => laws_eqInt64S.f k R R) true) (es : Ev (fun k => laws_eqSpace.f k r T B r T B) true)
    (e0 : Ev (fun k => laws_markInt64S.f k r 1) (m1, s0)) (p1 : T.length ≤ 1048576) (j1 : ∀ x ∈ T, x.length ≤ 1048576) (i1 : sumLen T ≤ 2000000) (b1 : 0 ≤ m1) (v1 : m1 ≤ 10000000) (e1 : m1 + 4 * (sumLen T : Int) = m2) (e2 : Ev (fun k => laws_markCachedS.f k B m2) (m3, s2))
    (mg : Ev (fun k => laws_markInt64S.f k R 1) (q, cnt 1 R.length)) (hg : Ev (fun k => laws_heldInt64S.f k (cnt 1 R.length) 1) q) :
    Calls Try.prog 7 #[.agg #[.slice A0 r.length c0, .slice A1 t.length c1, .slice A2 b.length c2]] w fun e w' => e = .returned (.bool true) ∧ Below w.heap.size w w' := by
  have SZ := Aside0.mk hs
  have T0 := Aside0.mk t0
  have T1 := Aside0.mk t1
  have T2 := Aside0.mk t2
  have SP := Aside0.mk hsp
  have IM := Aside0.mk him
  have EG := Aside0.mk eg
  have ES := Aside0.mk es
  have E0 := Aside0.mk e0
  have K1 := Aside0.mk p1
  have J1 := Aside0.mk j1
  have I1 := Aside0.mk i1
  have B1 := Aside0.mk b1
  have V1 := Aside0.mk v1
  have E1 := Aside0.mk e1
  have E2 := Aside0.mk e2
  have MG := Aside0.mk mg
  have HG := Aside0.mk hg
  have HR0 := Aside0.mk hr0
  have HC0 := Aside0.mk hc0
  have HR1 := Aside0.mk hr1
  have HC1 := Aside0.mk hc1
  have HR2 := Aside0.mk hr2
  have HC2 := Aside0.mk hc2
  have HS := St.start w
  clear hr0 hc0 hr1 hc1 hr2 hc2
  clear hs t0 t1 t2 hsp him eg es e0 p1 j1 i1 b1 v1 e1 e2 mg hg
  go_enter Try.func7, Try.ntmps7
  go_wp2_with fail
  refine (st_szSpace (w0 := w) (St.box HS _ _) HR0.out HC0.out HR1.out HC1.out HR2.out HC2.out SZ.out).mono ?_
  rintro e w1 ⟨rfl, HS⟩
  have a0 : w1.cell? ⟨w.heap.size, 0, none⟩ = some (.slice A0 r.length c0) := HS.cell (cs := #[.slice A0 r.length c0, .slice A1 t.length c1, .slice A2 b.length c2]) (t := 26) (by repeat (first | with_reducible exact List.mem_cons_self | refine List.mem_cons_of_mem _ ?_)) 0 _ rfl
  have a1 : w1.cell? ⟨w.heap.size, 1, none⟩ = some (.slice A1 t.length c1) := HS.cell (cs := #[.slice A0 r.length c0, .slice A1 t.length c1, .slice A2 b.length c2]) (t := 26) (by repeat (first | with_reducible exact List.mem_cons_self | refine List.mem_cons_of_mem _ ?_)) 1 _ rfl
  have a2 : w1.cell? ⟨w.heap.size, 2, none⟩ = some (.slice A2 b.length c2) := HS.cell (cs := #[.slice A0 r.length c0, .slice A1 t.length c1, .slice A2 b.length c2]) (t := 26) (by repeat (first | with_reducible exact List.mem_cons_self | refine List.mem_cons_of_mem _ ?_)) 2 _ rfl
  go_wp2_with fail
  refine (st_toSpace (w0 := w) (by with_reducible exact HS) HR0.out HC0.out HR1.out HC1.out HR2.out HC2.out T0.out T1.out T2.out).mono ?_
  rintro e w2 ⟨U0, u0, U1, u1, U2, u2, rfl, la1, ha1, lb1, hb1, lc1, hc1, HS⟩
  clear a0 a1 a2
  go_wp2_with fail
  refine (st_specX (w0 := w) (by with_reducible exact HS) (by repeat (first | with_reducible exact List.mem_cons_self | refine List.mem_cons_of_mem _ ?_)) (by repeat (first | with_reducible exact List.mem_cons_self | refine List.mem_cons_of_mem _ ?_)) (by repeat (first | with_reducible exact List.mem_cons_self | refine List.mem_cons_of_mem _ ?_)) SP.out).mono ?_
  rintro e w3 ⟨S0, s0, ls, hs_, rfl, HS⟩
  have a0 : w3.cell? ⟨w.heap.size, 0, none⟩ = some (.slice A0 r.length c0) := HS.cell (cs := #[.slice A0 r.length c0, .slice A1 t.length c1, .slice A2 b.length c2]) (t := 26) (by repeat (first | with_reducible exact List.mem_cons_self | refine List.mem_cons_of_mem _ ?_)) 0 _ rfl
  have a1 : w3.cell? ⟨w.heap.size, 1, none⟩ = some (.slice A1 t.length c1) := HS.cell (cs := #[.slice A0 r.length c0, .slice A1 t.length c1, .slice A2 b.length c2]) (t := 26) (by repeat (first | with_reducible exact List.mem_cons_self | refine List.mem_cons_of_mem _ ?_)) 1 _ rfl
  have a2 : w3.cell? ⟨w.heap.size, 2, none⟩ = some (.slice A2 b.length c2) := HS.cell (cs := #[.slice A0 r.length c0, .slice A1 t.length c1, .slice A2 b.length c2]) (t := 26) (by repeat (first | with_reducible exact List.mem_cons_self | refine List.mem_cons_of_mem _ ?_)) 2 _ rfl
  go_wp2_with fail
  refine (st_toSpace (w0 := w) (by with_reducible exact HS) HR0.out HC0.out HR1.out HC1.out HR2.out HC2.out T0.out T1.out T2.out).mono ?_
  rintro e w4 ⟨X0, x0, X1, x1, X2, x2, rfl, la2, ha2, lb2, hb2, lc2, hc2, HS⟩
  clear a0 a1 a2
  go_wp2_with fail
  refine (st_implX (w0 := w) (St.box HS _ _) (by repeat (first | with_reducible exact List.mem_cons_self | refine List.mem_cons_of_mem _ ?_)) (by repeat (first | with_reducible exact List.mem_cons_self | refine List.mem_cons_of_mem _ ?_)) (by repeat (first | with_reducible exact List.mem_cons_self | refine List.mem_cons_of_mem _ ?_)) IM.out).mono ?_
  rintro e w5 ⟨G0, g0, lg, hg_, rfl, HS⟩
  go_wp2_with fail
  refine (st_eqInt64S_ (w0 := w) (by with_reducible exact HS) (by repeat (first | with_reducible exact List.mem_cons_self | refine List.mem_cons_of_mem _ ?_)) (by repeat (first | with_reducible exact List.mem_cons_self | refine List.mem_cons_of_mem _ ?_)) EG.out).mono ?_
  rintro e w6 ⟨rfl, HS⟩
  go_wp2_with fail
  have HD := St.drew HS
  refine start_ (n := 5) (S := fun w' => w'.cell? ⟨w4.heap.size, 0, none⟩ = some (.slice X0 r.length x0) ∧ w'.cell? ⟨w4.heap.size, 1, none⟩ = some (.slice X1 T.length x1) ∧ w'.cell? ⟨w4.heap.size, 2, none⟩ = some (.slice X2 B.length x2) ∧ w'.cell? ⟨w.heap.size, 0, none⟩ = some (.slice A0 r.length c0) ∧ w'.cell? ⟨w.heap.size, 1, none⟩ = some (.slice A1 t.length c1) ∧ w'.cell? ⟨w.heap.size, 2, none⟩ = some (.slice A2 b.length c2)) (ds := []) #[false, false, false, false, false] (by kernel_rfl) rfl rfl ⟨HD.cell (cs := #[.slice X0 r.length x0, .slice X1 T.length x1, .slice X2 B.length x2]) (t := 32) (by repeat (first | with_reducible exact List.mem_cons_self | refine List.mem_cons_of_mem _ ?_)) 0 _ rfl, HD.cell (cs := #[.slice X0 r.length x0, .slice X1 T.length x1, .slice X2 B.length x2]) (t := 32) (by repeat (first | with_reducible exact List.mem_cons_self | refine List.mem_cons_of_mem _ ?_)) 1 _ rfl, HD.cell (cs := #[.slice X0 r.length x0, .slice X1 T.length x1, .slice X2 B.length x2]) (t := 32) (by repeat (first | with_reducible exact List.mem_cons_self | refine List.mem_cons_of_mem _ ?_)) 2 _ rfl, HD.cell (cs := #[.slice A0 r.length c0, .slice A1 t.length c1, .slice A2 b.length c2]) (t := 26) (by repeat (first | with_reducible exact List.mem_cons_self | refine List.mem_cons_of_mem _ ?_)) 0 _ rfl, HD.cell (cs := #[.slice A0 r.length c0, .slice A1 t.length c1, .slice A2 b.length c2]) (t := 26) (by repeat (first | with_reducible exact List.mem_cons_self | refine List.mem_cons_of_mem _ ?_)) 1 _ rfl, HD.cell (cs := #[.slice A0 r.length c0, .slice A1 t.length c1, .slice A2 b.length c2]) (t := 26) (by repeat (first | with_reducible exact List.mem_cons_self | refine List.mem_cons_of_mem _ ?_)) 2 _ rfl⟩ (fun hHeld => ?_)
  generalize w6.drew = wd at HD hHeld ⊢
  refine take_ (i := 0) (N := some 41) (v := ?_) (a' := ?_) #[true, false, false, false, false] rfl rfl (by kernel_rfl) (fun _ _ _ h => h) (Or.inl ⟨by rfl, ?_⟩) hHeld ?_ ?_
  rotate_left
  · rintro w' ⟨s0_, s1_, s2_, s3_, s4_, s5_⟩
    go_simp
    with_reducible rfl
  rotate_left
  · simp only [Act.put, List.setIfInBounds_toArray, List.set_cons_zero, List.set_cons_succ, i64_w, i32_w]
    rfl
  refine take_ (i := 1) (N := some 42) (v := ?_) (a' := ?_) #[true, true, false, false, false] rfl rfl (by kernel_rfl) (fun _ _ _ h => h) (Or.inl ⟨by rfl, ?_⟩) hHeld ?_ ?_
  rotate_left
  · rintro w' ⟨s0_, s1_, s2_, s3_, s4_, s5_⟩
    go_simp
    with_reducible rfl
  rotate_left
  · simp only [Act.put, List.setIfInBounds_toArray, List.set_cons_zero, List.set_cons_succ, i64_w, i32_w]
    rfl
  refine one_ (i := 2) (N := some 43) #[true, true, true, false, false] rfl rfl (by kernel_rfl) (by decide) (fun K hK => ?_)
  refine goes_ Try.func10 (by kernel_rfl) rfl #[.agg #[.slice A0 r.length c0, .slice A1 t.length c1, .slice A2 b.length c2]] (by rfl) rfl rfl (by (try simp only [List.map_toArray, List.map_cons, List.map_nil]); first | done | rfl | (simp only [List.length_drop, List.length_take]; rfl)) ?_
  refine (st_toSpace (w0 := w) (by with_reducible exact HD) HR0.out HC0.out HR1.out HC1.out HR2.out HC2.out T0.out T1.out T2.out).mono ?_
  rintro e w7 ⟨Y0, y0, Y1, y1, Y2, y2, rfl, la3, ha3, lb3, hb3, lc3, hc3, HS⟩
  refine ⟨_, rfl, ?_⟩
  have f0_ : w7.cell? ⟨w4.heap.size, 0, none⟩ = some (.slice X0 r.length x0) := HS.cell (cs := #[.slice X0 r.length x0, .slice X1 T.length x1, .slice X2 B.length x2]) (t := 32) (by repeat (first | with_reducible exact List.mem_cons_self | refine List.mem_cons_of_mem _ ?_)) 0 _ rfl
  have f1_ : w7.cell? ⟨w4.heap.size, 1, none⟩ = some (.slice X1 T.length x1) := HS.cell (cs := #[.slice X0 r.length x0, .slice X1 T.length x1, .slice X2 B.length x2]) (t := 32) (by repeat (first | with_reducible exact List.mem_cons_self | refine List.mem_cons_of_mem _ ?_)) 1 _ rfl
  have f2_ : w7.cell? ⟨w4.heap.size, 2, none⟩ = some (.slice X2 B.length x2) := HS.cell (cs := #[.slice X0 r.length x0, .slice X1 T.length x1, .slice X2 B.length x2]) (t := 32) (by repeat (first | with_reducible exact List.mem_cons_self | refine List.mem_cons_of_mem _ ?_)) 2 _ rfl
  have a0_ : w7.cell? ⟨w.heap.size, 0, none⟩ = some (.slice A0 r.length c0) := HS.cell (cs := #[.slice A0 r.length c0, .slice A1 t.length c1, .slice A2 b.length c2]) (t := 26) (by repeat (first | with_reducible exact List.mem_cons_self | refine List.mem_cons_of_mem _ ?_)) 0 _ rfl
  have a1_ : w7.cell? ⟨w.heap.size, 1, none⟩ = some (.slice A1 t.length c1) := HS.cell (cs := #[.slice A0 r.length c0, .slice A1 t.length c1, .slice A2 b.length c2]) (t := 26) (by repeat (first | with_reducible exact List.mem_cons_self | refine List.mem_cons_of_mem _ ?_)) 1 _ rfl
  have a2_ : w7.cell? ⟨w.heap.size, 2, none⟩ = some (.slice A2 b.length c2) := HS.cell (cs := #[.slice A0 r.length c0, .slice A1 t.length c1, .slice A2 b.length c2]) (t := 26) (by repeat (first | with_reducible exact List.mem_cons_self | refine List.mem_cons_of_mem _ ?_)) 2 _ rfl
  refine hK.out _ _ ⟨f0_, f1_, f2_, a0_, a1_, a2_⟩ (fun hHeld => ?_)
  clear hK K f0_ f1_ f2_ a0_ a1_ a2_
  refine norm_ (a' := ?_) ?_ ?_
  rotate_left
  · show Act.put _ (some 43) _ = _
    simp only [Act.put, List.setIfInBounds_toArray, List.set_cons_zero, List.set_cons_succ, i64_w, i32_w]
    rfl
  refine one_ (i := 3) (N := some 44) #[true, true, true, true, false] rfl rfl (by kernel_rfl) (by decide) (fun K hK => ?_)
  refine goes_ Try.func12 (by kernel_rfl) rfl #[.agg #[.slice X0 r.length x0, .slice X1 T.length x1, .slice X2 B.length x2], .agg #[.slice Y0 r.length y0, .slice Y1 T.length y1, .slice Y2 B.length y2]] (by rfl) rfl rfl (by (try simp only [List.map_toArray, List.map_cons, List.map_nil]); first | done | rfl | (simp only [List.length_drop, List.length_take]; rfl)) ?_
  refine (st_eqSpace (w0 := w) (by with_reducible exact HS) (by repeat (first | with_reducible exact List.mem_cons_self | refine List.mem_cons_of_mem _ ?_)) (by repeat (first | with_reducible exact List.mem_cons_self | refine List.mem_cons_of_mem _ ?_)) (by repeat (first | with_reducible exact List.mem_cons_self | refine List.mem_cons_of_mem _ ?_)) (by repeat (first | with_reducible exact List.mem_cons_self | refine List.mem_cons_of_mem _ ?_)) (by repeat (first | with_reducible exact List.mem_cons_self | refine List.mem_cons_of_mem _ ?_)) (by repeat (first | with_reducible exact List.mem_cons_self | refine List.mem_cons_of_mem _ ?_)) ES.out).mono ?_
  rintro e w8 ⟨rfl, HS⟩
  refine ⟨_, rfl, ?_⟩
  have f0_ : w8.cell? ⟨w4.heap.size, 0, none⟩ = some (.slice X0 r.length x0) := HS.cell (cs := #[.slice X0 r.length x0, .slice X1 T.length x1, .slice X2 B.length x2]) (t := 32) (by repeat (first | with_reducible exact List.mem_cons_self | refine List.mem_cons_of_mem _ ?_)) 0 _ rfl
  have f1_ : w8.cell? ⟨w4.heap.size, 1, none⟩ = some (.slice X1 T.length x1) := HS.cell (cs := #[.slice X0 r.length x0, .slice X1 T.length x1, .slice X2 B.length x2]) (t := 32) (by repeat (first | with_reducible exact List.mem_cons_self | refine List.mem_cons_of_mem _ ?_)) 1 _ rfl
  have f2_ : w8.cell? ⟨w4.heap.size, 2, none⟩ = some (.slice X2 B.length x2) := HS.cell (cs := #[.slice X0 r.length x0, .slice X1 T.length x1, .slice X2 B.length x2]) (t := 32) (by repeat (first | with_reducible exact List.mem_cons_self | refine List.mem_cons_of_mem _ ?_)) 2 _ rfl
  have a0_ : w8.cell? ⟨w.heap.size, 0, none⟩ = some (.slice A0 r.length c0) := HS.cell (cs := #[.slice A0 r.length c0, .slice A1 t.length c1, .slice A2 b.length c2]) (t := 26) (by repeat (first | with_reducible exact List.mem_cons_self | refine List.mem_cons_of_mem _ ?_)) 0 _ rfl
  have a1_ : w8.cell? ⟨w.heap.size, 1, none⟩ = some (.slice A1 t.length c1) := HS.cell (cs := #[.slice A0 r.length c0, .slice A1 t.length c1, .slice A2 b.length c2]) (t := 26) (by repeat (first | with_reducible exact List.mem_cons_self | refine List.mem_cons_of_mem _ ?_)) 1 _ rfl
  have a2_ : w8.cell? ⟨w.heap.size, 2, none⟩ = some (.slice A2 b.length c2) := HS.cell (cs := #[.slice A0 r.length c0, .slice A1 t.length c1, .slice A2 b.length c2]) (t := 26) (by repeat (first | with_reducible exact List.mem_cons_self | refine List.mem_cons_of_mem _ ?_)) 2 _ rfl
  refine hK.out _ _ ⟨f0_, f1_, f2_, a0_, a1_, a2_⟩ (fun hHeld => ?_)
  clear hK K f0_ f1_ f2_ a0_ a1_ a2_
  refine norm_ (a' := ?_) ?_ ?_
  rotate_left
  · show Act.put _ (some 44) _ = _
    simp only [Act.put, List.setIfInBounds_toArray, List.set_cons_zero, List.set_cons_succ, i64_w, i32_w]
    rfl
  refine pure_ (i := 4) (N := some 45) (v := ?_) (a' := ?_) #[true, true, true, true, true] rfl rfl (by kernel_rfl) (fun _ _ _ h => h) (Or.inl ⟨by rfl, ?_⟩) ?_ ?_
  rotate_left
  · intro w'
    go_simp
    with_reducible rfl
  rotate_left
  · simp only [Act.put, List.setIfInBounds_toArray, List.set_cons_zero, List.set_cons_succ, i64_w, i32_w]
    rfl
  refine done_ (by kernel_rfl) ?_
  clear hHeld HD
  have f0 : w8.cell? ⟨w4.heap.size, 0, none⟩ = some (.slice X0 r.length x0) := HS.cell (cs := #[.slice X0 r.length x0, .slice X1 T.length x1, .slice X2 B.length x2]) (t := 32) (by repeat (first | with_reducible exact List.mem_cons_self | refine List.mem_cons_of_mem _ ?_)) 0 _ rfl
  have f1 : w8.cell? ⟨w4.heap.size, 1, none⟩ = some (.slice X1 T.length x1) := HS.cell (cs := #[.slice X0 r.length x0, .slice X1 T.length x1, .slice X2 B.length x2]) (t := 32) (by repeat (first | with_reducible exact List.mem_cons_self | refine List.mem_cons_of_mem _ ?_)) 1 _ rfl
  have f2 : w8.cell? ⟨w4.heap.size, 2, none⟩ = some (.slice X2 B.length x2) := HS.cell (cs := #[.slice X0 r.length x0, .slice X1 T.length x1, .slice X2 B.length x2]) (t := 32) (by repeat (first | with_reducible exact List.mem_cons_self | refine List.mem_cons_of_mem _ ?_)) 2 _ rfl
  go_wp2_with fail
  refine (st_markSpace (w0 := w) (by with_reducible exact HS) (by repeat (first | with_reducible exact Upd.here | apply Upd.there)) E0.out (by repeat (first | with_reducible exact Upd.here | apply Upd.there)) K1.out J1.out I1.out B1.out V1.out E1.out (by repeat (first | with_reducible exact Upd.here | apply Upd.there)) E2.out).mono ?_
  rintro e w9 ⟨rfl, HS⟩
  clear f0 f1 f2
  go_wp2_with fail
  refine (st_eqInt64S_ (w0 := w) (by with_reducible exact HS) (by repeat (first | with_reducible exact List.mem_cons_self | refine List.mem_cons_of_mem _ ?_)) (by repeat (first | with_reducible exact List.mem_cons_self | refine List.mem_cons_of_mem _ ?_)) EG.out).mono ?_
  rintro e w10 ⟨rfl, HS⟩
  go_wp2_with fail
  refine (st_markInt64S_ (w0 := w) (by with_reducible exact HS) (by repeat (first | with_reducible exact Upd.here | apply Upd.there)) MG.out).mono ?_
  rintro e w11 ⟨rfl, HS⟩
  go_wp2_with fail
  refine (st_heldInt64S_ (w0 := w) (by with_reducible exact HS) (by repeat (first | with_reducible exact List.mem_cons_self | refine List.mem_cons_of_mem _ ?_)) HG.out).mono ?_
  rintro e w12 ⟨rfl, HS⟩
  have a0 : w12.cell? ⟨w.heap.size, 0, none⟩ = some (.slice A0 r.length c0) := HS.cell (cs := #[.slice A0 r.length c0, .slice A1 t.length c1, .slice A2 b.length c2]) (t := 26) (by repeat (first | with_reducible exact List.mem_cons_self | refine List.mem_cons_of_mem _ ?_)) 0 _ rfl
  have a1 : w12.cell? ⟨w.heap.size, 1, none⟩ = some (.slice A1 t.length c1) := HS.cell (cs := #[.slice A0 r.length c0, .slice A1 t.length c1, .slice A2 b.length c2]) (t := 26) (by repeat (first | with_reducible exact List.mem_cons_self | refine List.mem_cons_of_mem _ ?_)) 1 _ rfl
  have a2 : w12.cell? ⟨w.heap.size, 2, none⟩ = some (.slice A2 b.length c2) := HS.cell (cs := #[.slice A0 r.length c0, .slice A1 t.length c1, .slice A2 b.length c2]) (t := 26) (by repeat (first | with_reducible exact List.mem_cons_self | refine List.mem_cons_of_mem _ ?_)) 2 _ rfl
  go_wp2_with fail
  refine (st_toSpace (w0 := w) (by with_reducible exact HS) HR0.out HC0.out HR1.out HC1.out HR2.out HC2.out T0.out T1.out T2.out).mono ?_
  rintro e w13 ⟨Z0, z0, Z1, z1, Z2, z2, rfl, la4, ha4, lb4, hb4, lc4, hc4, HS⟩
  clear a0 a1 a2
  go_wp2_with fail
  refine (st_implX (w0 := w) (by with_reducible exact HS) (by repeat (first | with_reducible exact List.mem_cons_self | refine List.mem_cons_of_mem _ ?_)) (by repeat (first | with_reducible exact List.mem_cons_self | refine List.mem_cons_of_mem _ ?_)) (by repeat (first | with_reducible exact List.mem_cons_self | refine List.mem_cons_of_mem _ ?_)) IM.out).mono ?_
  rintro e w14 ⟨H0, h0, lh, hh_, rfl, HS⟩
  go_wp2_with fail
  refine (st_eqInt64S_ (w0 := w) (by with_reducible exact HS) (by repeat (first | with_reducible exact List.mem_cons_self | refine List.mem_cons_of_mem _ ?_)) (by repeat (first | with_reducible exact List.mem_cons_self | refine List.mem_cons_of_mem _ ?_)) EG.out).mono ?_
  rintro e w15 ⟨rfl, HS⟩
  go_wp2_with fail
  refine (st_heldInt64S_ (w0 := w) (by with_reducible exact HS) (by repeat (first | with_reducible exact List.mem_cons_self | refine List.mem_cons_of_mem _ ?_)) HG.out).mono ?_
  rintro e w16 ⟨rfl, HS⟩
  go_wp2_with fail
  go_ret
  exact ⟨rfl, HS.below⟩
def laws_FnExactFreeFrames.f (l0_0 : List Int) (l0_1 : List (List S93)) (l0_2 : List S82) : Option Bool := some true
theorem laws_FnExactFreeFrames.calls (A0_0 : Option Addr) (c0_0 : Nat) (r : List Int) (A0_1 : Option Addr) (c0_1 : Nat) (t : List (List S93)) (A0_2 : Option Addr) (c0_2 : Nat) (b : List S82) (r1 : Bool) (w : World) (hr0_0 : Kd.C (Kd.int .i64) w A0_0 r.length r) (hc0_0 : r.length ≤ c0_0) (hr0_1 : Kd.C (Kd.slice 93 k93) w A0_1 t.length t) (hc0_1 : t.length ≤ c0_1) (hr0_2 : Kd.C k82 w A0_2 b.length b) (hc0_2 : b.length ≤ c0_2) (h : laws_FnExactFreeFrames.f r t b = some r1) :
    Calls Try.prog 7 #[.agg #[.slice A0_0 r.length c0_0, .slice A0_1 t.length c0_1, .slice A0_2 b.length c0_2]] w fun e w' => e = .returned (.bool r1) ∧ Below w.heap.size w w' := by
  obtain rfl := Option.some.inj h
  have hsz := szSpace_ev r t b 1048576 (by omega) (by omega) hr0_0.2.1 hr0_1.2.1 (fun y hy => rows_len hr0_1 y hy) hr0_2.2.1
  by_cases q : (1048576 : Int) < (r.length : Int) + ((t.length : Int) + (sumLen t : Int)) + b.length
  · rw [if_pos q] at hsz
    exact big A0_0 c0_0 r A0_1 c0_1 t A0_2 c0_2 b w hr0_0 hc0_0 hr0_1 hc0_1 hr0_2 hc0_2 _ (by decide) hsz
  rw [if_neg q] at hsz
  have R1 : r.length ≤ 1048576 := by omega
  have T1 : t.length ≤ 1048576 := by omega
  have B1 : b.length ≤ 1048576 := by omega
  have I1 : ∀ x ∈ t, x.length ≤ 1048576 := fun x hx => by have := sumLen_mem hx; omega
  have T2 : (t.map (List.map cvEntry)).length ≤ 1048576 := by rw [List.length_map]; exact T1
  have B2 : (b.map cvCached).length ≤ 1048576 := by rw [List.length_map]; exact B1
  have I2 : ∀ x ∈ t.map (List.map cvEntry), x.length ≤ 1048576 := fun x hx => by
    obtain ⟨y, hy, rfl⟩ := List.mem_map.1 hx
    rw [List.length_map]; exact I1 y hy
  have S2 : sumLen (t.map (List.map cvEntry)) = sumLen t := by unfold sumLen; rw [List.map_map]; congr 1; exact List.map_congr_left (fun x _ => by simp)
  have t1 := toEntrySS_ev t T1 I1
  have t2 := toCachedS_ev b B1
  generalize hT : t.map (List.map cvEntry) = T at *
  generalize hB : b.map cvCached = B at *
  obtain ⟨hlen, e1, e2⟩ := pagesFreeFrames_ev r T B R1 T2 B2
  generalize pagesFreeFramesV r T B = R at hlen e1 e2
  obtain ⟨R1_, R2_⟩ := R
  obtain ⟨s2, hs2⟩ := markCachedS_ev B (1 + (r.length : Int) + 4 * (sumLen T : Int)) B2 (by omega) (by omega)
  exact walk A0_0 c0_0 r A0_1 c0_1 t A0_2 c0_2 b w hr0_0 hc0_0 hr0_1 hc0_1 hr0_2 hc0_2 T B R1_ R2_ _ (decide_eq_false (by omega)) hsz _ _ _ _ _ _ (decide_eq_false (by omega)) (decide_eq_false (by omega)) (toInt64S_ev r R1) t1 t2 e1 e2 (eqInt64S_ev R1_ hlen) (eqSpace_ev r T B R1 T2 I2 B2) (markInt64S_ev r 1 R1 (by omega) (by omega)) T2 I2 (by omega) (by omega) (by omega) rfl hs2 (markInt64S_ev R1_ 1 hlen (by omega) (by omega)) (heldInt64S_ev R1_.length 1 hlen (by omega) (by omega))

/-- THE ONE PURE STATEMENT of laws_FnExactFreeFrames. -/
def laws_FnExactFreeFrames.Pure : Prop := ∀ (l0_0 : List Int) (l0_1 : List (List (S93))) (l0_2 : List (S82)), (l0_0.length ≤ 9223372036854775807 ∧ ∀ le0_0 ∈ l0_0, (Lit.int .i64 le0_0).wf = true) → (l0_1.length ≤ 9223372036854775807 ∧ ∀ le0_1 ∈ l0_1, (le0_1.length ≤ 9223372036854775807 ∧ ∀ lee0_1 ∈ le0_1, True)) → (l0_2.length ≤ 9223372036854775807 ∧ ∀ le0_2 ∈ l0_2, True) → laws_FnExactFreeFrames.f l0_0 l0_1 l0_2 = some true

end Go.Proofs.Ytpmglamjgfpmnaa.PFnExactFreeFrames
