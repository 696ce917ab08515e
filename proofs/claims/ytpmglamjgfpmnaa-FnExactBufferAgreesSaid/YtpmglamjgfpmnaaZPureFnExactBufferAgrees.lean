/- The statement FnExactBufferAgrees over lists alone: both programs say the same of a buffer. -/
import Derived.Test.YtpmglamjgfpmnaaZPFnExactBufferAgreesx
import Derived.Test.YtpmglamjgfpmnaaZX2
import Derived.Test.YtpmglamjgfpmnaaZX7
namespace Go.Proofs.Ytpmglamjgfpmnaa.Pure
open Go.RowKit Go.Proofs.YtpmglamjgfpmnaaW.PrintWords Go.Proofs.Ytpmglamjgfpmnaa.PFnExactBufferAgrees
set_option linter.unusedVariables false
set_option linter.unusedSimpArgs false

theorem in_spec (a b c : Int) : spec_l00In.f a b c = some (decide (b ≤ a) && decide (a ≤ c)) := by
  unfold spec_l00In.f
  by_cases h : b ≤ a <;> simp [h]
def sumLen {α : Type} (l : List (List α)) : Nat := (l.map List.length).sum
theorem sumLen_cons {α : Type} (x : List α) (l : List (List α)) : sumLen (x :: l) = x.length + sumLen l := by simp [sumLen]
theorem sumLen_mem {α : Type} {l : List (List α)} {x : List α} (h : x ∈ l) : x.length ≤ sumLen l := by
  induction l with
  | nil => simp at h
  | cons y l ih =>
    rw [sumLen_cons]
    rcases List.mem_cons.1 h with rfl | h
    · omega
    · have := ih h; omega
theorem getD_mem {α : Type} (l : List α) (i : Nat) (z : α) (h : i < l.length) : l.getD i z ∈ l := by
  rw [getD_lt l i z h]; exact List.getElem_mem h
theorem szInt64S_f (l : List Int) (a : Int) (h0 : 0 ≤ a) (h1 : a ≤ 1048576) (hl : l.length ≤ 9223372036854775807) : laws_szInt64S.f l a = some (if a < l.length then -1 else a - l.length) := by
  unfold laws_szInt64S.f
  rw [wrap_id (by omega) (by omega)]
  by_cases h : a < l.length
  · rw [if_pos (by omega), if_pos h]
  · rw [if_neg (by omega), if_neg h]
theorem szEntryS_f (l : List S93) (a : Int) (h0 : 0 ≤ a) (h1 : a ≤ 1048576) (hl : l.length ≤ 9223372036854775807) : laws_szEntryS.f l a = some (if a < l.length then -1 else a - l.length) := by
  unfold laws_szEntryS.f
  rw [wrap_id (by omega) (by omega)]
  by_cases h : a < l.length
  · rw [if_pos (by omega), if_pos h]
  · rw [if_neg (by omega), if_neg h]
theorem szEntrySS_ev (l : List (List (S93))) (a : Int) (h0 : 0 ≤ a) (h1 : a ≤ 1048576) (hl : l.length ≤ 9223372036854775807) (hi : ∀ x ∈ l, x.length ≤ 9223372036854775807) :
    Ev (fun k => laws_szEntrySS.f k l a) (if a < (l.length : Int) + (sumLen l : Int) then -1 else a - ((l.length : Int) + (sumLen l : Int))) := by
  unfold laws_szEntrySS.f
  rw [wrap_id (by omega) (by omega)]
  by_cases h : a < l.length
  · refine Ev.pos (by omega) (Ev.some ?_)
    rw [if_pos (by omega)]
  · refine Ev.neg (by omega) ?_
    have key : ∀ d i (b : Int), l.length - i = d → i ≤ l.length → 0 ≤ b → b ≤ 1048576 → Ev (fun k => laws_szEntrySS.l0 k l b (i : Int)) (if b < (sumLen (l.drop i) : Int) then -1 else b - (sumLen (l.drop i) : Int)) := by
      intro d
      induction d with
      | zero =>
        intro i b hd hi' hb0 hb1
        refine Ev.succ ?_
        simp only [laws_szEntrySS.l0]
        refine Ev.neg (by omega) (Ev.some ?_)
        rw [List.drop_eq_nil_of_le (by omega)]
        simp [sumLen]; omega
      | succ d ih =>
        intro i b hd hi' hb0 hb1
        refine Ev.succ ?_
        simp only [laws_szEntrySS.l0]
        have hx := hi _ (getD_mem l i [] (by omega))
        refine Ev.pos (by omega) (Ev.pos (by omega) (Ev.bindc (szEntryS_f (l.getD i []) b hb0 hb1 hx) ?_))
        rw [drop_cons l i [] (by omega), sumLen_cons]
        generalize l.getD i [] = x at hx ⊢
        by_cases hx2 : b < x.length
        · rw [if_pos hx2]
          refine Ev.pos (by omega) (Ev.some ?_)
          rw [if_pos (by omega)]
        · rw [if_neg hx2]
          refine Ev.neg (by omega) ?_
          rw [wrap_succ (show i < l.length by omega) (by omega)]
          have := ih (i + 1) (b - x.length) (by omega) (by omega) (by omega) (by omega)
          rw [show (if b < ((x.length + sumLen (l.drop (i + 1)) : Nat) : Int) then (-1 : Int) else b - ((x.length + sumLen (l.drop (i + 1)) : Nat) : Int)) = (if b - x.length < (sumLen (l.drop (i + 1)) : Int) then (-1 : Int) else b - x.length - (sumLen (l.drop (i + 1)) : Int)) by split <;> split <;> omega]
          exact this
    have := key l.length 0 (a - l.length) (by omega) (by omega) (by omega) (by omega)
    rw [List.drop_zero] at this
    rw [show (if a < (l.length : Int) + (sumLen l : Int) then (-1 : Int) else a - ((l.length : Int) + (sumLen l : Int))) = (if a - l.length < (sumLen l : Int) then (-1 : Int) else a - l.length - (sumLen l : Int)) by split <;> split <;> omega]
    exact this
theorem szCachedS_f (l : List S82) (a : Int) (h0 : 0 ≤ a) (h1 : a ≤ 1048576) (hl : l.length ≤ 9223372036854775807) : laws_szCachedS.f l a = some (if a < l.length then -1 else a - l.length) := by
  unfold laws_szCachedS.f
  rw [wrap_id (by omega) (by omega)]
  by_cases h : a < l.length
  · rw [if_pos (by omega), if_pos h]
  · rw [if_neg (by omega), if_neg h]
theorem toInt64S_ev (l : List Int) (h : l.length ≤ 1048576) : Ev (fun k => laws_toInt64S.f k l) l := by
  unfold laws_toInt64S.f
  refine Ev.pos (by omega) (Ev.pos (by omega) ?_)
  refine Ev.upto (F := fun k s i => laws_toInt64S.l0 k l s i) (n := l.length) (r := l) (fun i s => s = (l.take i).map id ++ List.replicate (l.length - i) 0) ?_ ?_ 0 (Nat.zero_le _) _ (by simp)
  · intro i s hi hs ih
    have hsl : s.length = l.length := by rw [hs]; simp; omega
    refine Ev.succ ?_
    simp only [laws_toInt64S.l0]
    refine Ev.pos (by omega) (Ev.pos (by omega) (Ev.pos (by omega) ?_))
    rw [wrap_succ hi (by omega)]
    refine ih _ ?_
    rw [hs, Int.toNat_natCast]
    exact fill_next id l 0 0 i hi _ rfl
  · intro s hs
    refine Ev.succ ?_
    simp only [laws_toInt64S.l0]
    exact Ev.neg (by omega) (Ev.some (by rw [hs]; simp))
def cvEntry (x : S93) : S37 := ⟨x.f0, x.f1, x.f2, x.f3⟩
theorem toEntryS_ev (l : List S93) (h : l.length ≤ 1048576) : Ev (fun k => laws_toEntryS.f k l) (l.map cvEntry) := by
  unfold laws_toEntryS.f
  refine Ev.pos (by omega) (Ev.pos (by omega) ?_)
  refine Ev.upto (F := fun k s i => laws_toEntryS.l0 k l s i) (n := l.length) (r := l.map cvEntry) (fun i s => s = (l.take i).map cvEntry ++ List.replicate (l.length - i) z37) ?_ ?_ 0 (Nat.zero_le _) _ (by simp)
  · intro i s hi hs ih
    have hsl : s.length = l.length := by rw [hs]; simp; omega
    refine Ev.succ ?_
    simp only [laws_toEntryS.l0]
    refine Ev.pos (by omega) (Ev.pos (by omega) (Ev.bindc (a := ((rd_T93 l (i : Int)).f0, (rd_T93 l (i : Int)).f1, (rd_T93 l (i : Int)).f2, (rd_T93 l (i : Int)).f3)) rfl (Ev.pos (by omega) ?_)))
    rw [wrap_succ hi (by omega)]
    refine ih _ ?_
    rw [hs, Int.toNat_natCast]
    exact fill_next cvEntry l z37 z93 i hi _ rfl
  · intro s hs
    refine Ev.succ ?_
    simp only [laws_toEntryS.l0]
    exact Ev.neg (by omega) (Ev.some (by rw [hs]; simp))
theorem toEntrySS_ev (l : List (List (S93))) (h : l.length ≤ 1048576) (hi : ∀ x ∈ l, x.length ≤ 1048576) : Ev (fun k => laws_toEntrySS.f k l) (l.map (List.map cvEntry)) := by
  unfold laws_toEntrySS.f
  refine Ev.pos (by omega) (Ev.pos (by omega) ?_)
  refine Ev.upto (F := fun k s i => laws_toEntrySS.l0 k l s i) (n := l.length) (r := l.map (List.map cvEntry)) (fun i s => s = (l.take i).map (List.map cvEntry) ++ List.replicate (l.length - i) []) ?_ ?_ 0 (Nat.zero_le _) _ (by simp)
  · intro i s hi' hs ih
    have hsl : s.length = l.length := by rw [hs]; simp; omega
    refine Ev.succ ?_
    simp only [laws_toEntrySS.l0]
    refine Ev.pos (by omega) (Ev.pos (by omega) (Ev.bind (toEntryS_ev (l.getD i []) (hi _ (getD_mem l i [] hi'))) (Ev.pos (by omega) ?_)))
    rw [wrap_succ hi' (by omega)]
    refine ih _ ?_
    rw [hs, Int.toNat_natCast]
    exact fill_next (List.map cvEntry) l [] [] i hi' _ rfl
  · intro s hs
    refine Ev.succ ?_
    simp only [laws_toEntrySS.l0]
    exact Ev.neg (by omega) (Ev.some (by rw [hs]; simp))
def cvCached (x : S82) : S53 := ⟨x.f0, x.f1, x.f2⟩
theorem toCachedS_ev (l : List S82) (h : l.length ≤ 1048576) : Ev (fun k => laws_toCachedS.f k l) (l.map cvCached) := by
  unfold laws_toCachedS.f
  refine Ev.pos (by omega) (Ev.pos (by omega) ?_)
  refine Ev.upto (F := fun k s i => laws_toCachedS.l0 k l s i) (n := l.length) (r := l.map cvCached) (fun i s => s = (l.take i).map cvCached ++ List.replicate (l.length - i) z53) ?_ ?_ 0 (Nat.zero_le _) _ (by simp)
  · intro i s hi hs ih
    have hsl : s.length = l.length := by rw [hs]; simp; omega
    refine Ev.succ ?_
    simp only [laws_toCachedS.l0]
    refine Ev.pos (by omega) (Ev.pos (by omega) (Ev.bindc (a := ((rd_T82 l (i : Int)).f0, (rd_T82 l (i : Int)).f1, (rd_T82 l (i : Int)).f2)) rfl (Ev.pos (by omega) ?_)))
    rw [wrap_succ hi (by omega)]
    refine ih _ ?_
    rw [hs, Int.toNat_natCast]
    exact fill_next cvCached l z53 z82 i hi _ rfl
  · intro s hs
    refine Ev.succ ?_
    simp only [laws_toCachedS.l0]
    exact Ev.neg (by omega) (Ev.some (by rw [hs]; simp))
theorem eqInt64S_ev (l : List Int) (h : l.length ≤ 1048576) : Ev (fun k => laws_eqInt64S.f k l l) true := by
  unfold laws_eqInt64S.f
  refine Ev.pos rfl ?_
  refine Ev.upto (F := fun k (_ : Unit) i => laws_eqInt64S.l0 k l l i) (n := l.length) (r := true) (fun _ _ => True) ?_ ?_ 0 (Nat.zero_le _) () trivial
  · intro i s hi _ ih
    refine Ev.succ ?_
    simp only [laws_eqInt64S.l0]
    refine Ev.pos (by omega) (Ev.pos (by omega) (Ev.pos (by omega) (Ev.pos (by simp) ?_)))
    rw [wrap_succ hi (by omega)]
    exact ih () trivial
  · intro s _
    refine Ev.succ ?_
    simp only [laws_eqInt64S.l0]
    exact Ev.neg (by omega) (Ev.some rfl)
theorem eqEntryS_ev (l : List S37) (h : l.length ≤ 1048576) : Ev (fun k => laws_eqEntryS.f k l l) true := by
  unfold laws_eqEntryS.f
  refine Ev.pos rfl ?_
  refine Ev.upto (F := fun k (_ : Unit) i => laws_eqEntryS.l0 k l l i) (n := l.length) (r := true) (fun _ _ => True) ?_ ?_ 0 (Nat.zero_le _) () trivial
  · intro i s hi _ ih
    refine Ev.succ ?_
    simp only [laws_eqEntryS.l0]
    refine Ev.pos (by omega) (Ev.pos (by omega) (Ev.pos (by omega) (Ev.bindc (a := true) (by simp [laws_eqEntry.f]) (Ev.pos rfl ?_))))
    rw [wrap_succ hi (by omega)]
    exact ih () trivial
  · intro s _
    refine Ev.succ ?_
    simp only [laws_eqEntryS.l0]
    exact Ev.neg (by omega) (Ev.some rfl)
theorem eqEntrySS_ev (l : List (List (S37))) (h : l.length ≤ 1048576) (hi : ∀ x ∈ l, x.length ≤ 1048576) : Ev (fun k => laws_eqEntrySS.f k l l) true := by
  unfold laws_eqEntrySS.f
  refine Ev.pos rfl ?_
  refine Ev.upto (F := fun k (_ : Unit) i => laws_eqEntrySS.l0 k l l i) (n := l.length) (r := true) (fun _ _ => True) ?_ ?_ 0 (Nat.zero_le _) () trivial
  · intro i s hi' _ ih
    refine Ev.succ ?_
    simp only [laws_eqEntrySS.l0]
    refine Ev.pos (by omega) (Ev.pos (by omega) (Ev.pos (by omega) (Ev.bind (eqEntryS_ev (l.getD i []) (hi _ (getD_mem l i [] hi'))) (Ev.pos rfl ?_))))
    rw [wrap_succ hi' (by omega)]
    exact ih () trivial
  · intro s _
    refine Ev.succ ?_
    simp only [laws_eqEntrySS.l0]
    exact Ev.neg (by omega) (Ev.some rfl)
theorem eqCachedS_ev (l : List S53) (h : l.length ≤ 1048576) : Ev (fun k => laws_eqCachedS.f k l l) true := by
  unfold laws_eqCachedS.f
  refine Ev.pos rfl ?_
  refine Ev.upto (F := fun k (_ : Unit) i => laws_eqCachedS.l0 k l l i) (n := l.length) (r := true) (fun _ _ => True) ?_ ?_ 0 (Nat.zero_le _) () trivial
  · intro i s hi _ ih
    refine Ev.succ ?_
    simp only [laws_eqCachedS.l0]
    refine Ev.pos (by omega) (Ev.pos (by omega) (Ev.pos (by omega) (Ev.bindc (a := true) (by simp [laws_eqCached.f]) (Ev.pos rfl ?_))))
    rw [wrap_succ hi (by omega)]
    exact ih () trivial
  · intro s _
    refine Ev.succ ?_
    simp only [laws_eqCachedS.l0]
    exact Ev.neg (by omega) (Ev.some rfl)
def tabAt (root : List Int) (tabs : List (List S37)) (i : Nat) : Bool := decide (root.count (i : Int) = 1) && decide ((tabs.getD i []).length = 8)
def rootIn (root : List Int) (n : Int) : Bool := root.all fun r => decide (-1 ≤ r) && decide (r ≤ n - 1)
def tabS (root : List Int) (tabs : List (List S37)) : Bool := ((root.length : Int) == 8) && (!(decide ((tabs.length : Int) > 8)) && (((List.range tabs.length).all (tabAt root tabs)) && rootIn root (tabs.length : Int)))
theorem specTabRoot_ev (root : List Int) (tabs : List (List S37)) (buf : List S53) (hr : root.length ≤ 1048576) (ht : tabs.length ≤ 1048576) : Ev (fun k => spec_l08Tables.l2 k 0 root tabs buf) (rootIn root (tabs.length : Int)) := by
  refine Ev.upto (F := fun k (_ : Unit) i => spec_l08Tables.l2 k i root tabs buf) (n := root.length) (r := rootIn root (tabs.length : Int)) (fun i _ => ((root.take i).all fun r => decide (-1 ≤ r) && decide (r ≤ (tabs.length : Int) - 1)) = true) ?_ ?_ 0 (Nat.zero_le _) () (by simp)
  · intro i s hi hs ih
    refine Ev.succ ?_
    simp only [spec_l08Tables.l2]
    have hrd : rd root (i : Int) = root.getD i 0 := rfl
    rw [hrd, wrap_succ hi (by omega), wrap_id (show -9223372036854775808 ≤ (tabs.length : Int) - 1 by omega) (by omega)]
    refine Ev.pos (by omega) (Ev.pos (by omega) (Ev.bindc (in_spec _ _ _) ?_))
    by_cases hin : (decide (-1 ≤ root.getD i 0) && decide (root.getD i 0 ≤ (tabs.length : Int) - 1)) = true
    · refine Ev.pos hin (ih () ?_)
      rw [take_succ root i 0 hi, List.all_append, hs, List.all_cons, hin]
      rfl
    · refine Ev.neg hin (Ev.some (Eq.symm (Bool.eq_false_iff.2 (fun hc => hin ?_))))
      unfold rootIn at hc
      exact List.all_eq_true.1 hc _ (getD_mem root i 0 hi)
  · intro s hs
    refine Ev.succ ?_
    simp only [spec_l08Tables.l2]
    rw [List.take_length] at hs
    exact Ev.neg (by omega) (Ev.some hs.symm)
theorem specTab_l1 (root : List Int) (tabs : List (List S37)) (buf : List S53) (hr : root.length ≤ 1048576) (i : Nat) (hi : i < tabs.length) (ht : tabs.length ≤ 1048576) (rn : Bool) (hn : Ev (fun k => spec_l08Tables.l0 k ((i + 1 : Nat) : Int) root tabs buf) rn) :
    Ev (fun k => spec_l08Tables.l1 k (i : Int) 0 0 root tabs buf) (tabAt root tabs i && rn) := by
  have key : ∀ e j (c : Nat), root.length - j = e → j ≤ root.length → c ≤ j → Ev (fun k => spec_l08Tables.l1 k (i : Int) (c : Int) (j : Int) root tabs buf) ((decide (c + (root.drop j).count (i : Int) = 1) && decide ((tabs.getD i []).length = 8)) && rn) := by
    intro e
    induction e with
    | zero =>
      intro j c he hj hc
      refine Ev.succ ?_
      simp only [spec_l08Tables.l1]
      have hd : root.drop j = [] := List.drop_eq_nil_of_le (by omega)
      rw [hd, List.count_nil, Nat.add_zero, wrap_succ hi (by omega)]
      refine Ev.neg (by omega) ?_
      by_cases h1 : c = 1
      · refine Ev.pos (by omega) (Ev.pos (by omega) (Ev.pos (by omega) ?_))
        by_cases h8 : (tabs.getD i []).length = 8
        · rw [decide_eq_true h1, decide_eq_true h8, Bool.true_and, Bool.true_and]
          exact Ev.pos (by show ((tabs.getD i []).length : Int) = 8; omega) hn
        · rw [decide_eq_false h8, Bool.and_false, Bool.false_and]
          exact Ev.neg (by show ¬ ((tabs.getD i []).length : Int) = 8; omega) (Ev.some rfl)
      · rw [decide_eq_false h1, Bool.false_and, Bool.false_and]
        exact Ev.neg (by omega) (Ev.some rfl)
    | succ e ih =>
      intro j c he hj hc
      refine Ev.succ ?_
      simp only [spec_l08Tables.l1]
      have hjl : j < root.length := by omega
      have hrd : rd root (j : Int) = root.getD j 0 := rfl
      rw [hrd, drop_cons root j 0 hjl, List.count_cons, wrap_succ hjl (by omega)]
      refine Ev.pos (by omega) (Ev.pos (by omega) ?_)
      by_cases hx : root.getD j 0 = (i : Int)
      · have := ih (j + 1) (c + 1) (by omega) (by omega) (by omega)
        rw [wrap_succ (show c < root.length by omega) (by omega)]
        refine Ev.pos hx ?_
        rw [hx, beq_self_eq_true, if_pos rfl, show c + (List.count (i : Int) (root.drop (j + 1)) + 1) = c + 1 + List.count (i : Int) (root.drop (j + 1)) by omega]
        exact this
      · refine Ev.neg hx ?_
        rw [if_neg (by simpa using hx), Nat.add_zero]
        exact ih (j + 1) c (by omega) (by omega) (by omega)
  have := key root.length 0 0 (by omega) (by omega) (by omega)
  rw [List.drop_zero, Nat.zero_add] at this
  exact this
theorem specTables_ev (root : List Int) (tabs : List (List S37)) (buf : List S53) (hr : root.length ≤ 1048576) (ht : tabs.length ≤ 1048576) : Ev (fun k => spec_l08Tables.f k root tabs buf) (tabS root tabs) := by
  have j0t : Ev (fun k => spec_l08Tables.j0 k true root tabs buf) false := by
    refine Ev.succ ?_
    simp only [spec_l08Tables.j0]
    exact Ev.pos (by simp) (Ev.some rfl)
  have l0 : ∀ d i, tabs.length - i = d → i ≤ tabs.length → Ev (fun k => spec_l08Tables.l0 k (i : Int) root tabs buf) (((List.range' i (tabs.length - i)).all (tabAt root tabs)) && rootIn root (tabs.length : Int)) := by
    intro d
    induction d with
    | zero =>
      intro i hd hi
      refine Ev.succ ?_
      simp only [spec_l08Tables.l0]
      rw [hd]
      exact Ev.neg (by omega) (specTabRoot_ev root tabs buf hr ht)
    | succ d ih =>
      intro i hd hi
      refine Ev.succ ?_
      simp only [spec_l08Tables.l0]
      have hn := ih (i + 1) (by omega) (by omega)
      rw [show tabs.length - (i + 1) = d by omega] at hn
      rw [hd, List.range'_succ, List.all_cons, Bool.and_assoc]
      exact Ev.pos (by omega) (specTab_l1 root tabs buf hr i (by omega) ht _ hn)
  unfold spec_l08Tables.f tabS
  by_cases h1 : (root.length : Int) = 8
  · refine Ev.pos h1 ?_
    rw [beq_iff_eq.2 h1, Bool.true_and]
    by_cases h2 : (tabs.length : Int) > 8
    · rw [decide_eq_true h2]
      exact j0t
    · rw [decide_eq_false h2, Bool.not_false, Bool.true_and]
      refine Ev.succ ?_
      simp only [spec_l08Tables.j0]
      refine Ev.neg (by simp) ?_
      have := l0 tabs.length 0 (by omega) (by omega)
      rw [Nat.sub_zero, ← List.range_eq_range'] at this
      exact this
  · refine Ev.neg h1 ?_
    rw [beq_eq_false_iff_ne.2 h1, Bool.false_and]
    exact j0t
def Rep (taken : List Bool) (F : List Int) : Prop := taken.length = 16 ∧ ∀ a : Int, 0 ≤ a → a < 16 → (rdOf false taken a = true ↔ a ∈ F)
theorem rep_start : Rep (List.replicate 16 false) [] := by
  refine ⟨by simp, fun a h0 h1 => ?_⟩
  have : rdOf false (List.replicate 16 false) a = false := by
    unfold rdOf
    rw [getD_lt _ _ _ (by rw [List.length_replicate]; omega), List.getElem_replicate]
  rw [this]
  simp
theorem rep_set {taken : List Bool} {F : List Int} (h : Rep taken F) (a : Int) (h0 : 0 ≤ a) (h1 : a < 16) : Rep (taken.set a.toNat true) (F ++ [a]) := by
  refine ⟨by rw [List.length_set]; exact h.1, fun b b0 b1 => ?_⟩
  have hb := h.2 b b0 b1
  have l16 := h.1
  by_cases e : b = a
  · subst e
    have : rdOf false (taken.set b.toNat true) b = true := by
      unfold rdOf
      rw [getD_lt _ _ _ (by rw [List.length_set]; omega)]
      simp
    rw [this]
    simp
  · have : rdOf false (taken.set a.toNat true) b = rdOf false taken b := by
      unfold rdOf
      rw [getD_lt _ _ _ (by rw [List.length_set]; omega), getD_lt _ _ _ (by omega), List.getElem_set_ne (by omega)]
    rw [this, hb, List.mem_append, List.mem_singleton]
    constructor
    · exact Or.inl
    · rintro (h_ | h_)
      · exact h_
      · exact absurd h_ e
def entsOk (tabs : List (List S37)) : Prop := ∀ t ∈ tabs, ∀ y ∈ t, entB y = true
theorem entries_ev (root : List Int) (tabs : List (List S37)) (buf : List S53) (bo : Bool) (h8 : tabs.length ≤ 8) (ht : ∀ t ∈ tabs, t.length = 8) (hbuf : Ev (fun k => spec_l08Is.l2 k 0 root tabs buf) bo) :
    ∀ d i taken F, tabs.length - i = d → i ≤ tabs.length → Rep taken F → F.Nodup → ∃ v, Ev (fun k => spec_l08Is.l0 k taken (i : Int) root tabs buf) v ∧ ((entsOk (tabs.drop i) ∧ (F ++ framesL (tabs.drop i)).Nodup) ∧ v = bo ∨ ¬ (entsOk (tabs.drop i) ∧ (F ++ framesL (tabs.drop i)).Nodup) ∧ v = false) := by
  intro d
  induction d with
  | zero =>
    intro i taken F hd hi hrep hn
    refine ⟨bo, ?_, Or.inl ⟨⟨?_, ?_⟩, rfl⟩⟩
    · refine Ev.succ ?_
      simp only [spec_l08Is.l0]
      exact Ev.neg (by omega) hbuf
    · rw [List.drop_eq_nil_of_le (by omega)]
      intro t ht'
      simp at ht'
    · rw [List.drop_eq_nil_of_le (by omega)]
      simpa [framesL] using hn
  | succ d ih =>
    intro i taken F hd hi hrep hn
    have hlt : i < tabs.length := by omega
    have hm : (tabs.getD i []).length = 8 := ht _ (by rw [getD_lt tabs i [] hlt]; exact List.getElem_mem _)
    have hdr := drop_cons tabs i [] hlt
    have hfl : framesL (tabs.drop i) = framesT (tabs.getD i []) ++ framesL (tabs.drop (i + 1)) := by
      rw [hdr]; unfold framesL; rw [List.map_cons, List.flatten_cons]
    have hen : entsOk (tabs.drop i) ↔ (∀ y ∈ tabs.getD i [], entB y = true) ∧ entsOk (tabs.drop (i + 1)) := by
      rw [hdr]; unfold entsOk; simp
    rw [hfl]
    have inner : ∀ (e j : Nat) (taken : List Bool) (F : List Int), 8 - j = e → j ≤ 8 → Rep taken F → F.Nodup → ∃ v, Ev (fun k => spec_l08Is.l1 k taken (i : Int) (j : Int) root tabs buf) v ∧
        (((∀ y ∈ (tabs.getD i []).drop j, entB y = true) ∧ entsOk (tabs.drop (i + 1)) ∧ (F ++ (framesT ((tabs.getD i []).drop j) ++ framesL (tabs.drop (i + 1)))).Nodup) ∧ v = bo ∨
          ¬ ((∀ y ∈ (tabs.getD i []).drop j, entB y = true) ∧ entsOk (tabs.drop (i + 1)) ∧ (F ++ (framesT ((tabs.getD i []).drop j) ++ framesL (tabs.drop (i + 1)))).Nodup) ∧ v = false) := by
      intro e
      induction e with
      | zero =>
        intro j taken F he hj hrep hn
        obtain ⟨v, hv, hw⟩ := ih (i + 1) taken F (by omega) (by omega) hrep hn
        refine ⟨v, ?_, ?_⟩
        · refine Ev.succ ?_
          simp only [spec_l08Is.l1]
          rw [wrap_succ hlt (by omega)]
          exact Ev.neg (by omega) hv
        · rw [List.drop_eq_nil_of_le (show (tabs.getD i []).length ≤ j by omega)]
          simpa [framesT] using hw
      | succ e ihe =>
        intro j taken F he hj hrep hn
        have hjl : j < (tabs.getD i []).length := by omega
        have hdj := drop_cons (tabs.getD i []) j z37 hjl
        obtain ⟨y, hy⟩ : ∃ y, y = (tabs.getD i []).getD j z37 := ⟨_, rfl⟩
        have hl16 := hrep.1
        have step : ∀ v, Ev (fun k => spec_l08Is.j3 k taken (i : Int) (j : Int) (decide (y.f0 = -1) && (!y.f1 && (!y.f2 && !y.f3))) root tabs buf y.f0 y.f1 y.f2 y.f3) v → Ev (fun k => spec_l08Is.l1 k taken (i : Int) (j : Int) root tabs buf) v := by
          intro v hv
          refine Ev.succ ?_
          simp only [spec_l08Is.l1]
          refine Ev.pos (by omega) (Ev.pos (by omega) (Ev.pos (by omega) (Ev.pos (by omega) (Ev.pos (by show (j : Int) < ((tabs.getD i []).length : Int); omega) ?_))))
          have hy' : rd_T37 (tabs.getD i []) (j : Int) = y := by rw [hy]; rfl
          change Ev (fun n => if (rd_T37 (tabs.getD i []) (j : Int)).f0 = -1 then (if (rd_T37 (tabs.getD i []) (j : Int)).f1 = true then spec_l08Is.j3 n taken (i : Int) (j : Int) false root tabs buf (rd_T37 (tabs.getD i []) (j : Int)).f0 (rd_T37 (tabs.getD i []) (j : Int)).f1 (rd_T37 (tabs.getD i []) (j : Int)).f2 (rd_T37 (tabs.getD i []) (j : Int)).f3 else (if (rd_T37 (tabs.getD i []) (j : Int)).f2 = true then spec_l08Is.j3 n taken (i : Int) (j : Int) false root tabs buf (rd_T37 (tabs.getD i []) (j : Int)).f0 (rd_T37 (tabs.getD i []) (j : Int)).f1 (rd_T37 (tabs.getD i []) (j : Int)).f2 (rd_T37 (tabs.getD i []) (j : Int)).f3 else spec_l08Is.j3 n taken (i : Int) (j : Int) (!(rd_T37 (tabs.getD i []) (j : Int)).f3) root tabs buf (rd_T37 (tabs.getD i []) (j : Int)).f0 (rd_T37 (tabs.getD i []) (j : Int)).f1 (rd_T37 (tabs.getD i []) (j : Int)).f2 (rd_T37 (tabs.getD i []) (j : Int)).f3)) else spec_l08Is.j3 n taken (i : Int) (j : Int) false root tabs buf (rd_T37 (tabs.getD i []) (j : Int)).f0 (rd_T37 (tabs.getD i []) (j : Int)).f1 (rd_T37 (tabs.getD i []) (j : Int)).f2 (rd_T37 (tabs.getD i []) (j : Int)).f3) v
          rw [hy']
          by_cases c0 : y.f0 = -1
          · refine Ev.pos c0 ?_
            rw [decide_eq_true c0, Bool.true_and] at hv
            cases c1 : y.f1 with
            | true =>
              rw [c1] at hv
              exact Ev.pos rfl hv
            | false =>
              rw [c1] at hv
              refine Ev.neg (by simp) ?_
              cases c2 : y.f2 with
              | true =>
                rw [c2] at hv
                exact Ev.pos rfl hv
              | false =>
                rw [c2] at hv
                exact Ev.neg (by simp) hv
          · rw [decide_eq_false c0, Bool.false_and] at hv
            exact Ev.neg c0 hv
        rw [hdj, ← hy]
        by_cases ce : (decide (y.f0 = -1) && (!y.f1 && (!y.f2 && !y.f3))) = true
        · obtain ⟨v, hv, hw⟩ := ihe (j + 1) taken F (by omega) (by omega) hrep hn
          have c0 : y.f0 = -1 := of_decide_eq_true (Bool.and_eq_true _ _ ▸ ce).1
          have heb : entB y = true := by
            unfold entB
            rw [if_pos c0]
            exact (Bool.and_eq_true _ _ ▸ ce).2
          refine ⟨v, step v ?_, ?_⟩
          · rw [ce]
            refine Ev.succ ?_
            simp only [spec_l08Is.j3]
            rw [wrap_succ (show j < 8 by omega) (by omega)]
            exact Ev.pos (by simp) hv
          · rw [framesT_cons, if_neg (by omega)]
            simpa [heb] using hw
        · have ce' := Bool.eq_false_iff.2 ce
          have bad : entB y = false → ∃ v, Ev (fun k => spec_l08Is.j3 k taken (i : Int) (j : Int) false root tabs buf y.f0 y.f1 y.f2 y.f3) false → Ev (fun k => spec_l08Is.l1 k taken (i : Int) (j : Int) root tabs buf) v ∧
              (((∀ z ∈ y :: (tabs.getD i []).drop (j + 1), entB z = true) ∧ entsOk (tabs.drop (i + 1)) ∧ (F ++ (framesT (y :: (tabs.getD i []).drop (j + 1)) ++ framesL (tabs.drop (i + 1)))).Nodup) ∧ v = bo ∨
                ¬ ((∀ z ∈ y :: (tabs.getD i []).drop (j + 1), entB z = true) ∧ entsOk (tabs.drop (i + 1)) ∧ (F ++ (framesT (y :: (tabs.getD i []).drop (j + 1)) ++ framesL (tabs.drop (i + 1)))).Nodup) ∧ v = false) := fun hb =>
            ⟨false, fun hj3 => ⟨step false (by rw [ce']; exact hj3), Or.inr ⟨fun hA => (by have h_ := hA.1 y List.mem_cons_self; rw [hb] at h_; cases h_), rfl⟩⟩⟩
          have j3s : ∀ v, Ev (fun k => (spec_l08Frame.f y.f0).bind fun t121 => (if t121 = true then (if 0 ≤ y.f0 then (if y.f0 < (taken.length : Int) then (if rdOf false taken y.f0 = true then (some false) else (if y.f3 = true then (if y.f2 = true then (spec_l08Is.l1 k (taken.set (y.f0 : Int).toNat true) (i : Int) (wrap64 ((j : Int) + 1)) root tabs buf) else (some false)) else (spec_l08Is.l1 k (taken.set (y.f0 : Int).toNat true) (i : Int) (wrap64 ((j : Int) + 1)) root tabs buf))) else (none)) else (none)) else (some false))) v → Ev (fun k => spec_l08Is.j3 k taken (i : Int) (j : Int) false root tabs buf y.f0 y.f1 y.f2 y.f3) v := by
            intro v hv
            refine Ev.succ ?_
            simp only [spec_l08Is.j3]
            exact Ev.neg (by simp) hv
          have hframe : spec_l08Frame.f y.f0 = some (decide (0 ≤ y.f0) && decide (y.f0 ≤ 15)) := by
            unfold spec_l08Frame.f
            rw [in_spec]
            rfl
          by_cases fr : (decide (0 ≤ y.f0) && decide (y.f0 ≤ 15)) = true
          · have f0 : 0 ≤ y.f0 := of_decide_eq_true (Bool.and_eq_true _ _ ▸ fr).1
            have f1 : y.f0 ≤ 15 := of_decide_eq_true (Bool.and_eq_true _ _ ▸ fr).2
            have hmem := hrep.2 y.f0 f0 (by omega)
            have heb : entB y = (y.f2 || !y.f3) := by
              unfold entB
              rw [if_neg (by omega), fr, Bool.true_and]
            have hft : framesT (y :: (tabs.getD i []).drop (j + 1)) = y.f0 :: framesT ((tabs.getD i []).drop (j + 1)) := by rw [framesT_cons, if_pos f0]
            by_cases tk : rdOf false taken y.f0 = true
            · refine ⟨false, step false ?_, Or.inr ⟨fun hA => ?_, rfl⟩⟩
              · rw [ce']
                exact j3s _ (Ev.bindc hframe (Ev.pos fr (Ev.pos f0 (Ev.pos (by omega) (Ev.pos tk (Ev.some rfl))))))
              · have hn' := hA.2.2
                rw [hft] at hn'
                exact (List.nodup_append.1 hn').2.2 y.f0 (hmem.1 tk) y.f0 (by simp) rfl
            · have hnF : y.f0 ∉ F := fun h_ => tk (hmem.2 h_)
              by_cases ok : (y.f2 || !y.f3) = true
              · obtain ⟨v, hv, hw⟩ := ihe (j + 1) (taken.set y.f0.toNat true) (F ++ [y.f0]) (by omega) (by omega) (rep_set hrep y.f0 f0 (by omega)) (by rw [List.nodup_append]; exact ⟨hn, by simp, fun a ha b hb e => by rw [List.mem_singleton] at hb; subst hb; subst e; exact hnF ha⟩)
                refine ⟨v, step v ?_, ?_⟩
                · rw [ce']
                  refine j3s _ (Ev.bindc hframe (Ev.pos fr (Ev.pos f0 (Ev.pos (by omega) (Ev.neg tk ?_)))))
                  rw [wrap_succ (show j < 8 by omega) (by omega)]
                  by_cases h3 : y.f3 = true
                  · have h2 : y.f2 = true := by rw [h3] at ok; simpa using ok
                    exact Ev.pos h3 (Ev.pos h2 hv)
                  · exact Ev.neg h3 hv
                · rw [hft]
                  simpa [heb, ok] using hw
              · obtain ⟨v, hv⟩ := bad (by rw [heb]; exact Bool.eq_false_iff.2 ok)
                refine ⟨v, hv ?_⟩
                refine j3s _ (Ev.bindc hframe (Ev.pos fr (Ev.pos f0 (Ev.pos (by omega) (Ev.neg tk ?_)))))
                have h3 : y.f3 = true := by cases h_ : y.f3 with | true => rfl | false => rw [h_] at ok; simp at ok
                have h2 : ¬ y.f2 = true := fun h_ => ok (by rw [h_]; rfl)
                exact Ev.pos h3 (Ev.neg h2 (Ev.some rfl))
          · obtain ⟨v, hv⟩ := bad (by
              unfold entB
              by_cases c0 : y.f0 = -1
              · rw [if_pos c0]
                rw [decide_eq_true c0, Bool.true_and] at ce'
                exact ce'
              · rw [if_neg c0, Bool.eq_false_iff.2 fr, Bool.false_and])
            exact ⟨v, hv (j3s _ (Ev.bindc hframe (Ev.neg fr (Ev.some rfl))))⟩
    obtain ⟨v, hv, hw⟩ := inner 8 0 taken F (by omega) (by omega) hrep hn
    refine ⟨v, ?_, ?_⟩
    · refine Ev.succ ?_
      simp only [spec_l08Is.l0]
      exact Ev.pos (by omega) hv
    · rw [List.drop_zero] at hw
      rw [hen]
      simpa [and_assoc] using hw
theorem specFind_ev (l : List S53) (x : Int) (h : l.length ≤ 1048576) : Ev (fun k => spec_l08Find.f k l x) (xIdx (fun c : S53 => decide (c.f0 = x)) l 0) := by
  unfold spec_l08Find.f
  have key : ∀ d i, l.length - i = d → i ≤ l.length → Ev (fun k => spec_l08Find.l0 k l x (i : Int)) (xIdx (fun c : S53 => decide (c.f0 = x)) (l.drop i) (i : Int)) := by
    intro d
    induction d with
    | zero =>
      intro i hd hi
      refine Ev.succ ?_
      simp only [spec_l08Find.l0]
      rw [xIdx_drop_end _ _ _ (by omega)]
      exact Ev.neg (by omega) (Ev.some rfl)
    | succ d ih =>
      intro i hd hi
      have hlt : i < l.length := by omega
      refine Ev.succ ?_
      simp only [spec_l08Find.l0]
      have hrd : rd_T53 l (i : Int) = l.getD i z53 := rfl
      rw [hrd, wrap_succ hlt (by omega)]
      refine Ev.pos (by omega) (Ev.pos (by omega) ?_)
      by_cases hx : (l.getD i z53).f0 = x
      · rw [xIdx_drop_hit _ l i z53 hlt _ (decide_eq_true hx)]
        exact Ev.pos hx (Ev.some rfl)
      · rw [xIdx_drop_miss _ l i z53 hlt _ (decide_eq_false hx)]
        refine Ev.neg hx ?_
        have := ih (i + 1) (by omega) (by omega)
        simpa using this
  have := key l.length 0 (by omega) (by omega)
  simpa using this
theorem specAddr2_f (a : Int) : spec_l02Address.f a = some (decide (0 ≤ a) && decide (a ≤ 63)) := by
  unfold spec_l02Address.f
  rw [in_spec]
  rfl
theorem specFrame2_f (a : Int) : spec_l08Frame.f a = some (decide (0 ≤ a) && decide (a ≤ 15)) := by
  unfold spec_l08Frame.f
  rw [in_spec]
  rfl
theorem specBuf_ev (root : List Int) (tabs : List (List S37)) (buf : List S53) (h : buf.length ≤ 1048576) : Ev (fun k => spec_l08Is.l2 k 0 root tabs buf) (!((List.range buf.length).any (badAt buf))) := by
  refine Ev.upto (F := fun k (_ : Unit) i => spec_l08Is.l2 k i root tabs buf) (n := buf.length) (r := !((List.range buf.length).any (badAt buf))) (fun i _ => ∀ j, j < i → badAt buf j = false) ?_ ?_ 0 (Nat.zero_le _) () (fun j hj => absurd hj (Nat.not_lt_zero j))
  · intro i s hi hs ih
    refine Ev.succ ?_
    simp only [spec_l08Is.l2]
    have hrd : rd_T53 buf (i : Int) = buf.getD i z53 := rfl
    rw [hrd, Int.toNat_natCast, wrap_succ hi (by omega)]
    have fin : badAt buf i = true → (!((List.range buf.length).any (badAt buf))) = false := fun hb => by
      rw [List.any_eq_true.2 ⟨i, List.mem_range.2 hi, hb⟩]; rfl
    refine Ev.pos (by omega) (Ev.pos (by omega) (Ev.bindc (specAddr2_f _) ?_))
    by_cases ha : (decide (0 ≤ (buf.getD i z53).f0) && decide ((buf.getD i z53).f0 ≤ 63)) = true
    · refine Ev.pos ha (Ev.bindc (specFrame2_f _) ?_)
      by_cases hf : (decide (0 ≤ (buf.getD i z53).f1) && decide ((buf.getD i z53).f1 ≤ 15)) = true
      · refine Ev.pos hf (Ev.pos (by omega) (Ev.bind (specFind_ev _ _ (by rw [List.length_take]; omega)) ?_))
        by_cases hq : xIdx (fun c : S53 => decide (c.f0 = (buf.getD i z53).f0)) (buf.take i) 0 ≥ 0
        · refine Ev.pos hq (Ev.some (Eq.symm (fin ?_)))
          unfold badAt
          rw [ha, hf, decide_eq_true hq]
          rfl
        · refine Ev.neg hq (ih () (fun j hj => ?_))
          by_cases e : j = i
          · subst e
            unfold badAt
            rw [ha, hf, decide_eq_false hq]
            rfl
          · exact hs j (by omega)
      · refine Ev.neg hf (Ev.some (Eq.symm (fin ?_)))
        unfold badAt
        rw [Bool.eq_false_iff.2 hf, ha]
        rfl
    · refine Ev.neg ha (Ev.some (Eq.symm (fin ?_)))
      unfold badAt
      rw [Bool.eq_false_iff.2 ha]
      rfl
  · intro s hs
    refine Ev.succ ?_
    simp only [spec_l08Is.l2]
    refine Ev.neg (by omega) (Ev.some (Eq.symm ?_))
    rw [List.any_eq_false.2 (fun i hi => by rw [hs i (List.mem_range.1 hi)]; simp)]
    rfl
theorem set_nodup (t : List Int) (h : (setI t).length = t.length) : t.Nodup := by
  have hp := sortI_perm t
  refine hp.nodup_iff.1 ?_
  have hs := sortI_le t
  have hl : (setI t).length = (sortI t).length := by rw [h, sortI_length]
  unfold setI Lib.compact Lib.compactUpTo at hl
  rw [List.length_map] at hl
  generalize sortI t = z at hs hl
  have hk : ∀ j, j < z.length → Lib.keeps z.toArray j = true := by
    have e : ((List.range z.length).filter (Lib.keeps z.toArray)).length = (List.range z.length).length := by rw [hl, List.length_range]
    intro j hj
    exact List.length_filter_eq_length_iff.1 e j (List.mem_range.2 hj)
  unfold List.Nodup
  rw [List.pairwise_iff_getElem]
  intro i j hi hj hij e
  have hne : z.toArray[j]! ≠ z.toArray[j - 1]! := by
    intro e2
    have h2 := hk j hj
    rw [Lib.keeps_neg (d := z.toArray) (m := j) (by omega) e2] at h2
    cases h2
  have e1 : z.toArray[j]! = z[j] := by simp [hj]
  have e2 : z.toArray[j - 1]! = z[j - 1] := by
    have : j - 1 < z.length := by omega
    simp [this]
  rw [e1, e2] at hne
  have le1 : z[i] ≤ z[j - 1] := by
    by_cases c : i = j - 1
    · subst c; exact Int.le_refl _
    · exact List.pairwise_iff_getElem.1 hs i (j - 1) hi (by omega) (by omega)
  have le2 : z[j - 1] ≤ z[j] := List.pairwise_iff_getElem.1 hs (j - 1) j (by omega) hj (by omega)
  omega
theorem nodup_set (t : List Int) (h : t.Nodup) : (setI t).length = t.length := by
  have hp := sortI_perm t
  have hn : (sortI t).Nodup := hp.nodup_iff.2 h
  have hlt : (sortI t).Pairwise (· < ·) := (List.Pairwise.and (sortI_le t) hn).imp (fun h => by omega)
  have e : setI t = sortI t := rising_ext (setI_lt t) hlt (fun x => by rw [mem_setI]; exact hp.mem_iff.symm)
  rw [e, sortI_length]
theorem upTo_mem (n : Nat) (x : Int) : x ∈ ((List.range n).map fun (j : Nat) => (j : Int)) ↔ 0 ≤ x ∧ x < (n : Int) := by
  rw [List.mem_map]
  constructor
  · rintro ⟨j, hj, rfl⟩
    rw [List.mem_range] at hj
    omega
  · rintro ⟨h0, h1⟩
    exact ⟨x.toNat, List.mem_range.2 (by omega), by omega⟩
theorem upTo_nodup (n : Nat) : ((List.range n).map fun (j : Nat) => (j : Int)).Nodup := by
  unfold List.Nodup
  rw [List.pairwise_map]
  exact List.Pairwise.imp (fun h => by omega) (List.pairwise_lt_range (n := n))
theorem used_mem (root : List Int) (x : Int) : x ∈ usedL root ↔ x ∈ root ∧ x ≠ -1 := by
  unfold usedL
  rw [List.mem_filter]
  by_cases h : x = -1 <;> simp [h]
theorem used_count (root : List Int) (x : Int) (h : x ≠ -1) : (usedL root).count x = root.count x := by
  unfold usedL
  exact List.count_filter (by rw [decide_eq_false h]; rfl)
theorem order_counts (root : List Int) (n : Nat) : orderB (usedL root) (n : Int) = true ↔ (∀ k, k < n → root.count (k : Int) = 1) ∧ rootIn root (n : Int) = true := by
  constructor
  · intro h
    obtain ⟨h1, h2, h3⟩ := (orderB_iff _ _).1 h
    have hs : sortI (usedL root) = (List.range (usedL root).length).map fun (j : Nat) => (j : Int) := by
      unfold orderB at h
      rw [Bool.and_eq_true] at h
      exact of_decide_eq_true h.2
    refine ⟨fun k hk => ?_, ?_⟩
    · have hm : (k : Int) ∈ usedL root := by
        refine (sortI_perm (usedL root)).mem_iff.1 ?_
        rw [hs]
        exact (upTo_mem _ _).2 (by omega)
      rw [← used_count root (k : Int) (by omega), h3.count, if_pos hm]
    · unfold rootIn
      rw [List.all_eq_true]
      intro r hr
      by_cases e : r = -1
      · subst e
        rw [decide_eq_true (by omega), decide_eq_true (by omega)]
        rfl
      · have := h2 r ((used_mem root r).2 ⟨hr, e⟩)
        rw [decide_eq_true (by omega), decide_eq_true (by omega)]
        rfl
  · rintro ⟨h1, h2⟩
    unfold rootIn at h2
    have hin : ∀ x ∈ usedL root, 0 ≤ x ∧ x ≤ (n : Int) - 1 := by
      intro x hx
      obtain ⟨hx1, hx2⟩ := (used_mem root x).1 hx
      have := List.all_eq_true.1 h2 x hx1
      simp only [Bool.and_eq_true, decide_eq_true_eq] at this
      omega
    have hnd : (usedL root).Nodup := by
      rw [List.nodup_iff_count]
      intro a
      by_cases ha : a ∈ usedL root
      · obtain ⟨a0, a1⟩ := hin a ha
        have := h1 a.toNat (by omega)
        rw [Int.toNat_of_nonneg a0] at this
        rw [used_count root a (by omega), this]
        exact Nat.le_refl _
      · rw [List.count_eq_zero.2 ha]
        omega
    have hle : (usedL root).length ≤ n := by
      have := hnd.length_le_of_subset (l₂ := (List.range n).map fun (j : Nat) => (j : Int)) (fun x hx => (upTo_mem n x).2 (by have := hin x hx; omega))
      simpa using this
    have hge : n ≤ (usedL root).length := by
      have := (upTo_nodup n).length_le_of_subset (l₂ := usedL root) (fun x hx => by
        obtain ⟨x0, x1⟩ := (upTo_mem n x).1 hx
        have h_ := h1 x.toNat (by omega)
        rw [Int.toNat_of_nonneg x0, ← used_count root x (by omega)] at h_
        exact List.count_pos_iff.1 (by omega))
      simpa using this
    exact (orderB_iff _ _).2 ⟨by omega, hin, hnd⟩
theorem badT_false (t : List S37) : badT t = false ↔ t.length = 8 ∧ ∀ y ∈ t, entB y = true := by
  unfold badT
  rw [Bool.or_eq_false_iff, List.any_eq_false]
  constructor
  · rintro ⟨h1, h2⟩
    refine ⟨?_, fun y hy => ?_⟩
    · have : ((t.length : Int) == 8) = true := by simpa using h1
      have := beq_iff_eq.1 this
      omega
    · have := h2 y hy
      simpa using this
  · rintro ⟨h1, h2⟩
    refine ⟨?_, fun y hy => ?_⟩
    · rw [beq_iff_eq.2 (show (t.length : Int) = 8 by omega)]; rfl
    · rw [h2 y hy]; simp
theorem tabS_iff (root : List Int) (tabs : List (List S37)) : tabS root tabs = true ↔ (root.length = 8 ∧ tabs.length ≤ 8 ∧ orderB (usedL root) (tabs.length : Int) = true) ∧ ∀ t ∈ tabs, t.length = 8 := by
  unfold tabS
  rw [Bool.and_eq_true, Bool.and_eq_true, Bool.and_eq_true, beq_iff_eq, Bool.not_eq_true', decide_eq_false_iff_not, List.all_eq_true, order_counts]
  constructor
  · rintro ⟨h1, h2, h3, h4⟩
    have h3' : ∀ k, k < tabs.length → root.count (k : Int) = 1 ∧ (tabs.getD k []).length = 8 := fun k hk => by
      have := h3 k (List.mem_range.2 hk)
      unfold tabAt at this
      rw [Bool.and_eq_true] at this
      exact ⟨of_decide_eq_true this.1, of_decide_eq_true this.2⟩
    refine ⟨⟨by omega, by omega, fun k hk => (h3' k hk).1, h4⟩, fun t ht => ?_⟩
    obtain ⟨k, hk, rfl⟩ := List.getElem_of_mem ht
    have := (h3' k hk).2
    rwa [getD_lt tabs k [] hk] at this
  · rintro ⟨⟨h1, h2, h3, h4⟩, h5⟩
    refine ⟨by omega, by omega, fun k hk => ?_, h4⟩
    have hk' := List.mem_range.1 hk
    unfold tabAt
    rw [h3 k hk', h5 _ (by rw [getD_lt tabs k [] hk']; exact List.getElem_mem _)]
    rfl
theorem condB_iff (root : List Int) (tabs : List (List S37)) (buf : List S53) : condB root tabs buf = true ↔ (root.length = 8 ∧ tabs.length ≤ 8 ∧ orderB (usedL root) (tabs.length : Int) = true) ∧ buf.length ≤ 4 := by
  unfold condB
  rw [Bool.and_eq_true, Bool.and_eq_true, Bool.and_eq_true, beq_iff_eq, Bool.not_eq_true', decide_eq_false_iff_not, Bool.not_eq_true', decide_eq_false_iff_not]
  constructor
  · rintro ⟨h1, h2, h3, h4⟩
    exact ⟨⟨by omega, by omega, h3⟩, by omega⟩
  · rintro ⟨⟨h1, h2, h3⟩, h4⟩
    exact ⟨by omega, by omega, h3, by omega⟩
theorem specIsSpace_ev (root : List Int) (tabs : List (List S37)) (buf : List S53) (hr : root.length ≤ 1048576) (ht : tabs.length ≤ 1048576) (hb : buf.length ≤ 1048576) : Ev (fun k => spec_l08Is.f k root tabs buf) (spaceB root tabs buf) := by
  have j0t : Ev (fun k => spec_l08Is.j0 k true root tabs buf) false := by
    refine Ev.succ ?_
    simp only [spec_l08Is.j0]
    exact Ev.pos (by simp) (Ev.some rfl)
  unfold spec_l08Is.f
  refine Ev.bind (specTables_ev root tabs buf hr ht) ?_
  by_cases T : tabS root tabs = true
  · refine Ev.pos T ?_
    obtain ⟨tc, t8⟩ := (tabS_iff root tabs).1 T
    by_cases B : (buf.length : Int) > 4
    · rw [decide_eq_true B]
      have : spaceB root tabs buf = false := by
        unfold spaceB
        have : condB root tabs buf = false := Bool.eq_false_iff.2 (fun hc => by have := ((condB_iff _ _ _).1 hc).2; omega)
        rw [this, Bool.false_and]
      rw [this]
      exact j0t
    · rw [decide_eq_false B]
      have hc : condB root tabs buf = true := (condB_iff _ _ _).2 ⟨tc, by omega⟩
      obtain ⟨v, hv, hw⟩ := entries_ev root tabs buf _ tc.2.1 t8 (specBuf_ev root tabs buf hb) tabs.length 0 (List.replicate 16 false) [] (by omega) (by omega) rep_start List.nodup_nil
      rw [List.drop_zero, List.nil_append] at hw
      have hs : spaceB root tabs buf = v := by
        unfold spaceB restB
        rw [hc, Bool.true_and]
        rcases hw with ⟨⟨h1, h2⟩, rfl⟩ | ⟨h1, rfl⟩
        · have e1 : tabs.any badT = false := List.any_eq_false.2 (fun t ht' => by rw [(badT_false t).2 ⟨t8 t ht', h1 t ht'⟩]; simp)
          have e2 : (((setI (framesL tabs)).length : Int) == ((framesL tabs).length : Int)) = true := by rw [beq_iff_eq, nodup_set _ h2]
          rw [e1, e2, Bool.and_true]
          rfl
        · refine Bool.eq_false_iff.2 (fun hA => h1 ?_)
          simp only [Bool.and_eq_true, Bool.not_eq_true', beq_iff_eq] at hA
          obtain ⟨a1, a2, a3⟩ := hA
          refine ⟨fun t ht' => ((badT_false t).1 ?_).2, set_nodup _ (by omega)⟩
          have := List.any_eq_false.1 a1 t ht'
          simpa using this
      rw [hs]
      refine Ev.succ ?_
      simp only [spec_l08Is.j0]
      exact Ev.neg (by simp) (Ev.pos (by decide) hv)
  · refine Ev.neg T ?_
    have : spaceB root tabs buf = false := Bool.eq_false_iff.2 (fun hA => T ?_)
    · rw [this]; exact j0t
    · unfold spaceB restB at hA
      rw [Bool.and_eq_true, Bool.and_eq_true, Bool.not_eq_true'] at hA
      refine (tabS_iff root tabs).2 ⟨((condB_iff _ _ _).1 hA.1).1, fun t ht' => ((badT_false t).1 ?_).1⟩
      have := List.any_eq_false.1 hA.2.1 t ht'
      simpa using this

def wk : Option S37 → Int × Bool × Bool × Bool
  | none => (-1, false, false, false)
  | some y => (y.f0, y.f1, y.f2, y.f3)
theorem specWalk_f (root : List Int) (tabs : List (List S37)) (buf : List S53) (p : Int) (h0 : 0 ≤ p) (h1 : p < 64) (h8 : root.length = 8) (hin : ∀ r ∈ root, r < (tabs.length : Int)) (ht : ∀ t ∈ tabs, t.length = 8) :
    spec_l08Walk.f root tabs buf p = some (wk (walkE root tabs p)) := by
  have e1 : wrap64 (Int.tdiv p 8) = p / 8 := by rw [Int.tdiv_eq_ediv_of_nonneg h0]; exact wrap_id (by omega) (by omega)
  have e2 : Int.tmod p 8 = p % 8 := Int.tmod_eq_emod_of_nonneg h0
  have hm : rd root (p / 8) ∈ root := by unfold rd; rw [getD_lt root _ 0 (by omega)]; exact List.getElem_mem _
  have h2 := hin _ hm
  unfold spec_l08Walk.f walkE
  rw [e1, e2]
  refine (if_pos (by omega)).trans ((if_pos (by omega)).trans ?_)
  by_cases hn : rd root (p / 8) < 0
  · refine (if_pos hn).trans ?_
    rw [if_pos hn]
    rfl
  · refine (if_neg hn).trans ?_
    rw [if_neg hn]
    have hl : (rd root (p / 8)).toNat < tabs.length := by omega
    have hr : (tabs.getD (rd root (p / 8)).toNat []).length = 8 := ht _ (by rw [getD_lt tabs _ _ hl]; exact List.getElem_mem _)
    refine (if_pos (by omega)).trans ((if_pos (by omega)).trans ((if_pos (by omega)).trans ((if_pos ?_).trans ?_)))
    · show p % 8 < ((tabs.getD (rd root (p / 8)).toNat []).length : Int)
      rw [hr]; omega
    · rfl
theorem szSpace_ev (r : List Int) (t : List (List S93)) (b : List S82) (a : Int) (h0 : 0 ≤ a) (h1 : a ≤ 1048576) (hr : r.length ≤ 9223372036854775807) (ht : t.length ≤ 9223372036854775807) (hi : ∀ x ∈ t, x.length ≤ 9223372036854775807) (hb : b.length ≤ 9223372036854775807) :
    Ev (fun k => laws_szSpace.f k r t b a) (if a < (r.length : Int) + ((t.length : Int) + (sumLen t : Int)) + b.length then -1 else a - ((r.length : Int) + ((t.length : Int) + (sumLen t : Int)) + b.length)) := by
  unfold laws_szSpace.f
  refine Ev.bindc (szInt64S_f r a h0 h1 hr) ?_
  by_cases q0 : a < r.length
  · rw [if_pos q0]
    exact Ev.pos (by omega) (Ev.some (by rw [if_pos (by omega)]))
  rw [if_neg q0]
  refine Ev.neg (by omega) (Ev.bind (szEntrySS_ev t _ (by omega) (by omega) ht hi) ?_)
  by_cases q1 : a - r.length < (t.length : Int) + (sumLen t : Int)
  · rw [if_pos q1]
    exact Ev.pos (by omega) (Ev.some (by rw [if_pos (by omega)]))
  rw [if_neg q1]
  refine Ev.neg (by omega) (Ev.bindc (szCachedS_f b _ (by omega) (by omega) hb) ?_)
  by_cases q2 : a - r.length - ((t.length : Int) + (sumLen t : Int)) < b.length
  · rw [if_pos q2]
    exact Ev.pos (by omega) (Ev.some (by rw [if_pos (by omega)]))
  rw [if_neg q2]
  exact Ev.neg (by omega) (Ev.some (by rw [if_neg (by omega)]; omega))
theorem toSpace_ev (r : List Int) (t : List (List S93)) (b : List S82) (hr : r.length ≤ 1048576) (ht : t.length ≤ 1048576) (hi : ∀ x ∈ t, x.length ≤ 1048576) (hb : b.length ≤ 1048576) : Ev (fun k => laws_toSpace.f k r t b) (r, t.map (List.map cvEntry), b.map cvCached) := by
  unfold laws_toSpace.f
  exact Ev.bind (toInt64S_ev r hr) (Ev.bind (toEntrySS_ev t ht hi) (Ev.bind (toCachedS_ev b hb) (Ev.some rfl)))
theorem eqSpace_ev (r : List Int) (t : List (List S37)) (b : List S53) (hr : r.length ≤ 1048576) (ht : t.length ≤ 1048576) (hi : ∀ x ∈ t, x.length ≤ 1048576) (hb : b.length ≤ 1048576) : Ev (fun k => laws_eqSpace.f k r t b r t b) true := by
  unfold laws_eqSpace.f
  exact Ev.bind (eqInt64S_ev r hr) (Ev.pos rfl (Ev.bind (eqEntrySS_ev t ht hi) (Ev.pos rfl (Ev.bind (eqCachedS_ev b hb) (Ev.pos rfl (Ev.some rfl))))))
theorem agree_eq (root : List Int) (tabs : List (List S37)) (c : S53) (h : 0 ≤ c.f1) : agreeBad root tabs c = !(decide ((wk (walkE root tabs c.f0)).1 = c.f1) && ((wk (walkE root tabs c.f0)).2.1 == c.f2)) := by
  unfold agreeBad mapE
  cases walkE root tabs c.f0 with
  | none =>
    have : decide ((wk none).1 = c.f1) = false := decide_eq_false (by simp only [wk]; omega)
    rw [this]
    rfl
  | some y =>
    by_cases hy : y.f0 < 0
    · have : decide ((wk (some y)).1 = c.f1) = false := decide_eq_false (by simp only [wk]; omega)
      rw [this]
      simp only [if_pos hy]
      rfl
    · simp only [if_neg hy, wk, Bool.not_and]
      congr 1
theorem specAgrees_ev (root : List Int) (tabs : List (List S37)) (buf : List S53) (hr : root.length ≤ 1048576) (ht : tabs.length ≤ 1048576) (hb : buf.length ≤ 1048576) : Ev (fun k => spec_BufferAgrees.f k root tabs buf) (agreesB root tabs buf) := by
  unfold spec_BufferAgrees.f agreesB
  refine Ev.bind (specIsSpace_ev root tabs buf hr ht hb) ?_
  cases hV : spaceB root tabs buf with
  | false => exact Ev.neg (by decide) (Ev.some (by simp))
  | true =>
    obtain ⟨f1, f2, f3, f4, f5, f6, _⟩ := spaceB_facts hV
    have f7 := spaceB_buf hV
    rw [Bool.true_and]
    refine Ev.pos rfl ?_
    have key : ∀ d i, buf.length - i = d → i ≤ buf.length → Ev (fun k => spec_BufferAgrees.l0 k (i : Int) root tabs buf) (!((buf.drop i).any (agreeBad root tabs))) := by
      intro d
      induction d with
      | zero =>
        intro i hd hi
        refine Ev.succ ?_
        simp only [spec_BufferAgrees.l0]
        refine Ev.neg (by omega) (Ev.some ?_)
        rw [List.drop_eq_nil_of_le (by omega)]
        rfl
      | succ d ih =>
        intro i hd hi
        have hlt : i < buf.length := by omega
        have hm : buf.getD i z53 ∈ buf := by rw [getD_lt buf i _ hlt]; exact List.getElem_mem _
        have e0 : rd_T53 buf (i : Int) = buf.getD i z53 := rfl
        refine Ev.succ ?_
        simp only [spec_BufferAgrees.l0]
        rw [e0, drop_cons buf i z53 hlt, List.any_cons]
        generalize buf.getD i z53 = c at hm ⊢
        rw [agree_eq root tabs c (f7 c hm)]
        refine Ev.pos (by omega) (Ev.pos (by omega) (Ev.bindc (specWalk_f root tabs buf c.f0 (f6 c hm).1 (f6 c hm).2 f1 f4 f5) ?_))
        generalize wk (walkE root tabs c.f0) = v
        by_cases h0 : v.1 = c.f1
        · refine Ev.pos h0 ?_
          rw [decide_eq_true h0, Bool.true_and]
          cases hc : (v.2.1 == c.f2) with
          | true =>
            have : (v.2.1 != c.f2) = false := by rw [bne, hc]; rfl
            refine Ev.neg (by rw [this]; decide) ?_
            rw [wrap_succ hlt (by omega)]
            simpa using ih (i + 1) (by omega) (by omega)
          | false =>
            have : (v.2.1 != c.f2) = true := by rw [bne, hc]; rfl
            exact Ev.pos this (Ev.some (by simp))
        · refine Ev.neg h0 (Ev.some ?_)
          rw [decide_eq_false h0]
          simp
    have := key buf.length 0 (by omega) (by omega)
    simpa using this
theorem FnExactBufferAgrees : laws_FnExactBufferAgrees.Pure := by
  intro r t b ⟨hr, _⟩ ⟨ht, hi⟩ ⟨hb, _⟩
  refine Ev.rounds ?_
  unfold laws_FnExactBufferAgrees.f
  refine Ev.bind (szSpace_ev r t b 1048576 (by omega) (by omega) hr ht (fun x hx => (hi x hx).1) hb) ?_
  by_cases q : (1048576 : Int) < (r.length : Int) + ((t.length : Int) + (sumLen t : Int)) + b.length
  · rw [if_pos q]
    exact Ev.pos (by omega) (Ev.some rfl)
  rw [if_neg q]
  have R1 : r.length ≤ 1048576 := by omega
  have T1 : t.length ≤ 1048576 := by omega
  have B1 : b.length ≤ 1048576 := by omega
  have I1 : ∀ x ∈ t, x.length ≤ 1048576 := fun x hx => by have := sumLen_mem hx; omega
  have T2 : (t.map (List.map cvEntry)).length ≤ 1048576 := by rw [List.length_map]; exact T1
  have B2 : (b.map cvCached).length ≤ 1048576 := by rw [List.length_map]; exact B1
  have I2 : ∀ x ∈ t.map (List.map cvEntry), x.length ≤ 1048576 := fun x hx => by
    obtain ⟨y, hy, rfl⟩ := List.mem_map.1 hx
    rw [List.length_map]; exact I1 y hy
  have to_ := toSpace_ev r t b R1 T1 I1 B1
  have hv : impl_BufferAgrees.f r (t.map (List.map cvEntry)) (b.map cvCached) = some (agreesB r (t.map (List.map cvEntry)) (b.map cvCached)) := by unfold impl_BufferAgrees.f; rw [if_pos R1]
  exact Ev.neg (by omega) (Ev.bind to_ (Ev.bind (specAgrees_ev r _ _ R1 T2 B2) (Ev.bind to_ (Ev.bindc hv (Ev.neg (by simp) (Ev.bind to_ (Ev.bind (eqSpace_ev r _ _ R1 T2 I2 B2) (Ev.pos rfl (Ev.some rfl)))))))))

end Go.Proofs.Ytpmglamjgfpmnaa.Pure
