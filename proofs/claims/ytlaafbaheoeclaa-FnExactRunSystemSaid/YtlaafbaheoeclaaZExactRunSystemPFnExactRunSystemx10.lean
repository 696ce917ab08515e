-- Printed by this session's own program (wip/tools/xprint.py) over the kit's print; not trusted: Lean checks it.
import Derived.Test.YtlaafbaheoeclaaZExactRunSystemPFnExactRunSystemx0
import Derived.Test.YtlaafbaheoeclaaZExactRunSystemPFnExactRunSystemx1
import Derived.Test.YtlaafbaheoeclaaZExactRunSystemPFnExactRunSystemx2
import Derived.Test.YtlaafbaheoeclaaZExactRunSystemPFnExactRunSystemx3
import Derived.Test.YtlaafbaheoeclaaZExactRunSystemPFnExactRunSystemx6
import Derived.Test.YtlaafbaheoeclaaZExactRunSystemPFnExactRunSystemx8
import Derived.Test.YtlaafbaheoeclaaZExactRunSystemPFnExactRunSystemx9
namespace Go.Proofs.Ytlaafbaheoeclaa.PFnExactRunSystem
open Go.RowKit Go.Proofs.YtlaafbaheoeclaaW.PrintWords Go.Proofs.YtlaafbaheoeclaaW.PrintLast Go.Proofs.YtlaafbaheoeclaaW.PrintMore
attribute [local go_sem] max2_int min2_int max_two min_two max_three min_three max_four min_four   -- for this text's walks alone
set_option linter.unusedVariables false
set_option linter.unusedSimpArgs false

/-! ### laws_FnExactRunSystem: function 8 -/
/-- n rising numbers from a on. -/
def cnt (a : Int) (n : Nat) : List Int := (List.range n).map fun (j : Nat) => a + (j : Int)
theorem cnt_length (a : Int) (n : Nat) : (cnt a n).length = n := by simp [cnt]
theorem cnt_succ (a : Int) (n : Nat) : cnt a (n + 1) = cnt a n ++ [a + (n : Int)] := by simp [cnt, List.range_succ]
theorem cnt_getD (a : Int) (n i : Nat) (h : i < n) : (cnt a n).getD i 0 = a + (i : Int) := by
  simp [cnt, List.getD_eq_getElem?_getD, h]
theorem set_mark {α : Type} (A l : List α) (i : Nat) (v : α) (h : i = A.length) (hi : i < l.length) : (A ++ l.drop i).set i v = (A ++ [v]) ++ l.drop (i + 1) := by
  subst h
  rw [List.set_append_right _ _ (Nat.le_refl _), Nat.sub_self, List.drop_eq_getElem_cons hi, List.set_cons_zero]
  simp
theorem szRuleS_f (l : List S50) (a : Int) (h0 : 0 ≤ a) (h1 : a ≤ 1048576) (hl : l.length ≤ 9223372036854775807) : laws_szRuleS.f l a = some (if a < l.length then -1 else a - l.length) := by
  unfold laws_szRuleS.f
  rw [wrap_id (by omega) (by omega)]
  by_cases h : a < l.length
  · rw [if_pos (by omega), if_pos h]
  · rw [if_neg (by omega), if_neg h]
theorem szOpS_f (l : List S120) (a : Int) (h0 : 0 ≤ a) (h1 : a ≤ 1048576) (hl : l.length ≤ 9223372036854775807) : laws_szOpS.f l a = some (if a < l.length then -1 else a - l.length) := by
  unfold laws_szOpS.f
  rw [wrap_id (by omega) (by omega)]
  by_cases h : a < l.length
  · rw [if_pos (by omega), if_pos h]
  · rw [if_neg (by omega), if_neg h]
def cvRule (x : S50) : S58 := ⟨x.f0, x.f1, x.f2⟩
theorem toRuleS_ev (l : List S50) (h : l.length ≤ 1048576) : Ev (fun k => laws_toRuleS.f k l) (l.map cvRule) := by
  unfold laws_toRuleS.f
  refine Ev.pos (by omega) (Ev.pos (by omega) ?_)
  refine Ev.upto (F := fun k s i => laws_toRuleS.l0 k l s i) (n := l.length) (r := l.map cvRule) (fun i s => s = (l.take i).map cvRule ++ List.replicate (l.length - i) z58) ?_ ?_ 0 (Nat.zero_le _) _ (by simp)
  · intro i s hi hs ih
    have hsl : s.length = l.length := by rw [hs]; simp; omega
    refine Ev.succ ?_
    simp only [laws_toRuleS.l0]
    refine Ev.pos (by omega) (Ev.pos (by omega) (Ev.bindc (a := ((rd_T50 l (i : Int)).f0, (rd_T50 l (i : Int)).f1, (rd_T50 l (i : Int)).f2)) rfl (Ev.pos (by omega) ?_)))
    rw [wrap_succ hi (by omega)]
    refine ih _ ?_
    rw [hs, Int.toNat_natCast]
    exact fill_next cvRule l z58 z50 i hi _ rfl
  · intro s hs
    refine Ev.succ ?_
    simp only [laws_toRuleS.l0]
    exact Ev.neg (by omega) (Ev.some (by rw [hs]; simp))
def cvOp (x : S120) : S118 := ⟨x.f0, x.f1⟩
theorem toOpS_ev (l : List S120) (h : l.length ≤ 1048576) : Ev (fun k => laws_toOpS.f k l) (l.map cvOp) := by
  unfold laws_toOpS.f
  refine Ev.pos (by omega) (Ev.pos (by omega) ?_)
  refine Ev.upto (F := fun k s i => laws_toOpS.l0 k l s i) (n := l.length) (r := l.map cvOp) (fun i s => s = (l.take i).map cvOp ++ List.replicate (l.length - i) z118) ?_ ?_ 0 (Nat.zero_le _) _ (by simp)
  · intro i s hi hs ih
    have hsl : s.length = l.length := by rw [hs]; simp; omega
    refine Ev.succ ?_
    simp only [laws_toOpS.l0]
    refine Ev.pos (by omega) (Ev.pos (by omega) (Ev.bindc (a := ((rd_T120 l (i : Int)).f0, (rd_T120 l (i : Int)).f1)) rfl (Ev.pos (by omega) ?_)))
    rw [wrap_succ hi (by omega)]
    refine ih _ ?_
    rw [hs, Int.toNat_natCast]
    exact fill_next cvOp l z118 z120 i hi _ rfl
  · intro s hs
    refine Ev.succ ?_
    simp only [laws_toOpS.l0]
    exact Ev.neg (by omega) (Ev.some (by rw [hs]; simp))
theorem eqRuleS_ev (l : List S58) (h : l.length ≤ 1048576) : Ev (fun k => laws_eqRuleS.f k l l) true := by
  unfold laws_eqRuleS.f
  refine Ev.pos rfl ?_
  refine Ev.upto (F := fun k (_ : Unit) i => laws_eqRuleS.l0 k l l i) (n := l.length) (r := true) (fun _ _ => True) ?_ ?_ 0 (Nat.zero_le _) () trivial
  · intro i s hi _ ih
    refine Ev.succ ?_
    simp only [laws_eqRuleS.l0]
    refine Ev.pos (by omega) (Ev.pos (by omega) (Ev.pos (by omega) (Ev.bindc (a := true) (by simp [laws_eqRule.f]) (Ev.pos rfl ?_))))
    rw [wrap_succ hi (by omega)]
    exact ih () trivial
  · intro s _
    refine Ev.succ ?_
    simp only [laws_eqRuleS.l0]
    exact Ev.neg (by omega) (Ev.some rfl)
theorem eqOpS_ev (l : List S118) (h : l.length ≤ 1048576) : Ev (fun k => laws_eqOpS.f k l l) true := by
  unfold laws_eqOpS.f
  refine Ev.pos rfl ?_
  refine Ev.upto (F := fun k (_ : Unit) i => laws_eqOpS.l0 k l l i) (n := l.length) (r := true) (fun _ _ => True) ?_ ?_ 0 (Nat.zero_le _) () trivial
  · intro i s hi _ ih
    refine Ev.succ ?_
    simp only [laws_eqOpS.l0]
    refine Ev.pos (by omega) (Ev.pos (by omega) (Ev.pos (by omega) (Ev.bindc (a := true) (by simp [laws_eqOp.f]) (Ev.pos rfl ?_))))
    rw [wrap_succ hi (by omega)]
    exact ih () trivial
  · intro s _
    refine Ev.succ ?_
    simp only [laws_eqOpS.l0]
    exact Ev.neg (by omega) (Ev.some rfl)
theorem eqInt64S_ev (l : List Int) (h : l.length ≤ 1048576) : Ev (fun k => laws_eqInt64S.f k l l) true := by
  unfold laws_eqInt64S.f
  refine Ev.pos rfl ?_
  refine Ev.upto (F := fun k (_ : Unit) i => laws_eqInt64S.l0 k l l i) (n := l.length) (r := true) (fun _ _ => True) ?_ ?_ 0 (Nat.zero_le _) () trivial
  · intro i s hi _ ih
    refine Ev.succ ?_
    simp only [laws_eqInt64S.l0]
    refine Ev.pos (by omega) (Ev.pos (by omega) (Ev.pos (by omega) (Ev.pos (by simp) ?_)))
    rw [wrap_succ hi (by omega)]
    exact ih () trivial
  · intro s _
    refine Ev.succ ?_
    simp only [laws_eqInt64S.l0]
    exact Ev.neg (by omega) (Ev.some rfl)
theorem eqBoolS_ev (l : List Bool) (h : l.length ≤ 1048576) : Ev (fun k => laws_eqBoolS.f k l l) true := by
  unfold laws_eqBoolS.f
  refine Ev.pos rfl ?_
  refine Ev.upto (F := fun k (_ : Unit) i => laws_eqBoolS.l0 k l l i) (n := l.length) (r := true) (fun _ _ => True) ?_ ?_ 0 (Nat.zero_le _) () trivial
  · intro i s hi _ ih
    refine Ev.succ ?_
    simp only [laws_eqBoolS.l0]
    refine Ev.pos (by omega) (Ev.pos (by omega) (Ev.pos (by omega) (Ev.neg (by simp) ?_)))
    rw [wrap_succ hi (by omega)]
    exact ih () trivial
  · intro s _
    refine Ev.succ ?_
    simp only [laws_eqBoolS.l0]
    exact Ev.neg (by omega) (Ev.some rfl)
def mkRule (a : Int) (j : Nat) : S58 := ⟨a + 3 * (j : Int), a + 3 * (j : Int) + 1, (Int.tmod (a + 3 * (j : Int) + 1 + 1) 3) == 0⟩
def mkRules (a : Int) (n : Nat) : List S58 := (List.range n).map (mkRule a)
theorem mkRules_length (a : Int) (n : Nat) : (mkRules a n).length = n := by simp [mkRules]
theorem mkRules_succ (a : Int) (n : Nat) : mkRules a (n + 1) = mkRules a n ++ [mkRule a n] := by simp [mkRules, List.range_succ]
theorem markRuleS_ev (l : List S58) (a : Int) (h : l.length ≤ 1048576) (h0 : 0 ≤ a) (h1 : a ≤ 1000000000000) : Ev (fun k => laws_markRuleS.f k l a) (a + 3 * (l.length : Int), mkRules a l.length) := by
  unfold laws_markRuleS.f
  refine Ev.upto (F := fun k (s : List S58 × Int) i => laws_markRuleS.l0 k s.1 s.2 i) (n := l.length) (r := (a + 3 * (l.length : Int), mkRules a l.length)) (fun i s => s = (mkRules a i ++ l.drop i, a + 3 * (i : Int))) ?_ ?_ 0 (Nat.zero_le _) (l, a) (by simp [mkRules])
  · intro i s hi hs ih
    have hsl : (mkRules a i ++ l.drop i).length = l.length := by simp [mkRules_length]; omega
    refine Ev.succ ?_
    simp only [laws_markRuleS.l0, hs, Option.bind_some]
    refine Ev.pos (by omega) (Ev.pos (by omega) ?_)
    rw [wrap_succ hi (by omega), wrap_id (x := a + 3 * (i : Int) + 1) (by omega) (by omega), wrap_id (x := a + 3 * (i : Int) + 1 + 1) (by omega) (by omega), wrap_id (x := a + 3 * (i : Int) + 1 + 1 + 1) (by omega) (by omega)]
    refine ih (_, _) ?_
    have hA : i = (mkRules a i).length := (mkRules_length a i).symm
    have e1 : ∀ v, (mkRules a i ++ l.drop i).set i v = (mkRules a i ++ [v]) ++ l.drop (i + 1) := fun v => set_mark _ _ _ v hA hi
    have e2 : ∀ u v, ((mkRules a i ++ [u]) ++ l.drop (i + 1)).set i v = (mkRules a i ++ [v]) ++ l.drop (i + 1) := by
      intro u v
      rw [← e1 u, List.set_set, e1 v]
    have e3 : ∀ u : S58, rd_T58 ((mkRules a i ++ [u]) ++ l.drop (i + 1)) (i : Int) = u := by
      intro u
      show ((mkRules a i ++ [u]) ++ l.drop (i + 1)).getD i _ = u
      rw [List.getD_eq_getElem?_getD, List.append_assoc, List.getElem?_append_right (by rw [mkRules_length]; omega)]
      simp [mkRules_length]
    rw [Int.toNat_natCast, e1, e3, e2, e3, e2, mkRules_succ]
    simp only [Prod.mk.injEq]
    refine ⟨rfl, by omega⟩
  · intro s hs
    have hsl : (mkRules a l.length ++ l.drop l.length).length = l.length := by simp [mkRules_length]
    refine Ev.succ ?_
    simp only [laws_markRuleS.l0, hs]
    exact Ev.neg (by omega) (Ev.some (by simp))
theorem markOpS_ev (l : List S118) (a : Int) (h : l.length ≤ 1048576) (h0 : 0 ≤ a) (h1 : a ≤ 1000000000000) : ∃ l' : List S118, Ev (fun k => laws_markOpS.f k l a) (a + 2 * (l.length : Int), l') := by
  unfold laws_markOpS.f
  have key : ∀ d i (y0 : List S118), l.length - i = d → i ≤ l.length → y0.length = l.length → ∃ l' : List S118, Ev (fun k => laws_markOpS.l0 k y0 (a + 2 * (i : Int)) (i : Int)) (a + 2 * (l.length : Int), l') := by
    intro d
    induction d with
    | zero =>
      intro i s hd hi hs
      refine ⟨s, Ev.succ ?_⟩
      simp only [laws_markOpS.l0]
      exact Ev.neg (by omega) (Ev.some (by rw [show i = l.length by omega]))
    | succ d ih =>
      intro i y0 hd hi hs
      let y1 := y0.set (i : Int).toNat (⟨a + 2 * (i : Int), (rd_T118 y0 (i : Int)).f1⟩ : S118)
      let y2 := y1.set (i : Int).toNat (⟨(rd_T118 y1 (i : Int)).f0, a + 2 * (i : Int) + 1⟩ : S118)
      obtain ⟨l', hl'⟩ := ih (i + 1) y2 (by omega) (by omega) (by simp only [y1, y2, List.length_set]; exact hs)
      refine ⟨l', Ev.succ ?_⟩
      simp only [laws_markOpS.l0, Option.bind_some]
      refine Ev.pos (by omega) (Ev.pos (by omega) ?_)
      rw [wrap_succ (show i < l.length by omega) (by omega), wrap_id (x := a + 2 * (i : Int) + 1) (by omega) (by omega), wrap_id (x := a + 2 * (i : Int) + 1 + 1) (by omega) (by omega)]
      rw [show a + 2 * (i : Int) + 1 + 1 = a + 2 * ((i + 1 : Nat) : Int) by omega]
      exact hl'
  obtain ⟨l', hl'⟩ := key l.length 0 l (by omega) (by omega) rfl
  refine ⟨l', ?_⟩
  simpa using hl'
theorem markInt64S_ev (l : List Int) (a : Int) (h : l.length ≤ 1048576) (h0 : 0 ≤ a) (h1 : a ≤ 1000000000000) : Ev (fun k => laws_markInt64S.f k l a) (a + (l.length : Int), cnt a l.length) := by
  unfold laws_markInt64S.f
  refine Ev.upto (F := fun k (s : List Int × Int) i => laws_markInt64S.l0 k s.1 s.2 i) (n := l.length) (r := (a + (l.length : Int), cnt a l.length)) (fun i s => s = (cnt a i ++ l.drop i, a + (i : Int))) ?_ ?_ 0 (Nat.zero_le _) (l, a) (by simp [cnt])
  · intro i s hi hs ih
    have hsl : (cnt a i ++ l.drop i).length = l.length := by simp [cnt_length]; omega
    refine Ev.succ ?_
    simp only [laws_markInt64S.l0, hs]
    refine Ev.pos (by omega) (Ev.pos (by omega) ?_)
    rw [wrap_succ hi (by omega), wrap_id (x := a + (i : Int) + 1) (by omega) (by omega)]
    refine ih (_, _) ?_
    rw [Int.toNat_natCast, set_mark _ _ _ _ (cnt_length a i).symm hi, cnt_succ]
    simp only [Prod.mk.injEq, true_and]
    omega
  · intro s hs
    have hsl : (cnt a l.length ++ l.drop l.length).length = l.length := by simp [cnt_length]
    refine Ev.succ ?_
    simp only [laws_markInt64S.l0, hs]
    exact Ev.neg (by omega) (Ev.some (by simp))
theorem heldInt64S_ev (n : Nat) (a : Int) (h : n ≤ 1048576) (h0 : 0 ≤ a) (h1 : a ≤ 1000000000000) : Ev (fun k => laws_heldInt64S.f k (cnt a n) a) (a + (n : Int)) := by
  unfold laws_heldInt64S.f
  have hl := cnt_length a n
  refine Ev.upto (F := fun k (s : Int) i => laws_heldInt64S.l0 k (cnt a n) s i) (n := n) (r := a + (n : Int)) (fun i s => s = a + (i : Int)) ?_ ?_ 0 (Nat.zero_le _) a (by simp)
  · intro i s hi hs ih
    refine Ev.succ ?_
    simp only [laws_heldInt64S.l0, hs]
    have hr : rd (cnt a n) (i : Int) = a + (i : Int) := by unfold rd; rw [Int.toNat_natCast, cnt_getD _ _ _ hi]
    refine Ev.pos (by omega) (Ev.pos (by omega) (Ev.pos hr ?_))
    rw [wrap_succ hi (by omega), wrap_id (x := a + (i : Int) + 1) (by omega) (by omega)]
    exact ih _ (by omega)
  · intro s hs
    refine Ev.succ ?_
    simp only [laws_heldInt64S.l0, hs]
    exact Ev.neg (by omega) (Ev.some rfl)
/-- The marks in a list of bools. -/
def cntB (a : Int) (n : Nat) : List Bool := (List.range n).map fun (j : Nat) => (Int.tmod (a + (j : Int)) 3) == 0
theorem cntB_length (a : Int) (n : Nat) : (cntB a n).length = n := by simp [cntB]
theorem cntB_succ (a : Int) (n : Nat) : cntB a (n + 1) = cntB a n ++ [(Int.tmod (a + (n : Int)) 3) == 0] := by simp [cntB, List.range_succ]
theorem cntB_getD (a : Int) (n i : Nat) (h : i < n) : (cntB a n).getD i false = ((Int.tmod (a + (i : Int)) 3) == 0) := by
  simp [cntB, List.getD_eq_getElem?_getD, h]
theorem markBoolS_ev (l : List Bool) (a : Int) (h : l.length ≤ 1048576) (h0 : 0 ≤ a) (h1 : a ≤ 1000000000000) : Ev (fun k => laws_markBoolS.f k l a) (a + (l.length : Int), cntB a l.length) := by
  unfold laws_markBoolS.f
  refine Ev.upto (F := fun k (s : List Bool × Int) i => laws_markBoolS.l0 k s.1 s.2 i) (n := l.length) (r := (a + (l.length : Int), cntB a l.length)) (fun i s => s = (cntB a i ++ l.drop i, a + (i : Int))) ?_ ?_ 0 (Nat.zero_le _) (l, a) (by simp [cntB])
  · intro i s hi hs ih
    have hsl : (cntB a i ++ l.drop i).length = l.length := by simp [cntB_length]; omega
    refine Ev.succ ?_
    simp only [laws_markBoolS.l0, hs]
    refine Ev.pos (by omega) (Ev.pos (by omega) ?_)
    rw [wrap_succ hi (by omega), wrap_id (x := a + (i : Int) + 1) (by omega) (by omega)]
    refine ih (_, _) ?_
    rw [Int.toNat_natCast, set_mark _ _ _ _ (cntB_length a i).symm hi, cntB_succ]
    simp only [Prod.mk.injEq, true_and]
    omega
  · intro s hs
    have hsl : (cntB a l.length ++ l.drop l.length).length = l.length := by simp [cntB_length]
    refine Ev.succ ?_
    simp only [laws_markBoolS.l0, hs]
    exact Ev.neg (by omega) (Ev.some (by simp))
theorem heldBoolS_ev (n : Nat) (a : Int) (h : n ≤ 1048576) (h0 : 0 ≤ a) (h1 : a ≤ 1000000000000) : Ev (fun k => laws_heldBoolS.f k (cntB a n) a) (a + (n : Int)) := by
  unfold laws_heldBoolS.f
  have hl := cntB_length a n
  refine Ev.upto (F := fun k (s : Int) i => laws_heldBoolS.l0 k (cntB a n) s i) (n := n) (r := a + (n : Int)) (fun i s => s = a + (i : Int)) ?_ ?_ 0 (Nat.zero_le _) a (by simp)
  · intro i s hi hs ih
    refine Ev.succ ?_
    simp only [laws_heldBoolS.l0, hs]
    have hr : rdOf false (cntB a n) (i : Int) = ((Int.tmod (a + (i : Int)) 3) == 0) := by unfold rdOf; rw [Int.toNat_natCast, cntB_getD _ _ _ hi]
    refine Ev.pos (by omega) (Ev.pos (by omega) (Ev.neg (by rw [hr]; simp) ?_))
    rw [wrap_succ hi (by omega), wrap_id (x := a + (i : Int) + 1) (by omega) (by omega)]
    exact ih _ (by omega)
  · intro s hs
    refine Ev.succ ?_
    simp only [laws_heldBoolS.l0, hs]
    exact Ev.neg (by omega) (Ev.some rfl)
theorem markSystem_ev (c : List Int) (f : List Bool) (m : Bool) (a : Int) (hc : c.length ≤ 1048576) (hf : f.length ≤ 1048576) (h0 : 0 ≤ a) (h1 : a ≤ 1000000) : Ev (fun k => laws_markSystem.f k c f m a) (a + (c.length : Int) + (f.length : Int), cnt a c.length, cntB (a + (c.length : Int)) f.length) := by
  unfold laws_markSystem.f
  exact Ev.bind (markInt64S_ev c a hc h0 (by omega)) (Ev.bind (markBoolS_ev f _ hf (by simp only; omega) (by simp only; omega)) (Ev.some rfl))
theorem heldSystem_ev (n p : Nat) (m : Bool) (a : Int) (hn : n ≤ 1048576) (hp : p ≤ 1048576) (h0 : 0 ≤ a) (h1 : a ≤ 1000000) : Ev (fun k => laws_heldSystem.f k (cnt a n) (cntB (a + (n : Int)) p) m a) (a + (n : Int) + (p : Int)) := by
  unfold laws_heldSystem.f
  exact Ev.bind (heldInt64S_ev n a hn h0 (by omega)) (Ev.neg (by omega) (Ev.bind (heldBoolS_ev p _ hp (by omega) (by omega)) (Ev.neg (by omega) (Ev.some rfl))))
theorem eqSystem_ev (c : List Int) (f : List Bool) (m : Bool) (hc : c.length ≤ 1048576) (hf : f.length ≤ 1048576) : Ev (fun k => laws_eqSystem.f k c f m c f m) true := by
  unfold laws_eqSystem.f
  exact Ev.bind (eqInt64S_ev c hc) (Ev.pos rfl (Ev.bind (eqBoolS_ev f hf) (Ev.pos rfl (Ev.neg (by simp) (Ev.some rfl)))))
theorem st_toRuleS_ {w0 W : World} {L : List (Thing × Nat × Nat)} {A : Option Addr} {c : Nat} {l : List S50} {r : List S58} (h : St w0 W L) (hr : Kd.C k50 w0 A l.length l) (hc : l.length ≤ c) (he : Ev (fun k => laws_toRuleS.f k l) r) :
    Calls Try.prog 63 #[.slice A l.length c] W fun e w' => ∃ B cb lo hi, e = .returned (.slice B r.length cb) ∧ St w0 w' ((flat k58 58 (.slice B r.length cb) r, lo, hi) :: L) := by
  obtain ⟨k, hk⟩ := he
  refine (laws_toRuleS.calls k A c l r W (Kd.C_below hr h.below) hc (hk k (Nat.le_refl _))).mono ?_
  rintro e w' ⟨v, rfl, hr', hb⟩
  obtain ⟨B, cb, rfl⟩ := Kd.R_slice hr'
  exact ⟨B, cb, _, _, rfl, h.add hb (flat_new hr')⟩
theorem st_markRuleS_ {w0 W : World} {L L' : List (Thing × Nat × Nat)} {v : Value} {l l' : List S58} {a r : Int} {lo hi : Nat} (h : St w0 W L) (u : Upd (flat k58 58 v l) (flat k58 58 v l') lo hi L L') (he : Ev (fun k => laws_markRuleS.f k l a) (r, l')) :
    Calls Try.prog 70 #[v, .int .i64 a] W fun e w' => e = .returned (.int .i64 r) ∧ St w0 w' L' := by
  obtain ⟨hp, hlo, _, _⟩ := h.get u.mem
  obtain ⟨k, hk⟩ := he
  refine (laws_markRuleS.calls k (fun k_ => some k_ = v.ownBlock) v l a r l' w0 W h.below (Kd.R_lower (Kd.R_tight rfl hp) hlo) (hk k (Nat.le_refl _))).mono ?_
  rintro e w' ⟨rfl, hr', hb, hk'⟩
  exact ⟨rfl, h.upd u hb (hk'.mono (fun k e => hp.1 k e.symm)) (flat_marked (b := w0.heap.size) rfl (fun _ _ _ _ h => h) hp hr')⟩
theorem st_toOpS_ {w0 W : World} {L : List (Thing × Nat × Nat)} {A : Option Addr} {c : Nat} {l : List S120} {r : List S118} (h : St w0 W L) (hr : Kd.C k120 w0 A l.length l) (hc : l.length ≤ c) (he : Ev (fun k => laws_toOpS.f k l) r) :
    Calls Try.prog 38 #[.slice A l.length c] W fun e w' => ∃ B cb lo hi, e = .returned (.slice B r.length cb) ∧ St w0 w' ((flat k118 118 (.slice B r.length cb) r, lo, hi) :: L) := by
  obtain ⟨k, hk⟩ := he
  refine (laws_toOpS.calls k A c l r W (Kd.C_below hr h.below) hc (hk k (Nat.le_refl _))).mono ?_
  rintro e w' ⟨v, rfl, hr', hb⟩
  obtain ⟨B, cb, rfl⟩ := Kd.R_slice hr'
  exact ⟨B, cb, _, _, rfl, h.add hb (flat_new hr')⟩
theorem st_eqOpS_ {w0 W : World} {L : List (Thing × Nat × Nat)} {v1 v2 : Value} {l : List S118} {lo1 hi1 lo2 hi2 : Nat} {b : Bool} (h : St w0 W L) (h1 : (flat k118 118 v1 l, lo1, hi1) ∈ L) (h2 : (flat k118 118 v2 l, lo2, hi2) ∈ L) (he : Ev (fun k => laws_eqOpS.f k l l) b) :
    Calls Try.prog 40 #[v1, v2] W fun e w' => e = .returned (.bool b) ∧ St w0 w' L := by
  obtain ⟨A1, c1, rfl, hc1, hC1⟩ := flat_reads (h.get h1).1
  obtain ⟨A2, c2, rfl, hc2, hC2⟩ := flat_reads (h.get h2).1
  obtain ⟨k, hk⟩ := he
  refine (laws_eqOpS.calls k A1 c1 l A2 c2 l b W hC1 hc1 hC2 hc2 (hk k (Nat.le_refl _))).mono ?_
  rintro e w' ⟨rfl, hb⟩
  exact ⟨rfl, by first | exact h.step hb | exact h.step hb.below⟩
theorem st_markOpS_ {w0 W : World} {L L' : List (Thing × Nat × Nat)} {v : Value} {l l' : List S118} {a r : Int} {lo hi : Nat} (h : St w0 W L) (u : Upd (flat k118 118 v l) (flat k118 118 v l') lo hi L L') (he : Ev (fun k => laws_markOpS.f k l a) (r, l')) :
    Calls Try.prog 44 #[v, .int .i64 a] W fun e w' => e = .returned (.int .i64 r) ∧ St w0 w' L' := by
  obtain ⟨hp, hlo, _, _⟩ := h.get u.mem
  obtain ⟨k, hk⟩ := he
  refine (laws_markOpS.calls k (fun k_ => some k_ = v.ownBlock) v l a r l' w0 W h.below (Kd.R_lower (Kd.R_tight rfl hp) hlo) (hk k (Nat.le_refl _))).mono ?_
  rintro e w' ⟨rfl, hr', hb, hk'⟩
  exact ⟨rfl, h.upd u hb (hk'.mono (fun k e => hp.1 k e.symm)) (flat_marked (b := w0.heap.size) rfl (fun _ _ _ _ h => h) hp hr')⟩
theorem st_szProtocol {w0 W : World} {L : List (Thing × Nat × Nat)} {A0 : Option Addr} {c0 : Nat} {l0 : List S50} {A1 : Option Addr} {c1 : Nat} {l1 : List S50} {A2 : Option Addr} {c2 : Nat} {l2 : List S50} {A3 : Option Addr} {c3 : Nat} {l3 : List S50} {A4 : Option Addr} {c4 : Nat} {l4 : List S50} {a r : Int} (h : St w0 W L) (hr0 : Kd.C k50 w0 A0 l0.length l0) (hc0 : l0.length ≤ c0) (hr1 : Kd.C k50 w0 A1 l1.length l1) (hc1 : l1.length ≤ c1) (hr2 : Kd.C k50 w0 A2 l2.length l2) (hc2 : l2.length ≤ c2) (hr3 : Kd.C k50 w0 A3 l3.length l3) (hc3 : l3.length ≤ c3) (hr4 : Kd.C k50 w0 A4 l4.length l4) (hc4 : l4.length ≤ c4) (he : laws_szProtocol.f l0 l1 l2 l3 l4 a = some r) :
    Calls Try.prog 28 #[.agg #[.slice A0 l0.length c0, .slice A1 l1.length c1, .slice A2 l2.length c2, .slice A3 l3.length c3, .slice A4 l4.length c4], .int .i64 a] W fun e w' => e = .returned (.int .i64 r) ∧ St w0 w' L := by
  refine (laws_szProtocol.calls A0 c0 l0 A1 c1 l1 A2 c2 l2 A3 c3 l3 A4 c4 l4 a r W (Kd.C_below hr0 h.below) hc0 (Kd.C_below hr1 h.below) hc1 (Kd.C_below hr2 h.below) hc2 (Kd.C_below hr3 h.below) hc3 (Kd.C_below hr4 h.below) hc4 he).mono ?_
  rintro e w' ⟨rfl, hb⟩
  exact ⟨rfl, h.step (by first | exact hb | exact hb.below)⟩
set_option maxHeartbeats 3200000 in
set_option maxRecDepth 100000 in
theorem st_toProtocol {w0 W : World} {L : List (Thing × Nat × Nat)} {A0 : Option Addr} {c0 : Nat} {l0 : List S50} {A1 : Option Addr} {c1 : Nat} {l1 : List S50} {A2 : Option Addr} {c2 : Nat} {l2 : List S50} {A3 : Option Addr} {c3 : Nat} {l3 : List S50} {A4 : Option Addr} {c4 : Nat} {l4 : List S50} {r0 : List S58} {r1 : List S58} {r2 : List S58} {r3 : List S58} {r4 : List S58} (h : St w0 W L) (hr0 : Kd.C k50 w0 A0 l0.length l0) (hc0 : l0.length ≤ c0) (hr1 : Kd.C k50 w0 A1 l1.length l1) (hc1 : l1.length ≤ c1) (hr2 : Kd.C k50 w0 A2 l2.length l2) (hc2 : l2.length ≤ c2) (hr3 : Kd.C k50 w0 A3 l3.length l3) (hc3 : l3.length ≤ c3) (hr4 : Kd.C k50 w0 A4 l4.length l4) (hc4 : l4.length ≤ c4) (he0 : Ev (fun k => laws_toRuleS.f k l0) r0) (he1 : Ev (fun k => laws_toRuleS.f k l1) r1) (he2 : Ev (fun k => laws_toRuleS.f k l2) r2) (he3 : Ev (fun k => laws_toRuleS.f k l3) r3) (he4 : Ev (fun k => laws_toRuleS.f k l4) r4) :
    Calls Try.prog 30 #[.agg #[.slice A0 l0.length c0, .slice A1 l1.length c1, .slice A2 l2.length c2, .slice A3 l3.length c3, .slice A4 l4.length c4]] W fun e w' => ∃ B0 b0 B1 b1 B2 b2 B3 b3 B4 b4, e = .returned (.agg #[.slice B0 r0.length b0, .slice B1 r1.length b1, .slice B2 r2.length b2, .slice B3 r3.length b3, .slice B4 r4.length b4]) ∧ ∃ lo0 hi0 lo1 hi1 lo2 hi2 lo3 hi3 lo4 hi4, St w0 w' ((flat k58 58 (.slice B4 r4.length b4) r4, lo4, hi4) :: (flat k58 58 (.slice B3 r3.length b3) r3, lo3, hi3) :: (flat k58 58 (.slice B2 r2.length b2) r2, lo2, hi2) :: (flat k58 58 (.slice B1 r1.length b1) r1, lo1, hi1) :: (flat k58 58 (.slice B0 r0.length b0) r0, lo0, hi0) :: L) := by
  have HR0 := Aside0.mk hr0
  have HC0 := Aside0.mk hc0
  have HE0 := Aside0.mk he0
  have HR1 := Aside0.mk hr1
  have HC1 := Aside0.mk hc1
  have HE1 := Aside0.mk he1
  have HR2 := Aside0.mk hr2
  have HC2 := Aside0.mk hc2
  have HE2 := Aside0.mk he2
  have HR3 := Aside0.mk hr3
  have HC3 := Aside0.mk hc3
  have HE3 := Aside0.mk he3
  have HR4 := Aside0.mk hr4
  have HC4 := Aside0.mk hc4
  have HE4 := Aside0.mk he4
  have HS := h
  clear hr0 hc0 he0 hr1 hc1 he1 hr2 hc2 he2 hr3 hc3 he3 hr4 hc4 he4 h
  go_enter Try.func30, Try.ntmps30
  go_wp2_with fail
  refine (st_toRuleS_ (w0 := w0) (St.box (St.box (St.box HS _ _) _ _) _ _) HR0.out HC0.out HE0.out).mono ?_
  rintro e w1 ⟨B0, b0, lo0, hi0, rfl, HS⟩
  simp only [World.size_alloc] at HS
  have q1 : w1.cell? ⟨W.heap.size, 1, none⟩ = some (.slice A1 l1.length c1) := HS.cell (cs := #[.slice A0 l0.length c0, .slice A1 l1.length c1, .slice A2 l2.length c2, .slice A3 l3.length c3, .slice A4 l4.length c4]) (t := 48) (by repeat (first | with_reducible exact List.mem_cons_self | refine List.mem_cons_of_mem _ ?_)) 1 _ rfl
  have u0 : w1.cell? ⟨W.heap.size + 1 + 1, 0, none⟩ = some (.slice none 0 0) := HS.cell (cs := #[.slice none 0 0, .slice none 0 0, .slice none 0 0, .slice none 0 0, .slice none 0 0]) (t := 54) (by repeat (first | with_reducible exact List.mem_cons_self | refine List.mem_cons_of_mem _ ?_)) 0 _ rfl
  have fzu : ∀ j, w1.frozen? ⟨W.heap.size + 1 + 1, j, none⟩ = false := HS.thaw (cs := #[.slice none 0 0, .slice none 0 0, .slice none 0 0, .slice none 0 0, .slice none 0 0]) (t := 54) (by repeat (first | with_reducible exact List.mem_cons_self | refine List.mem_cons_of_mem _ ?_))
  go_wp2_with fail
  refine (st_toRuleS_ (w0 := w0) (St.setBox (by with_reducible exact HS) 0 _ (by repeat (first | with_reducible exact Upd.here | apply Upd.there))) HR1.out HC1.out HE1.out).mono ?_
  rintro e w2 ⟨B1, b1, lo1, hi1, rfl, HS⟩
  simp only [List.setIfInBounds_toArray, List.set_cons_zero, List.set_cons_succ] at HS
  clear q1 u0 fzu
  have q2 : w2.cell? ⟨W.heap.size, 2, none⟩ = some (.slice A2 l2.length c2) := HS.cell (cs := #[.slice A0 l0.length c0, .slice A1 l1.length c1, .slice A2 l2.length c2, .slice A3 l3.length c3, .slice A4 l4.length c4]) (t := 48) (by repeat (first | with_reducible exact List.mem_cons_self | refine List.mem_cons_of_mem _ ?_)) 2 _ rfl
  have u1 : w2.cell? ⟨W.heap.size + 1 + 1, 1, none⟩ = some (.slice none 0 0) := HS.cell (cs := #[.slice B0 r0.length b0, .slice none 0 0, .slice none 0 0, .slice none 0 0, .slice none 0 0]) (t := 54) (by repeat (first | with_reducible exact List.mem_cons_self | refine List.mem_cons_of_mem _ ?_)) 1 _ rfl
  have fzu : ∀ j, w2.frozen? ⟨W.heap.size + 1 + 1, j, none⟩ = false := HS.thaw (cs := #[.slice B0 r0.length b0, .slice none 0 0, .slice none 0 0, .slice none 0 0, .slice none 0 0]) (t := 54) (by repeat (first | with_reducible exact List.mem_cons_self | refine List.mem_cons_of_mem _ ?_))
  go_wp2_with fail
  refine (st_toRuleS_ (w0 := w0) (St.setBox (by with_reducible exact HS) 1 _ (by repeat (first | with_reducible exact Upd.here | apply Upd.there))) HR2.out HC2.out HE2.out).mono ?_
  rintro e w3 ⟨B2, b2, lo2, hi2, rfl, HS⟩
  simp only [List.setIfInBounds_toArray, List.set_cons_zero, List.set_cons_succ] at HS
  clear q2 u1 fzu
  have q3 : w3.cell? ⟨W.heap.size, 3, none⟩ = some (.slice A3 l3.length c3) := HS.cell (cs := #[.slice A0 l0.length c0, .slice A1 l1.length c1, .slice A2 l2.length c2, .slice A3 l3.length c3, .slice A4 l4.length c4]) (t := 48) (by repeat (first | with_reducible exact List.mem_cons_self | refine List.mem_cons_of_mem _ ?_)) 3 _ rfl
  have u2 : w3.cell? ⟨W.heap.size + 1 + 1, 2, none⟩ = some (.slice none 0 0) := HS.cell (cs := #[.slice B0 r0.length b0, .slice B1 r1.length b1, .slice none 0 0, .slice none 0 0, .slice none 0 0]) (t := 54) (by repeat (first | with_reducible exact List.mem_cons_self | refine List.mem_cons_of_mem _ ?_)) 2 _ rfl
  have fzu : ∀ j, w3.frozen? ⟨W.heap.size + 1 + 1, j, none⟩ = false := HS.thaw (cs := #[.slice B0 r0.length b0, .slice B1 r1.length b1, .slice none 0 0, .slice none 0 0, .slice none 0 0]) (t := 54) (by repeat (first | with_reducible exact List.mem_cons_self | refine List.mem_cons_of_mem _ ?_))
  go_wp2_with fail
  refine (st_toRuleS_ (w0 := w0) (St.setBox (by with_reducible exact HS) 2 _ (by repeat (first | with_reducible exact Upd.here | apply Upd.there))) HR3.out HC3.out HE3.out).mono ?_
  rintro e w4 ⟨B3, b3, lo3, hi3, rfl, HS⟩
  simp only [List.setIfInBounds_toArray, List.set_cons_zero, List.set_cons_succ] at HS
  clear q3 u2 fzu
  have q4 : w4.cell? ⟨W.heap.size, 4, none⟩ = some (.slice A4 l4.length c4) := HS.cell (cs := #[.slice A0 l0.length c0, .slice A1 l1.length c1, .slice A2 l2.length c2, .slice A3 l3.length c3, .slice A4 l4.length c4]) (t := 48) (by repeat (first | with_reducible exact List.mem_cons_self | refine List.mem_cons_of_mem _ ?_)) 4 _ rfl
  have u3 : w4.cell? ⟨W.heap.size + 1 + 1, 3, none⟩ = some (.slice none 0 0) := HS.cell (cs := #[.slice B0 r0.length b0, .slice B1 r1.length b1, .slice B2 r2.length b2, .slice none 0 0, .slice none 0 0]) (t := 54) (by repeat (first | with_reducible exact List.mem_cons_self | refine List.mem_cons_of_mem _ ?_)) 3 _ rfl
  have fzu : ∀ j, w4.frozen? ⟨W.heap.size + 1 + 1, j, none⟩ = false := HS.thaw (cs := #[.slice B0 r0.length b0, .slice B1 r1.length b1, .slice B2 r2.length b2, .slice none 0 0, .slice none 0 0]) (t := 54) (by repeat (first | with_reducible exact List.mem_cons_self | refine List.mem_cons_of_mem _ ?_))
  go_wp2_with fail
  refine (st_toRuleS_ (w0 := w0) (St.setBox (by with_reducible exact HS) 3 _ (by repeat (first | with_reducible exact Upd.here | apply Upd.there))) HR4.out HC4.out HE4.out).mono ?_
  rintro e w5 ⟨B4, b4, lo4, hi4, rfl, HS⟩
  simp only [List.setIfInBounds_toArray, List.set_cons_zero, List.set_cons_succ] at HS
  clear q4 u3 fzu
  have u0 : w5.cell? ⟨W.heap.size + 1 + 1, 0, none⟩ = some (.slice B0 r0.length b0) := HS.cell (cs := #[.slice B0 r0.length b0, .slice B1 r1.length b1, .slice B2 r2.length b2, .slice B3 r3.length b3, .slice none 0 0]) (t := 54) (by repeat (first | with_reducible exact List.mem_cons_self | refine List.mem_cons_of_mem _ ?_)) 0 _ rfl
  have u1 : w5.cell? ⟨W.heap.size + 1 + 1, 1, none⟩ = some (.slice B1 r1.length b1) := HS.cell (cs := #[.slice B0 r0.length b0, .slice B1 r1.length b1, .slice B2 r2.length b2, .slice B3 r3.length b3, .slice none 0 0]) (t := 54) (by repeat (first | with_reducible exact List.mem_cons_self | refine List.mem_cons_of_mem _ ?_)) 1 _ rfl
  have u2 : w5.cell? ⟨W.heap.size + 1 + 1, 2, none⟩ = some (.slice B2 r2.length b2) := HS.cell (cs := #[.slice B0 r0.length b0, .slice B1 r1.length b1, .slice B2 r2.length b2, .slice B3 r3.length b3, .slice none 0 0]) (t := 54) (by repeat (first | with_reducible exact List.mem_cons_self | refine List.mem_cons_of_mem _ ?_)) 2 _ rfl
  have u3 : w5.cell? ⟨W.heap.size + 1 + 1, 3, none⟩ = some (.slice B3 r3.length b3) := HS.cell (cs := #[.slice B0 r0.length b0, .slice B1 r1.length b1, .slice B2 r2.length b2, .slice B3 r3.length b3, .slice none 0 0]) (t := 54) (by repeat (first | with_reducible exact List.mem_cons_self | refine List.mem_cons_of_mem _ ?_)) 3 _ rfl
  have u4 : w5.cell? ⟨W.heap.size + 1 + 1, 4, none⟩ = some (.slice none 0 0) := HS.cell (cs := #[.slice B0 r0.length b0, .slice B1 r1.length b1, .slice B2 r2.length b2, .slice B3 r3.length b3, .slice none 0 0]) (t := 54) (by repeat (first | with_reducible exact List.mem_cons_self | refine List.mem_cons_of_mem _ ?_)) 4 _ rfl
  have fzu : ∀ j, w5.frozen? ⟨W.heap.size + 1 + 1, j, none⟩ = false := HS.thaw (cs := #[.slice B0 r0.length b0, .slice B1 r1.length b1, .slice B2 r2.length b2, .slice B3 r3.length b3, .slice none 0 0]) (t := 54) (by repeat (first | with_reducible exact List.mem_cons_self | refine List.mem_cons_of_mem _ ?_))
  have z0 : w5.cell? ⟨W.heap.size + 1, 0, none⟩ = some (.slice none 0 0) := HS.cell (cs := #[.slice none 0 0, .slice none 0 0, .slice none 0 0, .slice none 0 0, .slice none 0 0]) (t := 54) (by repeat (first | with_reducible exact List.mem_cons_self | refine List.mem_cons_of_mem _ ?_)) 0 _ rfl
  have z1 : w5.cell? ⟨W.heap.size + 1, 1, none⟩ = some (.slice none 0 0) := HS.cell (cs := #[.slice none 0 0, .slice none 0 0, .slice none 0 0, .slice none 0 0, .slice none 0 0]) (t := 54) (by repeat (first | with_reducible exact List.mem_cons_self | refine List.mem_cons_of_mem _ ?_)) 1 _ rfl
  have z2 : w5.cell? ⟨W.heap.size + 1, 2, none⟩ = some (.slice none 0 0) := HS.cell (cs := #[.slice none 0 0, .slice none 0 0, .slice none 0 0, .slice none 0 0, .slice none 0 0]) (t := 54) (by repeat (first | with_reducible exact List.mem_cons_self | refine List.mem_cons_of_mem _ ?_)) 2 _ rfl
  have z3 : w5.cell? ⟨W.heap.size + 1, 3, none⟩ = some (.slice none 0 0) := HS.cell (cs := #[.slice none 0 0, .slice none 0 0, .slice none 0 0, .slice none 0 0, .slice none 0 0]) (t := 54) (by repeat (first | with_reducible exact List.mem_cons_self | refine List.mem_cons_of_mem _ ?_)) 3 _ rfl
  have z4 : w5.cell? ⟨W.heap.size + 1, 4, none⟩ = some (.slice none 0 0) := HS.cell (cs := #[.slice none 0 0, .slice none 0 0, .slice none 0 0, .slice none 0 0, .slice none 0 0]) (t := 54) (by repeat (first | with_reducible exact List.mem_cons_self | refine List.mem_cons_of_mem _ ?_)) 4 _ rfl
  have fzz : ∀ j, w5.frozen? ⟨W.heap.size + 1, j, none⟩ = false := HS.thaw (cs := #[.slice none 0 0, .slice none 0 0, .slice none 0 0, .slice none 0 0, .slice none 0 0]) (t := 54) (by repeat (first | with_reducible exact List.mem_cons_self | refine List.mem_cons_of_mem _ ?_))
  go_wp2_with fail
  refine bodyPost_ret (results_cell_row rfl _ _ (W.heap.size + 1) 54 _ (0, 0) _ rfl (St.blk (w0 := w0) (St.setBox (St.setBox (St.setBox (St.setBox (St.setBox (St.setBox (by with_reducible exact HS) 4 _ (by repeat (first | with_reducible exact Upd.here | apply Upd.there))) 0 _ (by repeat (first | with_reducible exact Upd.here | apply Upd.there))) 1 _ (by repeat (first | with_reducible exact Upd.here | apply Upd.there))) 2 _ (by repeat (first | with_reducible exact Upd.here | apply Upd.there))) 3 _ (by repeat (first | with_reducible exact Upd.here | apply Upd.there))) 4 _ (by repeat (first | with_reducible exact Upd.here | apply Upd.there))) (by repeat (first | with_reducible exact List.mem_cons_self | refine List.mem_cons_of_mem _ ?_))) Try.underlying54 rfl (by kernel_rfl)) rfl ?_
  exact ⟨B0, b0, B1, b1, B2, b2, B3, b3, B4, b4, rfl, _, _, _, _, _, _, _, _, _, _, St.sub (w0 := w0) (St.setBox (St.setBox (St.setBox (St.setBox (St.setBox (St.setBox (by with_reducible exact HS) 4 _ (by repeat (first | with_reducible exact Upd.here | apply Upd.there))) 0 _ (by repeat (first | with_reducible exact Upd.here | apply Upd.there))) 1 _ (by repeat (first | with_reducible exact Upd.here | apply Upd.there))) 2 _ (by repeat (first | with_reducible exact Upd.here | apply Upd.there))) 3 _ (by repeat (first | with_reducible exact Upd.here | apply Upd.there))) 4 _ (by repeat (first | with_reducible exact Upd.here | apply Upd.there))) (List.Sublist.cons_cons _ (List.Sublist.cons_cons _ (List.Sublist.cons_cons _ (List.Sublist.cons_cons _ (List.Sublist.cons_cons _ (List.Sublist.cons _ (List.Sublist.cons _ (List.Sublist.cons _ (List.Sublist.refl _)))))))))⟩
theorem st_eqProtocol {w0 W : World} {L : List (Thing × Nat × Nat)} {r0 : List S58} {A0 B0 : Option Addr} {n0 m0 c0 d0 lo0 hi0 lp0 hp0 : Nat} {r1 : List S58} {A1 B1 : Option Addr} {n1 m1 c1 d1 lo1 hi1 lp1 hp1 : Nat} {r2 : List S58} {A2 B2 : Option Addr} {n2 m2 c2 d2 lo2 hi2 lp2 hp2 : Nat} {r3 : List S58} {A3 B3 : Option Addr} {n3 m3 c3 d3 lo3 hi3 lp3 hp3 : Nat} {r4 : List S58} {A4 B4 : Option Addr} {n4 m4 c4 d4 lo4 hi4 lp4 hp4 : Nat} {b : Bool} (h : St w0 W L)
    (h0 : (flat k58 58 (.slice A0 n0 c0) r0, lo0, hi0) ∈ L) (g0 : (flat k58 58 (.slice B0 m0 d0) r0, lp0, hp0) ∈ L) (h1 : (flat k58 58 (.slice A1 n1 c1) r1, lo1, hi1) ∈ L) (g1 : (flat k58 58 (.slice B1 m1 d1) r1, lp1, hp1) ∈ L) (h2 : (flat k58 58 (.slice A2 n2 c2) r2, lo2, hi2) ∈ L) (g2 : (flat k58 58 (.slice B2 m2 d2) r2, lp2, hp2) ∈ L) (h3 : (flat k58 58 (.slice A3 n3 c3) r3, lo3, hi3) ∈ L) (g3 : (flat k58 58 (.slice B3 m3 d3) r3, lp3, hp3) ∈ L) (h4 : (flat k58 58 (.slice A4 n4 c4) r4, lo4, hi4) ∈ L) (g4 : (flat k58 58 (.slice B4 m4 d4) r4, lp4, hp4) ∈ L)
    (he : Ev (fun k => laws_eqProtocol.f k r0 r1 r2 r3 r4 r0 r1 r2 r3 r4) b) :
    Calls Try.prog 33 #[.agg #[.slice A0 n0 c0, .slice A1 n1 c1, .slice A2 n2 c2, .slice A3 n3 c3, .slice A4 n4 c4], .agg #[.slice B0 m0 d0, .slice B1 m1 d1, .slice B2 m2 d2, .slice B3 m3 d3, .slice B4 m4 d4]] W fun e w' => e = .returned (.bool b) ∧ St w0 w' L := by
  obtain ⟨rfl, a0, C0⟩ := Kd.R_reads' (h.get h0).1
  obtain ⟨rfl, a1, C1⟩ := Kd.R_reads' (h.get h1).1
  obtain ⟨rfl, a2, C2⟩ := Kd.R_reads' (h.get h2).1
  obtain ⟨rfl, a3, C3⟩ := Kd.R_reads' (h.get h3).1
  obtain ⟨rfl, a4, C4⟩ := Kd.R_reads' (h.get h4).1
  obtain ⟨rfl, a5, C5⟩ := Kd.R_reads' (h.get g0).1
  obtain ⟨rfl, a6, C6⟩ := Kd.R_reads' (h.get g1).1
  obtain ⟨rfl, a7, C7⟩ := Kd.R_reads' (h.get g2).1
  obtain ⟨rfl, a8, C8⟩ := Kd.R_reads' (h.get g3).1
  obtain ⟨rfl, a9, C9⟩ := Kd.R_reads' (h.get g4).1
  obtain ⟨k, hk⟩ := he
  refine (laws_eqProtocol.calls k A0 c0 r0 A1 c1 r1 A2 c2 r2 A3 c3 r3 A4 c4 r4 B0 d0 r0 B1 d1 r1 B2 d2 r2 B3 d3 r3 B4 d4 r4 b W C0 a0 C1 a1 C2 a2 C3 a3 C4 a4 C5 a5 C6 a6 C7 a7 C8 a8 C9 a9 (hk k (Nat.le_refl _))).mono ?_
  rintro e w' ⟨rfl, hb⟩
  exact ⟨rfl, by first | exact h.step hb | exact h.step hb.below⟩
set_option maxHeartbeats 1600000 in
set_option maxRecDepth 100000 in
theorem st_markProtocol {w0 W : World} {L0 : List (Thing × Nat × Nat)} {L1 : List (Thing × Nat × Nat)} {L2 : List (Thing × Nat × Nat)} {L3 : List (Thing × Nat × Nat)} {L4 : List (Thing × Nat × Nat)} {L5 : List (Thing × Nat × Nat)} {r0 : List S58} {A0 : Option Addr} {n0 c0 lo0 hi0 : Nat} {r1 : List S58} {A1 : Option Addr} {n1 c1 lo1 hi1 : Nat} {r2 : List S58} {A2 : Option Addr} {n2 c2 lo2 hi2 : Nat} {r3 : List S58} {A3 : Option Addr} {n3 c3 lo3 hi3 : Nat} {r4 : List S58} {A4 : Option Addr} {n4 c4 lo4 hi4 : Nat} {s0 : List S58} {s1 : List S58} {s2 : List S58} {s3 : List S58} {s4 : List S58} {a a1 a2 a3 a4 a5 : Int} (h : St w0 W L0)
    (u0 : Upd (flat k58 58 (.slice A0 n0 c0) r0) (flat k58 58 (.slice A0 n0 c0) s0) lo0 hi0 L0 L1) (e0 : Ev (fun k => laws_markRuleS.f k r0 a) (a1, s0))
    (u1 : Upd (flat k58 58 (.slice A1 n1 c1) r1) (flat k58 58 (.slice A1 n1 c1) s1) lo1 hi1 L1 L2) (e1 : Ev (fun k => laws_markRuleS.f k r1 a1) (a2, s1))
    (u2 : Upd (flat k58 58 (.slice A2 n2 c2) r2) (flat k58 58 (.slice A2 n2 c2) s2) lo2 hi2 L2 L3) (e2 : Ev (fun k => laws_markRuleS.f k r2 a2) (a3, s2))
    (u3 : Upd (flat k58 58 (.slice A3 n3 c3) r3) (flat k58 58 (.slice A3 n3 c3) s3) lo3 hi3 L3 L4) (e3 : Ev (fun k => laws_markRuleS.f k r3 a3) (a4, s3))
    (u4 : Upd (flat k58 58 (.slice A4 n4 c4) r4) (flat k58 58 (.slice A4 n4 c4) s4) lo4 hi4 L4 L5) (e4 : Ev (fun k => laws_markRuleS.f k r4 a4) (a5, s4)) :
    Calls Try.prog 34 #[.agg #[.slice A0 n0 c0, .slice A1 n1 c1, .slice A2 n2 c2, .slice A3 n3 c3, .slice A4 n4 c4], .int .i64 a] W fun e w' => e = .returned (.int .i64 a5) ∧ St w0 w' L5 := by
  have Xu0 := Aside0.mk u0
  have Xe0 := Aside0.mk e0
  have Xu1 := Aside0.mk u1
  have Xe1 := Aside0.mk e1
  have Xu2 := Aside0.mk u2
  have Xe2 := Aside0.mk e2
  have Xu3 := Aside0.mk u3
  have Xe3 := Aside0.mk e3
  have Xu4 := Aside0.mk u4
  have Xe4 := Aside0.mk e4
  have HS := h
  clear u0 e0 u1 e1 u2 e2 u3 e3 u4 e4 h
  go_enter Try.func34, Try.ntmps34
  go_wp2_with fail
  refine (st_markRuleS_ (w0 := w0) (St.box HS _ _) (Upd.there Xu0.out) Xe0.out).mono ?_
  rintro e w1 ⟨rfl, HS⟩
  have q1 : w1.cell? ⟨W.heap.size, 1, none⟩ = some (.slice A1 n1 c1) := HS.cell (cs := #[.slice A0 n0 c0, .slice A1 n1 c1, .slice A2 n2 c2, .slice A3 n3 c3, .slice A4 n4 c4]) (t := 54) (by repeat (first | with_reducible exact List.mem_cons_self | refine List.mem_cons_of_mem _ ?_)) 1 _ rfl
  go_wp2_with fail
  refine (st_markRuleS_ (w0 := w0) (by with_reducible exact HS) (Upd.there Xu1.out) Xe1.out).mono ?_
  rintro e w2 ⟨rfl, HS⟩
  clear q1
  have q2 : w2.cell? ⟨W.heap.size, 2, none⟩ = some (.slice A2 n2 c2) := HS.cell (cs := #[.slice A0 n0 c0, .slice A1 n1 c1, .slice A2 n2 c2, .slice A3 n3 c3, .slice A4 n4 c4]) (t := 54) (by repeat (first | with_reducible exact List.mem_cons_self | refine List.mem_cons_of_mem _ ?_)) 2 _ rfl
  go_wp2_with fail
  refine (st_markRuleS_ (w0 := w0) (by with_reducible exact HS) (Upd.there Xu2.out) Xe2.out).mono ?_
  rintro e w3 ⟨rfl, HS⟩
  clear q2
  have q3 : w3.cell? ⟨W.heap.size, 3, none⟩ = some (.slice A3 n3 c3) := HS.cell (cs := #[.slice A0 n0 c0, .slice A1 n1 c1, .slice A2 n2 c2, .slice A3 n3 c3, .slice A4 n4 c4]) (t := 54) (by repeat (first | with_reducible exact List.mem_cons_self | refine List.mem_cons_of_mem _ ?_)) 3 _ rfl
  go_wp2_with fail
  refine (st_markRuleS_ (w0 := w0) (by with_reducible exact HS) (Upd.there Xu3.out) Xe3.out).mono ?_
  rintro e w4 ⟨rfl, HS⟩
  clear q3
  have q4 : w4.cell? ⟨W.heap.size, 4, none⟩ = some (.slice A4 n4 c4) := HS.cell (cs := #[.slice A0 n0 c0, .slice A1 n1 c1, .slice A2 n2 c2, .slice A3 n3 c3, .slice A4 n4 c4]) (t := 54) (by repeat (first | with_reducible exact List.mem_cons_self | refine List.mem_cons_of_mem _ ?_)) 4 _ rfl
  go_wp2_with fail
  refine (st_markRuleS_ (w0 := w0) (by with_reducible exact HS) (Upd.there Xu4.out) Xe4.out).mono ?_
  rintro e w5 ⟨rfl, HS⟩
  clear q4
  go_wp2_with fail
  go_ret
  exact ⟨rfl, St.sub HS (List.Sublist.cons _ (List.Sublist.refl _))⟩
/-- A system's two rows, in two blocks that no other holds. -/
def sysT (v0 : Value) (c : List Int) (v1 : Value) (f : List Bool) : Thing where
  P W lo hi := Kd.R (Kd.int .i64) 2 W lo (fun k => In lo hi k ∧ some k ≠ v1.ownBlock) v0 c ∧ Kd.R Kd.bool 4 W lo (fun k => In lo hi k ∧ some k ≠ v0.ownBlock) v1 f
  move h hm := ⟨Kd.R_step h.1 (fun k hk hlt => hm k hk.1.1 hk.1.2 hlt), Kd.R_step h.2 (fun k hk hlt => hm k hk.1.1 hk.1.2 hlt)⟩
theorem sys_new {W' : World} {B : Nat} {v0 v1 : Value} {c : List Int} {f : List Bool} (h0 : Kd.R (Kd.int .i64) 2 W' B (fun k_ => some k_ ≠ v1.ownBlock) v0 c) (h1 : Kd.R Kd.bool 4 W' B (fun k_ => some k_ ≠ v0.ownBlock) v1 f) : (sysT v0 c v1 f).P W' B W'.heap.size :=
  ⟨Kd.R_mono (Kd.R_bound h0) (fun _ hk => ⟨⟨hk.2.1, hk.2.2.1⟩, hk.1⟩), Kd.R_mono (Kd.R_bound h1) (fun _ hk => ⟨⟨hk.2.1, hk.2.2.1⟩, hk.1⟩)⟩
theorem sys_reads {W : World} {lo hi : Nat} {A0 A1 : Option Addr} {n0 c0 n1 c1 : Nat} {c : List Int} {f : List Bool} (h : (sysT (.slice A0 n0 c0) c (.slice A1 n1 c1) f).P W lo hi) : (n0 = c.length ∧ n0 ≤ c0 ∧ (Kd.int .i64).C W A0 c.length c) ∧ (n1 = f.length ∧ n1 ≤ c1 ∧ Kd.bool.C W A1 f.length f) := ⟨Kd.R_reads' h.1, Kd.R_reads' h.2⟩
theorem st_eqSystem {w0 W : World} {L : List (Thing × Nat × Nat)} {A0 A1 B0 B1 : Option Addr} {n0 n1 m0 m1 c0 c1 d0 d1 lo hi lp hp : Nat} {c : List Int} {f : List Bool} {m b : Bool} (h : St w0 W L)
    (h0 : (sysT (.slice A0 n0 c0) c (.slice A1 n1 c1) f, lo, hi) ∈ L) (h1 : (sysT (.slice B0 m0 d0) c (.slice B1 m1 d1) f, lp, hp) ∈ L) (he : Ev (fun k => laws_eqSystem.f k c f m c f m) b) :
    Calls Try.prog 43 #[.agg #[.slice A0 n0 c0, .slice A1 n1 c1, .bool m], .agg #[.slice B0 m0 d0, .slice B1 m1 d1, .bool m]] W fun e w' => e = .returned (.bool b) ∧ St w0 w' L := by
  obtain ⟨⟨rfl, a0, C0⟩, rfl, a1, C1⟩ := sys_reads (h.get h0).1
  obtain ⟨⟨rfl, b0, D0⟩, rfl, b1, D1⟩ := sys_reads (h.get h1).1
  obtain ⟨k, hk⟩ := he
  refine (laws_eqSystem.calls k A0 c0 c A1 c1 f m B0 d0 c B1 d1 f m b W C0 a0 C1 a1 D0 b0 D1 b1 (hk k (Nat.le_refl _))).mono ?_
  rintro e w' ⟨rfl, hb⟩
  exact ⟨rfl, h.step (by first | exact hb | exact hb.below)⟩
theorem st_heldSystem {w0 W : World} {L : List (Thing × Nat × Nat)} {A0 A1 : Option Addr} {n0 n1 c0 c1 lo hi : Nat} {c : List Int} {f : List Bool} {m : Bool} {a r : Int} (h : St w0 W L)
    (h0 : (sysT (.slice A0 n0 c0) c (.slice A1 n1 c1) f, lo, hi) ∈ L) (he : Ev (fun k => laws_heldSystem.f k c f m a) r) :
    Calls Try.prog 46 #[.agg #[.slice A0 n0 c0, .slice A1 n1 c1, .bool m], .int .i64 a] W fun e w' => e = .returned (.int .i64 r) ∧ St w0 w' L := by
  obtain ⟨⟨rfl, a0, C0⟩, rfl, a1, C1⟩ := sys_reads (h.get h0).1
  obtain ⟨k, hk⟩ := he
  refine (laws_heldSystem.calls k A0 c0 c A1 c1 f m a r W C0 a0 C1 a1 (hk k (Nat.le_refl _))).mono ?_
  rintro e w' ⟨rfl, hb⟩
  exact ⟨rfl, h.step (by first | exact hb | exact hb.below)⟩
theorem st_markSystem {w0 W : World} {L L' : List (Thing × Nat × Nat)} {v0 v1 : Value} {c c' : List Int} {f f' : List Bool} {m : Bool} {a r : Int} {lo hi : Nat} (h : St w0 W L)
    (u : Upd (sysT v0 c v1 f) (sysT v0 c' v1 f') lo hi L L') (he : Ev (fun k => laws_markSystem.f k c f m a) (r, c', f')) :
    Calls Try.prog 45 #[.agg #[v0, v1, .bool m], .int .i64 a] W fun e w' => e = .returned (.int .i64 r) ∧ St w0 w' L' := by
  obtain ⟨hp, hlo, _, _⟩ := h.get u.mem
  obtain ⟨k, hk⟩ := he
  refine (laws_markSystem.calls k (fun k_ => some k_ = v0.ownBlock) v0 c (fun k_ => some k_ = v1.ownBlock) v1 f m a r c' f' w0 W h.below (Kd.R_lower (Kd.R_tight rfl hp.1) hlo) (Kd.R_lower (Kd.R_tight rfl hp.2) hlo) (hk k (Nat.le_refl _))).mono ?_
  rintro e w' ⟨rfl, hr0, hr1, hb, hk'⟩
  refine ⟨rfl, h.upd u hb (hk'.mono (fun k e => ?_)) ⟨?_, ?_⟩⟩
  · rcases e with e | e
    · exact (hp.1.1 k e.symm).1
    · exact (hp.2.1 k e.symm).1
  · exact Kd.R_reok rfl (Kd.R_raise (b := w0.heap.size) (b' := lo) (fun _ _ _ _ h => h) hr0 (fun k hk => (hp.1.1 k hk).1.1)) (fun k hk => hp.1.1 k hk)
  · exact Kd.R_reok rfl (Kd.R_raise (b := w0.heap.size) (b' := lo) (fun _ _ _ _ h => h) hr1 (fun k hk => (hp.2.1 k hk).1.1)) (fun k hk => hp.2.1 k hk)
theorem st_specX {w0 W : World} {L : List (Thing × Nat × Nat)} {l0 l1 l2 l3 l4 : List S58} {l5 : List S118} {g : List Int} {f : List Bool} {m d : Bool} {n q : Int} {A0 A1 A2 A3 A4 A5 : Option Addr} {n0 c0 lo0 hi0 n1 c1 lo1 hi1 n2 c2 lo2 hi2 n3 c3 lo3 hi3 n4 c4 lo4 hi4 n5 c5 lo5 hi5 : Nat} (h : St w0 W L) (h0 : (flat k58 58 (.slice A0 n0 c0) l0, lo0, hi0) ∈ L) (h1 : (flat k58 58 (.slice A1 n1 c1) l1, lo1, hi1) ∈ L) (h2 : (flat k58 58 (.slice A2 n2 c2) l2, lo2, hi2) ∈ L) (h3 : (flat k58 58 (.slice A3 n3 c3) l3, lo3, hi3) ∈ L) (h4 : (flat k58 58 (.slice A4 n4 c4) l4, lo4, hi4) ∈ L) (h5 : (flat k118 118 (.slice A5 n5 c5) l5, lo5, hi5) ∈ L) (he : spec_RunSystem.f l0 l1 l2 l3 l4 n l5 = some (g, f, m, q, d)) :
    Calls Try.prog 41 #[.agg #[.slice A0 n0 c0, .slice A1 n1 c1, .slice A2 n2 c2, .slice A3 n3 c3, .slice A4 n4 c4], .int .i64 n, .slice A5 n5 c5] W fun e w' => ∃ V0 d0 V1 d1 lo hi, e = .returned (.tuple #[.agg #[.slice V0 g.length d0, .slice V1 f.length d1, .bool m], .int .i64 q, .bool d]) ∧ St w0 w' ((sysT (.slice V0 g.length d0) g (.slice V1 f.length d1) f, lo, hi) :: L) := by
  obtain ⟨rfl, a0, C0⟩ := Kd.R_reads' (h.get h0).1
  obtain ⟨rfl, a1, C1⟩ := Kd.R_reads' (h.get h1).1
  obtain ⟨rfl, a2, C2⟩ := Kd.R_reads' (h.get h2).1
  obtain ⟨rfl, a3, C3⟩ := Kd.R_reads' (h.get h3).1
  obtain ⟨rfl, a4, C4⟩ := Kd.R_reads' (h.get h4).1
  obtain ⟨rfl, a5, C5⟩ := Kd.R_reads' (h.get h5).1
  refine (spec_RunSystem.calls A0 c0 l0 A1 c1 l1 A2 c2 l2 A3 c3 l3 A4 c4 l4 n A5 c5 l5 g f m q d W C0 a0 C1 a1 C2 a2 C3 a3 C4 a4 C5 a5 he).mono ?_
  rintro e w' ⟨v0, v1, rfl, hr0, hr1, hb⟩
  obtain ⟨V0, d0, rfl⟩ := Kd.R_slice hr0
  obtain ⟨V1, d1, rfl⟩ := Kd.R_slice hr1
  exact ⟨V0, d0, V1, d1, _, _, rfl, h.add (by first | exact hb | exact hb.below) (sys_new hr0 hr1)⟩
theorem st_implX {w0 W : World} {L : List (Thing × Nat × Nat)} {l0 l1 l2 l3 l4 : List S58} {l5 : List S118} {g : List Int} {f : List Bool} {m d : Bool} {n q : Int} {A0 A1 A2 A3 A4 A5 : Option Addr} {n0 c0 lo0 hi0 n1 c1 lo1 hi1 n2 c2 lo2 hi2 n3 c3 lo3 hi3 n4 c4 lo4 hi4 n5 c5 lo5 hi5 : Nat} (h : St w0 W L) (h0 : (flat k58 58 (.slice A0 n0 c0) l0, lo0, hi0) ∈ L) (h1 : (flat k58 58 (.slice A1 n1 c1) l1, lo1, hi1) ∈ L) (h2 : (flat k58 58 (.slice A2 n2 c2) l2, lo2, hi2) ∈ L) (h3 : (flat k58 58 (.slice A3 n3 c3) l3, lo3, hi3) ∈ L) (h4 : (flat k58 58 (.slice A4 n4 c4) l4, lo4, hi4) ∈ L) (h5 : (flat k118 118 (.slice A5 n5 c5) l5, lo5, hi5) ∈ L) (he : impl_RunSystem.f l0 l1 l2 l3 l4 n l5 = some (g, f, m, q, d)) :
    Calls Try.prog 42 #[.agg #[.slice A0 n0 c0, .slice A1 n1 c1, .slice A2 n2 c2, .slice A3 n3 c3, .slice A4 n4 c4], .int .i64 n, .slice A5 n5 c5] W fun e w' => ∃ V0 d0 V1 d1 lo hi, e = .returned (.tuple #[.agg #[.slice V0 g.length d0, .slice V1 f.length d1, .bool m], .int .i64 q, .bool d]) ∧ St w0 w' ((sysT (.slice V0 g.length d0) g (.slice V1 f.length d1) f, lo, hi) :: L) := by
  obtain ⟨rfl, a0, C0⟩ := Kd.R_reads' (h.get h0).1
  obtain ⟨rfl, a1, C1⟩ := Kd.R_reads' (h.get h1).1
  obtain ⟨rfl, a2, C2⟩ := Kd.R_reads' (h.get h2).1
  obtain ⟨rfl, a3, C3⟩ := Kd.R_reads' (h.get h3).1
  obtain ⟨rfl, a4, C4⟩ := Kd.R_reads' (h.get h4).1
  obtain ⟨rfl, a5, C5⟩ := Kd.R_reads' (h.get h5).1
  refine (impl_RunSystem.calls A0 c0 l0 A1 c1 l1 A2 c2 l2 A3 c3 l3 A4 c4 l4 n A5 c5 l5 g f m q d W C0 a0 C1 a1 C2 a2 C3 a3 C4 a4 C5 a5 he).mono ?_
  rintro e w' ⟨v0, v1, rfl, hr0, hr1, hb⟩
  obtain ⟨V0, d0, rfl⟩ := Kd.R_slice hr0
  obtain ⟨V1, d1, rfl⟩ := Kd.R_slice hr1
  exact ⟨V0, d0, V1, d1, _, _, rfl, h.add (by first | exact hb | exact hb.below) (sys_new hr0 hr1)⟩
set_option maxHeartbeats 1600000 in
theorem big1 (A0 : Option Addr) (c0 : Nat) (t0 : List S50) (A1 : Option Addr) (c1 : Nat) (t1 : List S50) (A2 : Option Addr) (c2 : Nat) (t2 : List S50) (A3 : Option Addr) (c3 : Nat) (t3 : List S50) (A4 : Option Addr) (c4 : Nat) (t4 : List S50) (n : Int) (A5 : Option Addr) (c5 : Nat) (ops : List S120) (w : World) (hr0 : Kd.C k50 w A0 t0.length t0) (hc0 : t0.length ≤ c0) (hr1 : Kd.C k50 w A1 t1.length t1) (hc1 : t1.length ≤ c1) (hr2 : Kd.C k50 w A2 t2.length t2) (hc2 : t2.length ≤ c2) (hr3 : Kd.C k50 w A3 t3.length t3) (hc3 : t3.length ≤ c3) (hr4 : Kd.C k50 w A4 t4.length t4) (hc4 : t4.length ≤ c4) (hr5 : Kd.C k120 w A5 ops.length ops) (hc5 : ops.length ≤ c5) (z : Int) (hs : laws_szProtocol.f t0 t1 t2 t3 t4 1048576 = some z) (hz : decide (z < 0) = true) :
    Calls Try.prog 8 #[.agg #[.slice A0 t0.length c0, .slice A1 t1.length c1, .slice A2 t2.length c2, .slice A3 t3.length c3, .slice A4 t4.length c4], .int .i64 n, .slice A5 ops.length c5] w fun e w' => e = .returned (.bool true) ∧ Below w.heap.size w w' := by
  have SZ := Aside0.mk hs
  have HR0 := Aside0.mk hr0
  have HC0 := Aside0.mk hc0
  have HR1 := Aside0.mk hr1
  have HC1 := Aside0.mk hc1
  have HR2 := Aside0.mk hr2
  have HC2 := Aside0.mk hc2
  have HR3 := Aside0.mk hr3
  have HC3 := Aside0.mk hc3
  have HR4 := Aside0.mk hr4
  have HC4 := Aside0.mk hc4
  have HR5 := Aside0.mk hr5
  have HC5 := Aside0.mk hc5
  have HS := St.start w
  clear hr0 hc0 hr1 hc1 hr2 hc2 hr3 hc3 hr4 hc4 hr5 hc5
  clear hs
  go_enter Try.func8, Try.ntmps8
  go_wp2_with fail
  refine (st_szProtocol (w0 := w) (St.box HS _ _) HR0.out HC0.out HR1.out HC1.out HR2.out HC2.out HR3.out HC3.out HR4.out HC4.out SZ.out).mono ?_
  rintro e w1 ⟨rfl, HS⟩
  go_wp2_with fail
  go_ret
  exact ⟨rfl, HS.below⟩
set_option maxHeartbeats 1600000 in
theorem big2 (A0 : Option Addr) (c0 : Nat) (t0 : List S50) (A1 : Option Addr) (c1 : Nat) (t1 : List S50) (A2 : Option Addr) (c2 : Nat) (t2 : List S50) (A3 : Option Addr) (c3 : Nat) (t3 : List S50) (A4 : Option Addr) (c4 : Nat) (t4 : List S50) (n : Int) (A5 : Option Addr) (c5 : Nat) (ops : List S120) (w : World) (hr0 : Kd.C k50 w A0 t0.length t0) (hc0 : t0.length ≤ c0) (hr1 : Kd.C k50 w A1 t1.length t1) (hc1 : t1.length ≤ c1) (hr2 : Kd.C k50 w A2 t2.length t2) (hc2 : t2.length ≤ c2) (hr3 : Kd.C k50 w A3 t3.length t3) (hc3 : t3.length ≤ c3) (hr4 : Kd.C k50 w A4 t4.length t4) (hc4 : t4.length ≤ c4) (hr5 : Kd.C k120 w A5 ops.length ops) (hc5 : ops.length ≤ c5) (z : Int) (hs : laws_szProtocol.f t0 t1 t2 t3 t4 1048576 = some z) (hz : decide (z < 0) = false) (z2 : Int) (hs2 : laws_szOpS.f ops z = some z2) (hz2 : decide (z2 < 0) = true) :
    Calls Try.prog 8 #[.agg #[.slice A0 t0.length c0, .slice A1 t1.length c1, .slice A2 t2.length c2, .slice A3 t3.length c3, .slice A4 t4.length c4], .int .i64 n, .slice A5 ops.length c5] w fun e w' => e = .returned (.bool true) ∧ Below w.heap.size w w' := by
  have SZ := Aside0.mk hs
  have SZ2 := Aside0.mk hs2
  have HR0 := Aside0.mk hr0
  have HC0 := Aside0.mk hc0
  have HR1 := Aside0.mk hr1
  have HC1 := Aside0.mk hc1
  have HR2 := Aside0.mk hr2
  have HC2 := Aside0.mk hc2
  have HR3 := Aside0.mk hr3
  have HC3 := Aside0.mk hc3
  have HR4 := Aside0.mk hr4
  have HC4 := Aside0.mk hc4
  have HR5 := Aside0.mk hr5
  have HC5 := Aside0.mk hc5
  have HS := St.start w
  clear hr0 hc0 hr1 hc1 hr2 hc2 hr3 hc3 hr4 hc4 hr5 hc5
  clear hs hs2
  go_enter Try.func8, Try.ntmps8
  go_wp2_with fail
  refine (st_szProtocol (w0 := w) (St.box HS _ _) HR0.out HC0.out HR1.out HC1.out HR2.out HC2.out HR3.out HC3.out HR4.out HC4.out SZ.out).mono ?_
  rintro e w1 ⟨rfl, HS⟩
  go_wp2_with fail
  refine (laws_szOpS.calls A5 c5 ops z z2 _ (Kd.C_below HR5.out HS.below) HC5.out SZ2.out).mono ?_
  rintro e w2 ⟨rfl, hb⟩
  replace HS := HS.step (by first | exact hb | exact hb.below)
  clear hb
  go_wp2_with fail
  go_ret
  exact ⟨rfl, HS.below⟩
set_option maxHeartbeats 4000000 in
set_option maxRecDepth 100000 in
theorem walk (A0 : Option Addr) (c0 : Nat) (t0 : List S50) (A1 : Option Addr) (c1 : Nat) (t1 : List S50) (A2 : Option Addr) (c2 : Nat) (t2 : List S50) (A3 : Option Addr) (c3 : Nat) (t3 : List S50) (A4 : Option Addr) (c4 : Nat) (t4 : List S50) (n : Int) (A5 : Option Addr) (c5 : Nat) (ops : List S120) (w : World) (hr0 : Kd.C k50 w A0 t0.length t0) (hc0 : t0.length ≤ c0) (hr1 : Kd.C k50 w A1 t1.length t1) (hc1 : t1.length ≤ c1) (hr2 : Kd.C k50 w A2 t2.length t2) (hc2 : t2.length ≤ c2) (hr3 : Kd.C k50 w A3 t3.length t3) (hc3 : t3.length ≤ c3) (hr4 : Kd.C k50 w A4 t4.length t4) (hc4 : t4.length ≤ c4) (hr5 : Kd.C k120 w A5 ops.length ops) (hc5 : ops.length ≤ c5) (z : Int) (hs : laws_szProtocol.f t0 t1 t2 t3 t4 1048576 = some z) (hz : decide (z < 0) = false) (z2 : Int) (hs2 : laws_szOpS.f ops z = some z2) (hz2 : decide (z2 < 0) = false)
    (T0 T1 T2 T3 T4 s0 s1 s2 s3 s4 : List S58) (O s5 : List S118) (C C' : List Int) (F F' : List Bool) (M d : Bool) (Q m1 m2 m3 m4 m5 m6 q : Int) (hm6 : decide (m6 < 0) = false) (hq : decide (q < 0) = false)
    (h0 : Ev (fun k => laws_toRuleS.f k t0) T0) (h1 : Ev (fun k => laws_toRuleS.f k t1) T1) (h2 : Ev (fun k => laws_toRuleS.f k t2) T2) (h3 : Ev (fun k => laws_toRuleS.f k t3) T3) (h4 : Ev (fun k => laws_toRuleS.f k t4) T4) (h5 : Ev (fun k => laws_toOpS.f k ops) O) (hsp : spec_RunSystem.f T0 T1 T2 T3 T4 n O = some (C, F, M, Q, d)) (him : impl_RunSystem.f T0 T1 T2 T3 T4 n O = some (C, F, M, Q, d)) (eg : Ev (fun k => laws_eqSystem.f k C F M C F M) true) (ep : Ev (fun k => laws_eqProtocol.f k T0 T1 T2 T3 T4 T0 T1 T2 T3 T4) true) (eo : Ev (fun k => laws_eqOpS.f k O O) true)
    (e0 : Ev (fun k => laws_markRuleS.f k T0 1) (m1, s0)) (e1 : Ev (fun k => laws_markRuleS.f k T1 m1) (m2, s1)) (e2 : Ev (fun k => laws_markRuleS.f k T2 m2) (m3, s2)) (e3 : Ev (fun k => laws_markRuleS.f k T3 m3) (m4, s3)) (e4 : Ev (fun k => laws_markRuleS.f k T4 m4) (m5, s4)) (em : Ev (fun k => laws_markOpS.f k O m5) (m6, s5)) (mg : Ev (fun k => laws_markSystem.f k C F M 1) (q, C', F')) (hg : Ev (fun k => laws_heldSystem.f k C' F' M 1) q) :
    Calls Try.prog 8 #[.agg #[.slice A0 t0.length c0, .slice A1 t1.length c1, .slice A2 t2.length c2, .slice A3 t3.length c3, .slice A4 t4.length c4], .int .i64 n, .slice A5 ops.length c5] w fun e w' => e = .returned (.bool true) ∧ Below w.heap.size w w' := by
  have SZ := Aside0.mk hs
  have SZ2 := Aside0.mk hs2
  have T0_ := Aside0.mk h0
  have T1_ := Aside0.mk h1
  have T2_ := Aside0.mk h2
  have T3_ := Aside0.mk h3
  have T4_ := Aside0.mk h4
  have TO := Aside0.mk h5
  have SP := Aside0.mk hsp
  have IM := Aside0.mk him
  have EG := Aside0.mk eg
  have EP := Aside0.mk ep
  have EO := Aside0.mk eo
  have E0 := Aside0.mk e0
  have E1 := Aside0.mk e1
  have E2 := Aside0.mk e2
  have E3 := Aside0.mk e3
  have E4 := Aside0.mk e4
  have EM := Aside0.mk em
  have MG := Aside0.mk mg
  have HG := Aside0.mk hg
  have HR0 := Aside0.mk hr0
  have HC0 := Aside0.mk hc0
  have HR1 := Aside0.mk hr1
  have HC1 := Aside0.mk hc1
  have HR2 := Aside0.mk hr2
  have HC2 := Aside0.mk hc2
  have HR3 := Aside0.mk hr3
  have HC3 := Aside0.mk hc3
  have HR4 := Aside0.mk hr4
  have HC4 := Aside0.mk hc4
  have HR5 := Aside0.mk hr5
  have HC5 := Aside0.mk hc5
  have HS := St.start w
  clear hr0 hc0 hr1 hc1 hr2 hc2 hr3 hc3 hr4 hc4 hr5 hc5
  clear hs hs2 h0 h1 h2 h3 h4 h5 hsp him eg ep eo e0 e1 e2 e3 e4 em mg hg
  go_enter Try.func8, Try.ntmps8
  go_wp2_with fail
  refine (st_szProtocol (w0 := w) (St.box HS _ _) HR0.out HC0.out HR1.out HC1.out HR2.out HC2.out HR3.out HC3.out HR4.out HC4.out SZ.out).mono ?_
  rintro e w1 ⟨rfl, HS⟩
  go_wp2_with fail
  refine (laws_szOpS.calls A5 c5 ops z z2 _ (Kd.C_below HR5.out HS.below) HC5.out SZ2.out).mono ?_
  rintro e w2 ⟨rfl, hb⟩
  replace HS := HS.step (by first | exact hb | exact hb.below)
  clear hb
  have a0 : w2.cell? ⟨w.heap.size, 0, none⟩ = some (.slice A0 t0.length c0) := HS.cell (cs := #[.slice A0 t0.length c0, .slice A1 t1.length c1, .slice A2 t2.length c2, .slice A3 t3.length c3, .slice A4 t4.length c4]) (t := 48) (by repeat (first | with_reducible exact List.mem_cons_self | refine List.mem_cons_of_mem _ ?_)) 0 _ rfl
  have a1 : w2.cell? ⟨w.heap.size, 1, none⟩ = some (.slice A1 t1.length c1) := HS.cell (cs := #[.slice A0 t0.length c0, .slice A1 t1.length c1, .slice A2 t2.length c2, .slice A3 t3.length c3, .slice A4 t4.length c4]) (t := 48) (by repeat (first | with_reducible exact List.mem_cons_self | refine List.mem_cons_of_mem _ ?_)) 1 _ rfl
  have a2 : w2.cell? ⟨w.heap.size, 2, none⟩ = some (.slice A2 t2.length c2) := HS.cell (cs := #[.slice A0 t0.length c0, .slice A1 t1.length c1, .slice A2 t2.length c2, .slice A3 t3.length c3, .slice A4 t4.length c4]) (t := 48) (by repeat (first | with_reducible exact List.mem_cons_self | refine List.mem_cons_of_mem _ ?_)) 2 _ rfl
  have a3 : w2.cell? ⟨w.heap.size, 3, none⟩ = some (.slice A3 t3.length c3) := HS.cell (cs := #[.slice A0 t0.length c0, .slice A1 t1.length c1, .slice A2 t2.length c2, .slice A3 t3.length c3, .slice A4 t4.length c4]) (t := 48) (by repeat (first | with_reducible exact List.mem_cons_self | refine List.mem_cons_of_mem _ ?_)) 3 _ rfl
  have a4 : w2.cell? ⟨w.heap.size, 4, none⟩ = some (.slice A4 t4.length c4) := HS.cell (cs := #[.slice A0 t0.length c0, .slice A1 t1.length c1, .slice A2 t2.length c2, .slice A3 t3.length c3, .slice A4 t4.length c4]) (t := 48) (by repeat (first | with_reducible exact List.mem_cons_self | refine List.mem_cons_of_mem _ ?_)) 4 _ rfl
  go_wp2_with fail
  refine (st_toProtocol (w0 := w) (by with_reducible exact HS) HR0.out HC0.out HR1.out HC1.out HR2.out HC2.out HR3.out HC3.out HR4.out HC4.out T0_.out T1_.out T2_.out T3_.out T4_.out).mono ?_
  rintro e w3 ⟨U0, u0, U1, u1, U2, u2, U3, u3, U4, u4, rfl, lu0, hu0, lu1, hu1, lu2, hu2, lu3, hu3, lu4, hu4, HS⟩
  clear a0 a1 a2 a3 a4
  go_wp2_with fail
  refine (st_toOpS_ (w0 := w) (by with_reducible exact HS) HR5.out HC5.out TO.out).mono ?_
  rintro e w4 ⟨U5, u5, lu5, hu5, rfl, HS⟩
  go_wp2_with fail
  refine (st_specX (w0 := w) (by with_reducible exact HS) (by repeat (first | with_reducible exact List.mem_cons_self | refine List.mem_cons_of_mem _ ?_)) (by repeat (first | with_reducible exact List.mem_cons_self | refine List.mem_cons_of_mem _ ?_)) (by repeat (first | with_reducible exact List.mem_cons_self | refine List.mem_cons_of_mem _ ?_)) (by repeat (first | with_reducible exact List.mem_cons_self | refine List.mem_cons_of_mem _ ?_)) (by repeat (first | with_reducible exact List.mem_cons_self | refine List.mem_cons_of_mem _ ?_)) (by repeat (first | with_reducible exact List.mem_cons_self | refine List.mem_cons_of_mem _ ?_)) SP.out).mono ?_
  rintro e w5 ⟨V0, d0, V1, d1, lsv, hsv, rfl, HS⟩
  have a0 : (w5.alloc (.cells #[.slice V0 C.length d0, .slice V1 F.length d1, .bool M] 73)).cell? ⟨w.heap.size, 0, none⟩ = some (.slice A0 t0.length c0) := (St.box HS #[.slice V0 C.length d0, .slice V1 F.length d1, .bool M] 73).cell (cs := #[.slice A0 t0.length c0, .slice A1 t1.length c1, .slice A2 t2.length c2, .slice A3 t3.length c3, .slice A4 t4.length c4]) (t := 48) (by repeat (first | with_reducible exact List.mem_cons_self | refine List.mem_cons_of_mem _ ?_)) 0 _ rfl
  have a1 : (w5.alloc (.cells #[.slice V0 C.length d0, .slice V1 F.length d1, .bool M] 73)).cell? ⟨w.heap.size, 1, none⟩ = some (.slice A1 t1.length c1) := (St.box HS #[.slice V0 C.length d0, .slice V1 F.length d1, .bool M] 73).cell (cs := #[.slice A0 t0.length c0, .slice A1 t1.length c1, .slice A2 t2.length c2, .slice A3 t3.length c3, .slice A4 t4.length c4]) (t := 48) (by repeat (first | with_reducible exact List.mem_cons_self | refine List.mem_cons_of_mem _ ?_)) 1 _ rfl
  have a2 : (w5.alloc (.cells #[.slice V0 C.length d0, .slice V1 F.length d1, .bool M] 73)).cell? ⟨w.heap.size, 2, none⟩ = some (.slice A2 t2.length c2) := (St.box HS #[.slice V0 C.length d0, .slice V1 F.length d1, .bool M] 73).cell (cs := #[.slice A0 t0.length c0, .slice A1 t1.length c1, .slice A2 t2.length c2, .slice A3 t3.length c3, .slice A4 t4.length c4]) (t := 48) (by repeat (first | with_reducible exact List.mem_cons_self | refine List.mem_cons_of_mem _ ?_)) 2 _ rfl
  have a3 : (w5.alloc (.cells #[.slice V0 C.length d0, .slice V1 F.length d1, .bool M] 73)).cell? ⟨w.heap.size, 3, none⟩ = some (.slice A3 t3.length c3) := (St.box HS #[.slice V0 C.length d0, .slice V1 F.length d1, .bool M] 73).cell (cs := #[.slice A0 t0.length c0, .slice A1 t1.length c1, .slice A2 t2.length c2, .slice A3 t3.length c3, .slice A4 t4.length c4]) (t := 48) (by repeat (first | with_reducible exact List.mem_cons_self | refine List.mem_cons_of_mem _ ?_)) 3 _ rfl
  have a4 : (w5.alloc (.cells #[.slice V0 C.length d0, .slice V1 F.length d1, .bool M] 73)).cell? ⟨w.heap.size, 4, none⟩ = some (.slice A4 t4.length c4) := (St.box HS #[.slice V0 C.length d0, .slice V1 F.length d1, .bool M] 73).cell (cs := #[.slice A0 t0.length c0, .slice A1 t1.length c1, .slice A2 t2.length c2, .slice A3 t3.length c3, .slice A4 t4.length c4]) (t := 48) (by repeat (first | with_reducible exact List.mem_cons_self | refine List.mem_cons_of_mem _ ?_)) 4 _ rfl
  go_wp2_with fail
  refine (st_toProtocol (w0 := w) (St.box HS _ _) HR0.out HC0.out HR1.out HC1.out HR2.out HC2.out HR3.out HC3.out HR4.out HC4.out T0_.out T1_.out T2_.out T3_.out T4_.out).mono ?_
  rintro e w6 ⟨X0, x0, X1, x1, X2, x2, X3, x3, X4, x4, rfl, lx0, hx0, lx1, hx1, lx2, hx2, lx3, hx3, lx4, hx4, HS⟩
  clear a0 a1 a2 a3 a4
  go_wp2_with fail
  refine (st_toOpS_ (w0 := w) (St.box HS _ _) HR5.out HC5.out TO.out).mono ?_
  rintro e w7 ⟨X5, x5, lx5, hx5, rfl, HS⟩
  have f0 : w7.cell? ⟨w6.heap.size, 0, none⟩ = some (.slice X0 T0.length x0) := HS.cell (cs := #[.slice X0 T0.length x0, .slice X1 T1.length x1, .slice X2 T2.length x2, .slice X3 T3.length x3, .slice X4 T4.length x4]) (t := 54) (by repeat (first | with_reducible exact List.mem_cons_self | refine List.mem_cons_of_mem _ ?_)) 0 _ rfl
  have f1 : w7.cell? ⟨w6.heap.size, 1, none⟩ = some (.slice X1 T1.length x1) := HS.cell (cs := #[.slice X0 T0.length x0, .slice X1 T1.length x1, .slice X2 T2.length x2, .slice X3 T3.length x3, .slice X4 T4.length x4]) (t := 54) (by repeat (first | with_reducible exact List.mem_cons_self | refine List.mem_cons_of_mem _ ?_)) 1 _ rfl
  have f2 : w7.cell? ⟨w6.heap.size, 2, none⟩ = some (.slice X2 T2.length x2) := HS.cell (cs := #[.slice X0 T0.length x0, .slice X1 T1.length x1, .slice X2 T2.length x2, .slice X3 T3.length x3, .slice X4 T4.length x4]) (t := 54) (by repeat (first | with_reducible exact List.mem_cons_self | refine List.mem_cons_of_mem _ ?_)) 2 _ rfl
  have f3 : w7.cell? ⟨w6.heap.size, 3, none⟩ = some (.slice X3 T3.length x3) := HS.cell (cs := #[.slice X0 T0.length x0, .slice X1 T1.length x1, .slice X2 T2.length x2, .slice X3 T3.length x3, .slice X4 T4.length x4]) (t := 54) (by repeat (first | with_reducible exact List.mem_cons_self | refine List.mem_cons_of_mem _ ?_)) 3 _ rfl
  have f4 : w7.cell? ⟨w6.heap.size, 4, none⟩ = some (.slice X4 T4.length x4) := HS.cell (cs := #[.slice X0 T0.length x0, .slice X1 T1.length x1, .slice X2 T2.length x2, .slice X3 T3.length x3, .slice X4 T4.length x4]) (t := 54) (by repeat (first | with_reducible exact List.mem_cons_self | refine List.mem_cons_of_mem _ ?_)) 4 _ rfl
  go_wp2_with fail
  refine (st_implX (w0 := w) (by with_reducible exact HS) (by repeat (first | with_reducible exact List.mem_cons_self | refine List.mem_cons_of_mem _ ?_)) (by repeat (first | with_reducible exact List.mem_cons_self | refine List.mem_cons_of_mem _ ?_)) (by repeat (first | with_reducible exact List.mem_cons_self | refine List.mem_cons_of_mem _ ?_)) (by repeat (first | with_reducible exact List.mem_cons_self | refine List.mem_cons_of_mem _ ?_)) (by repeat (first | with_reducible exact List.mem_cons_self | refine List.mem_cons_of_mem _ ?_)) (by repeat (first | with_reducible exact List.mem_cons_self | refine List.mem_cons_of_mem _ ?_)) IM.out).mono ?_
  rintro e w8 ⟨G0, g0, G1, g1, lsg, hsg, rfl, HS⟩
  clear f0 f1 f2 f3 f4
  have b0 : (w8.alloc (.cells #[.slice G0 C.length g0, .slice G1 F.length g1, .bool M] 73)).cell? ⟨w5.heap.size, 0, none⟩ = some (.slice V0 C.length d0) := (St.box HS #[.slice G0 C.length g0, .slice G1 F.length g1, .bool M] 73).cell (cs := #[.slice V0 C.length d0, .slice V1 F.length d1, .bool M]) (t := 73) (by repeat (first | with_reducible exact List.mem_cons_self | refine List.mem_cons_of_mem _ ?_)) 0 _ rfl
  have b1 : (w8.alloc (.cells #[.slice G0 C.length g0, .slice G1 F.length g1, .bool M] 73)).cell? ⟨w5.heap.size, 1, none⟩ = some (.slice V1 F.length d1) := (St.box HS #[.slice G0 C.length g0, .slice G1 F.length g1, .bool M] 73).cell (cs := #[.slice V0 C.length d0, .slice V1 F.length d1, .bool M]) (t := 73) (by repeat (first | with_reducible exact List.mem_cons_self | refine List.mem_cons_of_mem _ ?_)) 1 _ rfl
  have b2 : (w8.alloc (.cells #[.slice G0 C.length g0, .slice G1 F.length g1, .bool M] 73)).cell? ⟨w5.heap.size, 2, none⟩ = some (.bool M) := (St.box HS #[.slice G0 C.length g0, .slice G1 F.length g1, .bool M] 73).cell (cs := #[.slice V0 C.length d0, .slice V1 F.length d1, .bool M]) (t := 73) (by repeat (first | with_reducible exact List.mem_cons_self | refine List.mem_cons_of_mem _ ?_)) 2 _ rfl
  go_wp2_with fail
  refine (st_eqSystem (w0 := w) (St.box HS _ _) (by repeat (first | with_reducible exact List.mem_cons_self | refine List.mem_cons_of_mem _ ?_)) (by repeat (first | with_reducible exact List.mem_cons_self | refine List.mem_cons_of_mem _ ?_)) EG.out).mono ?_
  rintro e w9 ⟨rfl, HS⟩
  clear b0 b1 b2
  go_wp2_with fail
  have HD := St.drew HS
  refine start_ (n := 5) (S := fun w' => w'.cell? ⟨w6.heap.size, 0, none⟩ = some (.slice X0 T0.length x0) ∧ w'.cell? ⟨w6.heap.size, 1, none⟩ = some (.slice X1 T1.length x1) ∧ w'.cell? ⟨w6.heap.size, 2, none⟩ = some (.slice X2 T2.length x2) ∧ w'.cell? ⟨w6.heap.size, 3, none⟩ = some (.slice X3 T3.length x3) ∧ w'.cell? ⟨w6.heap.size, 4, none⟩ = some (.slice X4 T4.length x4) ∧ w'.cell? ⟨w.heap.size, 0, none⟩ = some (.slice A0 t0.length c0) ∧ w'.cell? ⟨w.heap.size, 1, none⟩ = some (.slice A1 t1.length c1) ∧ w'.cell? ⟨w.heap.size, 2, none⟩ = some (.slice A2 t2.length c2) ∧ w'.cell? ⟨w.heap.size, 3, none⟩ = some (.slice A3 t3.length c3) ∧ w'.cell? ⟨w.heap.size, 4, none⟩ = some (.slice A4 t4.length c4)) (ds := []) #[false, false, false, false, false] (by kernel_rfl) rfl rfl ⟨HD.cell (cs := #[.slice X0 T0.length x0, .slice X1 T1.length x1, .slice X2 T2.length x2, .slice X3 T3.length x3, .slice X4 T4.length x4]) (t := 54) (by repeat (first | with_reducible exact List.mem_cons_self | refine List.mem_cons_of_mem _ ?_)) 0 _ rfl, HD.cell (cs := #[.slice X0 T0.length x0, .slice X1 T1.length x1, .slice X2 T2.length x2, .slice X3 T3.length x3, .slice X4 T4.length x4]) (t := 54) (by repeat (first | with_reducible exact List.mem_cons_self | refine List.mem_cons_of_mem _ ?_)) 1 _ rfl, HD.cell (cs := #[.slice X0 T0.length x0, .slice X1 T1.length x1, .slice X2 T2.length x2, .slice X3 T3.length x3, .slice X4 T4.length x4]) (t := 54) (by repeat (first | with_reducible exact List.mem_cons_self | refine List.mem_cons_of_mem _ ?_)) 2 _ rfl, HD.cell (cs := #[.slice X0 T0.length x0, .slice X1 T1.length x1, .slice X2 T2.length x2, .slice X3 T3.length x3, .slice X4 T4.length x4]) (t := 54) (by repeat (first | with_reducible exact List.mem_cons_self | refine List.mem_cons_of_mem _ ?_)) 3 _ rfl, HD.cell (cs := #[.slice X0 T0.length x0, .slice X1 T1.length x1, .slice X2 T2.length x2, .slice X3 T3.length x3, .slice X4 T4.length x4]) (t := 54) (by repeat (first | with_reducible exact List.mem_cons_self | refine List.mem_cons_of_mem _ ?_)) 4 _ rfl, HD.cell (cs := #[.slice A0 t0.length c0, .slice A1 t1.length c1, .slice A2 t2.length c2, .slice A3 t3.length c3, .slice A4 t4.length c4]) (t := 48) (by repeat (first | with_reducible exact List.mem_cons_self | refine List.mem_cons_of_mem _ ?_)) 0 _ rfl, HD.cell (cs := #[.slice A0 t0.length c0, .slice A1 t1.length c1, .slice A2 t2.length c2, .slice A3 t3.length c3, .slice A4 t4.length c4]) (t := 48) (by repeat (first | with_reducible exact List.mem_cons_self | refine List.mem_cons_of_mem _ ?_)) 1 _ rfl, HD.cell (cs := #[.slice A0 t0.length c0, .slice A1 t1.length c1, .slice A2 t2.length c2, .slice A3 t3.length c3, .slice A4 t4.length c4]) (t := 48) (by repeat (first | with_reducible exact List.mem_cons_self | refine List.mem_cons_of_mem _ ?_)) 2 _ rfl, HD.cell (cs := #[.slice A0 t0.length c0, .slice A1 t1.length c1, .slice A2 t2.length c2, .slice A3 t3.length c3, .slice A4 t4.length c4]) (t := 48) (by repeat (first | with_reducible exact List.mem_cons_self | refine List.mem_cons_of_mem _ ?_)) 3 _ rfl, HD.cell (cs := #[.slice A0 t0.length c0, .slice A1 t1.length c1, .slice A2 t2.length c2, .slice A3 t3.length c3, .slice A4 t4.length c4]) (t := 48) (by repeat (first | with_reducible exact List.mem_cons_self | refine List.mem_cons_of_mem _ ?_)) 4 _ rfl⟩ (fun hHeld => ?_)
  generalize w9.drew = wd at HD hHeld ⊢
  refine take_ (i := 0) (N := some 68) (v := ?_) (a' := ?_) #[true, false, false, false, false] rfl rfl (by kernel_rfl) (fun _ _ _ h => h) (Or.inl ⟨by rfl, ?_⟩) hHeld ?_ ?_
  rotate_left
  · rintro w' ⟨s0_, s1_, s2_, s3_, s4_, s5_, s6_, s7_, s8_, s9_⟩
    go_simp
    with_reducible rfl
  rotate_left
  · simp only [Act.put, List.setIfInBounds_toArray, List.set_cons_zero, List.set_cons_succ, i64_w, i32_w]
    rfl
  refine take_ (i := 1) (N := some 69) (v := ?_) (a' := ?_) #[true, true, false, false, false] rfl rfl (by kernel_rfl) (fun _ _ _ h => h) (Or.inl ⟨by rfl, ?_⟩) hHeld ?_ ?_
  rotate_left
  · rintro w' ⟨s0_, s1_, s2_, s3_, s4_, s5_, s6_, s7_, s8_, s9_⟩
    go_simp
    with_reducible rfl
  rotate_left
  · simp only [Act.put, List.setIfInBounds_toArray, List.set_cons_zero, List.set_cons_succ, i64_w, i32_w]
    rfl
  refine one_ (i := 2) (N := some 70) #[true, true, true, false, false] rfl rfl (by kernel_rfl) (by decide) (fun K hK => ?_)
  refine goes_ Try.func30 (by kernel_rfl) rfl #[.agg #[.slice A0 t0.length c0, .slice A1 t1.length c1, .slice A2 t2.length c2, .slice A3 t3.length c3, .slice A4 t4.length c4]] (by rfl) rfl rfl (by (try simp only [List.map_toArray, List.map_cons, List.map_nil]); first | done | rfl | (simp only [List.length_drop, List.length_take]; rfl)) ?_
  refine (st_toProtocol (w0 := w) (by with_reducible exact HD) HR0.out HC0.out HR1.out HC1.out HR2.out HC2.out HR3.out HC3.out HR4.out HC4.out T0_.out T1_.out T2_.out T3_.out T4_.out).mono ?_
  rintro e w10 ⟨Y0, y0, Y1, y1, Y2, y2, Y3, y3, Y4, y4, rfl, ly0, hy0, ly1, hy1, ly2, hy2, ly3, hy3, ly4, hy4, HS⟩
  refine ⟨_, rfl, ?_⟩
  have f0_ : w10.cell? ⟨w6.heap.size, 0, none⟩ = some (.slice X0 T0.length x0) := HS.cell (cs := #[.slice X0 T0.length x0, .slice X1 T1.length x1, .slice X2 T2.length x2, .slice X3 T3.length x3, .slice X4 T4.length x4]) (t := 54) (by repeat (first | with_reducible exact List.mem_cons_self | refine List.mem_cons_of_mem _ ?_)) 0 _ rfl
  have f1_ : w10.cell? ⟨w6.heap.size, 1, none⟩ = some (.slice X1 T1.length x1) := HS.cell (cs := #[.slice X0 T0.length x0, .slice X1 T1.length x1, .slice X2 T2.length x2, .slice X3 T3.length x3, .slice X4 T4.length x4]) (t := 54) (by repeat (first | with_reducible exact List.mem_cons_self | refine List.mem_cons_of_mem _ ?_)) 1 _ rfl
  have f2_ : w10.cell? ⟨w6.heap.size, 2, none⟩ = some (.slice X2 T2.length x2) := HS.cell (cs := #[.slice X0 T0.length x0, .slice X1 T1.length x1, .slice X2 T2.length x2, .slice X3 T3.length x3, .slice X4 T4.length x4]) (t := 54) (by repeat (first | with_reducible exact List.mem_cons_self | refine List.mem_cons_of_mem _ ?_)) 2 _ rfl
  have f3_ : w10.cell? ⟨w6.heap.size, 3, none⟩ = some (.slice X3 T3.length x3) := HS.cell (cs := #[.slice X0 T0.length x0, .slice X1 T1.length x1, .slice X2 T2.length x2, .slice X3 T3.length x3, .slice X4 T4.length x4]) (t := 54) (by repeat (first | with_reducible exact List.mem_cons_self | refine List.mem_cons_of_mem _ ?_)) 3 _ rfl
  have f4_ : w10.cell? ⟨w6.heap.size, 4, none⟩ = some (.slice X4 T4.length x4) := HS.cell (cs := #[.slice X0 T0.length x0, .slice X1 T1.length x1, .slice X2 T2.length x2, .slice X3 T3.length x3, .slice X4 T4.length x4]) (t := 54) (by repeat (first | with_reducible exact List.mem_cons_self | refine List.mem_cons_of_mem _ ?_)) 4 _ rfl
  have a0_ : w10.cell? ⟨w.heap.size, 0, none⟩ = some (.slice A0 t0.length c0) := HS.cell (cs := #[.slice A0 t0.length c0, .slice A1 t1.length c1, .slice A2 t2.length c2, .slice A3 t3.length c3, .slice A4 t4.length c4]) (t := 48) (by repeat (first | with_reducible exact List.mem_cons_self | refine List.mem_cons_of_mem _ ?_)) 0 _ rfl
  have a1_ : w10.cell? ⟨w.heap.size, 1, none⟩ = some (.slice A1 t1.length c1) := HS.cell (cs := #[.slice A0 t0.length c0, .slice A1 t1.length c1, .slice A2 t2.length c2, .slice A3 t3.length c3, .slice A4 t4.length c4]) (t := 48) (by repeat (first | with_reducible exact List.mem_cons_self | refine List.mem_cons_of_mem _ ?_)) 1 _ rfl
  have a2_ : w10.cell? ⟨w.heap.size, 2, none⟩ = some (.slice A2 t2.length c2) := HS.cell (cs := #[.slice A0 t0.length c0, .slice A1 t1.length c1, .slice A2 t2.length c2, .slice A3 t3.length c3, .slice A4 t4.length c4]) (t := 48) (by repeat (first | with_reducible exact List.mem_cons_self | refine List.mem_cons_of_mem _ ?_)) 2 _ rfl
  have a3_ : w10.cell? ⟨w.heap.size, 3, none⟩ = some (.slice A3 t3.length c3) := HS.cell (cs := #[.slice A0 t0.length c0, .slice A1 t1.length c1, .slice A2 t2.length c2, .slice A3 t3.length c3, .slice A4 t4.length c4]) (t := 48) (by repeat (first | with_reducible exact List.mem_cons_self | refine List.mem_cons_of_mem _ ?_)) 3 _ rfl
  have a4_ : w10.cell? ⟨w.heap.size, 4, none⟩ = some (.slice A4 t4.length c4) := HS.cell (cs := #[.slice A0 t0.length c0, .slice A1 t1.length c1, .slice A2 t2.length c2, .slice A3 t3.length c3, .slice A4 t4.length c4]) (t := 48) (by repeat (first | with_reducible exact List.mem_cons_self | refine List.mem_cons_of_mem _ ?_)) 4 _ rfl
  refine hK.out _ _ ⟨f0_, f1_, f2_, f3_, f4_, a0_, a1_, a2_, a3_, a4_⟩ (fun hHeld => ?_)
  clear hK K f0_ f1_ f2_ f3_ f4_ a0_ a1_ a2_ a3_ a4_
  refine norm_ (a' := ?_) ?_ ?_
  rotate_left
  · show Act.put _ (some 70) _ = _
    simp only [Act.put, List.setIfInBounds_toArray, List.set_cons_zero, List.set_cons_succ, i64_w, i32_w]
    rfl
  refine one_ (i := 3) (N := some 71) #[true, true, true, true, false] rfl rfl (by kernel_rfl) (by decide) (fun K hK => ?_)
  refine goes_ Try.func33 (by kernel_rfl) rfl #[.agg #[.slice X0 T0.length x0, .slice X1 T1.length x1, .slice X2 T2.length x2, .slice X3 T3.length x3, .slice X4 T4.length x4], .agg #[.slice Y0 T0.length y0, .slice Y1 T1.length y1, .slice Y2 T2.length y2, .slice Y3 T3.length y3, .slice Y4 T4.length y4]] (by rfl) rfl rfl (by (try simp only [List.map_toArray, List.map_cons, List.map_nil]); first | done | rfl | (simp only [List.length_drop, List.length_take]; rfl)) ?_
  refine (st_eqProtocol (w0 := w) (by with_reducible exact HS) (by repeat (first | with_reducible exact List.mem_cons_self | refine List.mem_cons_of_mem _ ?_)) (by repeat (first | with_reducible exact List.mem_cons_self | refine List.mem_cons_of_mem _ ?_)) (by repeat (first | with_reducible exact List.mem_cons_self | refine List.mem_cons_of_mem _ ?_)) (by repeat (first | with_reducible exact List.mem_cons_self | refine List.mem_cons_of_mem _ ?_)) (by repeat (first | with_reducible exact List.mem_cons_self | refine List.mem_cons_of_mem _ ?_)) (by repeat (first | with_reducible exact List.mem_cons_self | refine List.mem_cons_of_mem _ ?_)) (by repeat (first | with_reducible exact List.mem_cons_self | refine List.mem_cons_of_mem _ ?_)) (by repeat (first | with_reducible exact List.mem_cons_self | refine List.mem_cons_of_mem _ ?_)) (by repeat (first | with_reducible exact List.mem_cons_self | refine List.mem_cons_of_mem _ ?_)) (by repeat (first | with_reducible exact List.mem_cons_self | refine List.mem_cons_of_mem _ ?_)) EP.out).mono ?_
  rintro e w11 ⟨rfl, HS⟩
  refine ⟨_, rfl, ?_⟩
  have f0_ : w11.cell? ⟨w6.heap.size, 0, none⟩ = some (.slice X0 T0.length x0) := HS.cell (cs := #[.slice X0 T0.length x0, .slice X1 T1.length x1, .slice X2 T2.length x2, .slice X3 T3.length x3, .slice X4 T4.length x4]) (t := 54) (by repeat (first | with_reducible exact List.mem_cons_self | refine List.mem_cons_of_mem _ ?_)) 0 _ rfl
  have f1_ : w11.cell? ⟨w6.heap.size, 1, none⟩ = some (.slice X1 T1.length x1) := HS.cell (cs := #[.slice X0 T0.length x0, .slice X1 T1.length x1, .slice X2 T2.length x2, .slice X3 T3.length x3, .slice X4 T4.length x4]) (t := 54) (by repeat (first | with_reducible exact List.mem_cons_self | refine List.mem_cons_of_mem _ ?_)) 1 _ rfl
  have f2_ : w11.cell? ⟨w6.heap.size, 2, none⟩ = some (.slice X2 T2.length x2) := HS.cell (cs := #[.slice X0 T0.length x0, .slice X1 T1.length x1, .slice X2 T2.length x2, .slice X3 T3.length x3, .slice X4 T4.length x4]) (t := 54) (by repeat (first | with_reducible exact List.mem_cons_self | refine List.mem_cons_of_mem _ ?_)) 2 _ rfl
  have f3_ : w11.cell? ⟨w6.heap.size, 3, none⟩ = some (.slice X3 T3.length x3) := HS.cell (cs := #[.slice X0 T0.length x0, .slice X1 T1.length x1, .slice X2 T2.length x2, .slice X3 T3.length x3, .slice X4 T4.length x4]) (t := 54) (by repeat (first | with_reducible exact List.mem_cons_self | refine List.mem_cons_of_mem _ ?_)) 3 _ rfl
  have f4_ : w11.cell? ⟨w6.heap.size, 4, none⟩ = some (.slice X4 T4.length x4) := HS.cell (cs := #[.slice X0 T0.length x0, .slice X1 T1.length x1, .slice X2 T2.length x2, .slice X3 T3.length x3, .slice X4 T4.length x4]) (t := 54) (by repeat (first | with_reducible exact List.mem_cons_self | refine List.mem_cons_of_mem _ ?_)) 4 _ rfl
  have a0_ : w11.cell? ⟨w.heap.size, 0, none⟩ = some (.slice A0 t0.length c0) := HS.cell (cs := #[.slice A0 t0.length c0, .slice A1 t1.length c1, .slice A2 t2.length c2, .slice A3 t3.length c3, .slice A4 t4.length c4]) (t := 48) (by repeat (first | with_reducible exact List.mem_cons_self | refine List.mem_cons_of_mem _ ?_)) 0 _ rfl
  have a1_ : w11.cell? ⟨w.heap.size, 1, none⟩ = some (.slice A1 t1.length c1) := HS.cell (cs := #[.slice A0 t0.length c0, .slice A1 t1.length c1, .slice A2 t2.length c2, .slice A3 t3.length c3, .slice A4 t4.length c4]) (t := 48) (by repeat (first | with_reducible exact List.mem_cons_self | refine List.mem_cons_of_mem _ ?_)) 1 _ rfl
  have a2_ : w11.cell? ⟨w.heap.size, 2, none⟩ = some (.slice A2 t2.length c2) := HS.cell (cs := #[.slice A0 t0.length c0, .slice A1 t1.length c1, .slice A2 t2.length c2, .slice A3 t3.length c3, .slice A4 t4.length c4]) (t := 48) (by repeat (first | with_reducible exact List.mem_cons_self | refine List.mem_cons_of_mem _ ?_)) 2 _ rfl
  have a3_ : w11.cell? ⟨w.heap.size, 3, none⟩ = some (.slice A3 t3.length c3) := HS.cell (cs := #[.slice A0 t0.length c0, .slice A1 t1.length c1, .slice A2 t2.length c2, .slice A3 t3.length c3, .slice A4 t4.length c4]) (t := 48) (by repeat (first | with_reducible exact List.mem_cons_self | refine List.mem_cons_of_mem _ ?_)) 3 _ rfl
  have a4_ : w11.cell? ⟨w.heap.size, 4, none⟩ = some (.slice A4 t4.length c4) := HS.cell (cs := #[.slice A0 t0.length c0, .slice A1 t1.length c1, .slice A2 t2.length c2, .slice A3 t3.length c3, .slice A4 t4.length c4]) (t := 48) (by repeat (first | with_reducible exact List.mem_cons_self | refine List.mem_cons_of_mem _ ?_)) 4 _ rfl
  refine hK.out _ _ ⟨f0_, f1_, f2_, f3_, f4_, a0_, a1_, a2_, a3_, a4_⟩ (fun hHeld => ?_)
  clear hK K f0_ f1_ f2_ f3_ f4_ a0_ a1_ a2_ a3_ a4_
  refine norm_ (a' := ?_) ?_ ?_
  rotate_left
  · show Act.put _ (some 71) _ = _
    simp only [Act.put, List.setIfInBounds_toArray, List.set_cons_zero, List.set_cons_succ, i64_w, i32_w]
    rfl
  refine pure_ (i := 4) (N := some 72) (v := ?_) (a' := ?_) #[true, true, true, true, true] rfl rfl (by kernel_rfl) (fun _ _ _ h => h) (Or.inl ⟨by rfl, ?_⟩) ?_ ?_
  rotate_left
  · intro w'
    go_simp
    with_reducible rfl
  rotate_left
  · simp only [Act.put, List.setIfInBounds_toArray, List.set_cons_zero, List.set_cons_succ, i64_w, i32_w]
    rfl
  refine done_ (by kernel_rfl) ?_
  clear hHeld HD
  go_wp2_with fail
  refine (st_toOpS_ (w0 := w) (by with_reducible exact HS) HR5.out HC5.out TO.out).mono ?_
  rintro e w12 ⟨Y5, y5, ly5, hy5, rfl, HS⟩
  go_wp2_with fail
  refine (st_eqOpS_ (w0 := w) (by with_reducible exact HS) (by repeat (first | with_reducible exact List.mem_cons_self | refine List.mem_cons_of_mem _ ?_)) (by repeat (first | with_reducible exact List.mem_cons_self | refine List.mem_cons_of_mem _ ?_)) EO.out).mono ?_
  rintro e w13 ⟨rfl, HS⟩
  have f0 : w13.cell? ⟨w6.heap.size, 0, none⟩ = some (.slice X0 T0.length x0) := HS.cell (cs := #[.slice X0 T0.length x0, .slice X1 T1.length x1, .slice X2 T2.length x2, .slice X3 T3.length x3, .slice X4 T4.length x4]) (t := 54) (by repeat (first | with_reducible exact List.mem_cons_self | refine List.mem_cons_of_mem _ ?_)) 0 _ rfl
  have f1 : w13.cell? ⟨w6.heap.size, 1, none⟩ = some (.slice X1 T1.length x1) := HS.cell (cs := #[.slice X0 T0.length x0, .slice X1 T1.length x1, .slice X2 T2.length x2, .slice X3 T3.length x3, .slice X4 T4.length x4]) (t := 54) (by repeat (first | with_reducible exact List.mem_cons_self | refine List.mem_cons_of_mem _ ?_)) 1 _ rfl
  have f2 : w13.cell? ⟨w6.heap.size, 2, none⟩ = some (.slice X2 T2.length x2) := HS.cell (cs := #[.slice X0 T0.length x0, .slice X1 T1.length x1, .slice X2 T2.length x2, .slice X3 T3.length x3, .slice X4 T4.length x4]) (t := 54) (by repeat (first | with_reducible exact List.mem_cons_self | refine List.mem_cons_of_mem _ ?_)) 2 _ rfl
  have f3 : w13.cell? ⟨w6.heap.size, 3, none⟩ = some (.slice X3 T3.length x3) := HS.cell (cs := #[.slice X0 T0.length x0, .slice X1 T1.length x1, .slice X2 T2.length x2, .slice X3 T3.length x3, .slice X4 T4.length x4]) (t := 54) (by repeat (first | with_reducible exact List.mem_cons_self | refine List.mem_cons_of_mem _ ?_)) 3 _ rfl
  have f4 : w13.cell? ⟨w6.heap.size, 4, none⟩ = some (.slice X4 T4.length x4) := HS.cell (cs := #[.slice X0 T0.length x0, .slice X1 T1.length x1, .slice X2 T2.length x2, .slice X3 T3.length x3, .slice X4 T4.length x4]) (t := 54) (by repeat (first | with_reducible exact List.mem_cons_self | refine List.mem_cons_of_mem _ ?_)) 4 _ rfl
  go_wp2_with fail
  refine (st_markProtocol (w0 := w) (by with_reducible exact HS) (by repeat (first | with_reducible exact Upd.here | apply Upd.there)) E0.out (by repeat (first | with_reducible exact Upd.here | apply Upd.there)) E1.out (by repeat (first | with_reducible exact Upd.here | apply Upd.there)) E2.out (by repeat (first | with_reducible exact Upd.here | apply Upd.there)) E3.out (by repeat (first | with_reducible exact Upd.here | apply Upd.there)) E4.out).mono ?_
  rintro e w14 ⟨rfl, HS⟩
  clear f0 f1 f2 f3 f4
  go_wp2_with fail
  refine (st_markOpS_ (w0 := w) (by with_reducible exact HS) (by repeat (first | with_reducible exact Upd.here | apply Upd.there)) EM.out).mono ?_
  rintro e w15 ⟨rfl, HS⟩
  have b0 : w15.cell? ⟨w5.heap.size, 0, none⟩ = some (.slice V0 C.length d0) := HS.cell (cs := #[.slice V0 C.length d0, .slice V1 F.length d1, .bool M]) (t := 73) (by repeat (first | with_reducible exact List.mem_cons_self | refine List.mem_cons_of_mem _ ?_)) 0 _ rfl
  have b1 : w15.cell? ⟨w5.heap.size, 1, none⟩ = some (.slice V1 F.length d1) := HS.cell (cs := #[.slice V0 C.length d0, .slice V1 F.length d1, .bool M]) (t := 73) (by repeat (first | with_reducible exact List.mem_cons_self | refine List.mem_cons_of_mem _ ?_)) 1 _ rfl
  have b2 : w15.cell? ⟨w5.heap.size, 2, none⟩ = some (.bool M) := HS.cell (cs := #[.slice V0 C.length d0, .slice V1 F.length d1, .bool M]) (t := 73) (by repeat (first | with_reducible exact List.mem_cons_self | refine List.mem_cons_of_mem _ ?_)) 2 _ rfl
  have j0 : w15.cell? ⟨w8.heap.size, 0, none⟩ = some (.slice G0 C.length g0) := HS.cell (cs := #[.slice G0 C.length g0, .slice G1 F.length g1, .bool M]) (t := 73) (by repeat (first | with_reducible exact List.mem_cons_self | refine List.mem_cons_of_mem _ ?_)) 0 _ rfl
  have j1 : w15.cell? ⟨w8.heap.size, 1, none⟩ = some (.slice G1 F.length g1) := HS.cell (cs := #[.slice G0 C.length g0, .slice G1 F.length g1, .bool M]) (t := 73) (by repeat (first | with_reducible exact List.mem_cons_self | refine List.mem_cons_of_mem _ ?_)) 1 _ rfl
  have j2 : w15.cell? ⟨w8.heap.size, 2, none⟩ = some (.bool M) := HS.cell (cs := #[.slice G0 C.length g0, .slice G1 F.length g1, .bool M]) (t := 73) (by repeat (first | with_reducible exact List.mem_cons_self | refine List.mem_cons_of_mem _ ?_)) 2 _ rfl
  go_wp2_with fail
  refine (st_eqSystem (w0 := w) (by with_reducible exact HS) (by repeat (first | with_reducible exact List.mem_cons_self | refine List.mem_cons_of_mem _ ?_)) (by repeat (first | with_reducible exact List.mem_cons_self | refine List.mem_cons_of_mem _ ?_)) EG.out).mono ?_
  rintro e w16 ⟨rfl, HS⟩
  clear b0 b1 b2
  clear j0 j1 j2
  have j0 : w16.cell? ⟨w8.heap.size, 0, none⟩ = some (.slice G0 C.length g0) := HS.cell (cs := #[.slice G0 C.length g0, .slice G1 F.length g1, .bool M]) (t := 73) (by repeat (first | with_reducible exact List.mem_cons_self | refine List.mem_cons_of_mem _ ?_)) 0 _ rfl
  have j1 : w16.cell? ⟨w8.heap.size, 1, none⟩ = some (.slice G1 F.length g1) := HS.cell (cs := #[.slice G0 C.length g0, .slice G1 F.length g1, .bool M]) (t := 73) (by repeat (first | with_reducible exact List.mem_cons_self | refine List.mem_cons_of_mem _ ?_)) 1 _ rfl
  have j2 : w16.cell? ⟨w8.heap.size, 2, none⟩ = some (.bool M) := HS.cell (cs := #[.slice G0 C.length g0, .slice G1 F.length g1, .bool M]) (t := 73) (by repeat (first | with_reducible exact List.mem_cons_self | refine List.mem_cons_of_mem _ ?_)) 2 _ rfl
  go_wp2_with fail
  refine (st_markSystem (w0 := w) (by with_reducible exact HS) (by repeat (first | with_reducible exact Upd.here | apply Upd.there)) MG.out).mono ?_
  rintro e w17 ⟨rfl, HS⟩
  clear j0 j1 j2
  have j0 : w17.cell? ⟨w8.heap.size, 0, none⟩ = some (.slice G0 C.length g0) := HS.cell (cs := #[.slice G0 C.length g0, .slice G1 F.length g1, .bool M]) (t := 73) (by repeat (first | with_reducible exact List.mem_cons_self | refine List.mem_cons_of_mem _ ?_)) 0 _ rfl
  have j1 : w17.cell? ⟨w8.heap.size, 1, none⟩ = some (.slice G1 F.length g1) := HS.cell (cs := #[.slice G0 C.length g0, .slice G1 F.length g1, .bool M]) (t := 73) (by repeat (first | with_reducible exact List.mem_cons_self | refine List.mem_cons_of_mem _ ?_)) 1 _ rfl
  have j2 : w17.cell? ⟨w8.heap.size, 2, none⟩ = some (.bool M) := HS.cell (cs := #[.slice G0 C.length g0, .slice G1 F.length g1, .bool M]) (t := 73) (by repeat (first | with_reducible exact List.mem_cons_self | refine List.mem_cons_of_mem _ ?_)) 2 _ rfl
  go_wp2_with fail
  refine (st_heldSystem (w0 := w) (by with_reducible exact HS) (by repeat (first | with_reducible exact List.mem_cons_self | refine List.mem_cons_of_mem _ ?_)) HG.out).mono ?_
  rintro e w18 ⟨rfl, HS⟩
  clear j0 j1 j2
  have a0 : w18.cell? ⟨w.heap.size, 0, none⟩ = some (.slice A0 t0.length c0) := HS.cell (cs := #[.slice A0 t0.length c0, .slice A1 t1.length c1, .slice A2 t2.length c2, .slice A3 t3.length c3, .slice A4 t4.length c4]) (t := 48) (by repeat (first | with_reducible exact List.mem_cons_self | refine List.mem_cons_of_mem _ ?_)) 0 _ rfl
  have a1 : w18.cell? ⟨w.heap.size, 1, none⟩ = some (.slice A1 t1.length c1) := HS.cell (cs := #[.slice A0 t0.length c0, .slice A1 t1.length c1, .slice A2 t2.length c2, .slice A3 t3.length c3, .slice A4 t4.length c4]) (t := 48) (by repeat (first | with_reducible exact List.mem_cons_self | refine List.mem_cons_of_mem _ ?_)) 1 _ rfl
  have a2 : w18.cell? ⟨w.heap.size, 2, none⟩ = some (.slice A2 t2.length c2) := HS.cell (cs := #[.slice A0 t0.length c0, .slice A1 t1.length c1, .slice A2 t2.length c2, .slice A3 t3.length c3, .slice A4 t4.length c4]) (t := 48) (by repeat (first | with_reducible exact List.mem_cons_self | refine List.mem_cons_of_mem _ ?_)) 2 _ rfl
  have a3 : w18.cell? ⟨w.heap.size, 3, none⟩ = some (.slice A3 t3.length c3) := HS.cell (cs := #[.slice A0 t0.length c0, .slice A1 t1.length c1, .slice A2 t2.length c2, .slice A3 t3.length c3, .slice A4 t4.length c4]) (t := 48) (by repeat (first | with_reducible exact List.mem_cons_self | refine List.mem_cons_of_mem _ ?_)) 3 _ rfl
  have a4 : w18.cell? ⟨w.heap.size, 4, none⟩ = some (.slice A4 t4.length c4) := HS.cell (cs := #[.slice A0 t0.length c0, .slice A1 t1.length c1, .slice A2 t2.length c2, .slice A3 t3.length c3, .slice A4 t4.length c4]) (t := 48) (by repeat (first | with_reducible exact List.mem_cons_self | refine List.mem_cons_of_mem _ ?_)) 4 _ rfl
  go_wp2_with fail
  refine (st_toProtocol (w0 := w) (by with_reducible exact HS) HR0.out HC0.out HR1.out HC1.out HR2.out HC2.out HR3.out HC3.out HR4.out HC4.out T0_.out T1_.out T2_.out T3_.out T4_.out).mono ?_
  rintro e w19 ⟨Z0, z0, Z1, z1, Z2, z2, Z3, z3, Z4, z4, rfl, lz0, hz0, lz1, hz1, lz2, hz2, lz3, hz3, lz4, hz4, HS⟩
  clear a0 a1 a2 a3 a4
  go_wp2_with fail
  refine (st_toOpS_ (w0 := w) (by with_reducible exact HS) HR5.out HC5.out TO.out).mono ?_
  rintro e w20 ⟨Z5, z5, lz5, hz5, rfl, HS⟩
  go_wp2_with fail
  refine (st_implX (w0 := w) (by with_reducible exact HS) (by repeat (first | with_reducible exact List.mem_cons_self | refine List.mem_cons_of_mem _ ?_)) (by repeat (first | with_reducible exact List.mem_cons_self | refine List.mem_cons_of_mem _ ?_)) (by repeat (first | with_reducible exact List.mem_cons_self | refine List.mem_cons_of_mem _ ?_)) (by repeat (first | with_reducible exact List.mem_cons_self | refine List.mem_cons_of_mem _ ?_)) (by repeat (first | with_reducible exact List.mem_cons_self | refine List.mem_cons_of_mem _ ?_)) (by repeat (first | with_reducible exact List.mem_cons_self | refine List.mem_cons_of_mem _ ?_)) IM.out).mono ?_
  rintro e w21 ⟨H0, h0, H1, h1, lsh, hsh, rfl, HS⟩
  have b0 : (w21.alloc (.cells #[.slice H0 C.length h0, .slice H1 F.length h1, .bool M] 73)).cell? ⟨w5.heap.size, 0, none⟩ = some (.slice V0 C.length d0) := (St.box HS #[.slice H0 C.length h0, .slice H1 F.length h1, .bool M] 73).cell (cs := #[.slice V0 C.length d0, .slice V1 F.length d1, .bool M]) (t := 73) (by repeat (first | with_reducible exact List.mem_cons_self | refine List.mem_cons_of_mem _ ?_)) 0 _ rfl
  have b1 : (w21.alloc (.cells #[.slice H0 C.length h0, .slice H1 F.length h1, .bool M] 73)).cell? ⟨w5.heap.size, 1, none⟩ = some (.slice V1 F.length d1) := (St.box HS #[.slice H0 C.length h0, .slice H1 F.length h1, .bool M] 73).cell (cs := #[.slice V0 C.length d0, .slice V1 F.length d1, .bool M]) (t := 73) (by repeat (first | with_reducible exact List.mem_cons_self | refine List.mem_cons_of_mem _ ?_)) 1 _ rfl
  have b2 : (w21.alloc (.cells #[.slice H0 C.length h0, .slice H1 F.length h1, .bool M] 73)).cell? ⟨w5.heap.size, 2, none⟩ = some (.bool M) := (St.box HS #[.slice H0 C.length h0, .slice H1 F.length h1, .bool M] 73).cell (cs := #[.slice V0 C.length d0, .slice V1 F.length d1, .bool M]) (t := 73) (by repeat (first | with_reducible exact List.mem_cons_self | refine List.mem_cons_of_mem _ ?_)) 2 _ rfl
  go_wp2_with fail
  refine (st_eqSystem (w0 := w) (St.box HS _ _) (by repeat (first | with_reducible exact List.mem_cons_self | refine List.mem_cons_of_mem _ ?_)) (by repeat (first | with_reducible exact List.mem_cons_self | refine List.mem_cons_of_mem _ ?_)) EG.out).mono ?_
  rintro e w22 ⟨rfl, HS⟩
  clear b0 b1 b2
  have j0 : w22.cell? ⟨w8.heap.size, 0, none⟩ = some (.slice G0 C.length g0) := HS.cell (cs := #[.slice G0 C.length g0, .slice G1 F.length g1, .bool M]) (t := 73) (by repeat (first | with_reducible exact List.mem_cons_self | refine List.mem_cons_of_mem _ ?_)) 0 _ rfl
  have j1 : w22.cell? ⟨w8.heap.size, 1, none⟩ = some (.slice G1 F.length g1) := HS.cell (cs := #[.slice G0 C.length g0, .slice G1 F.length g1, .bool M]) (t := 73) (by repeat (first | with_reducible exact List.mem_cons_self | refine List.mem_cons_of_mem _ ?_)) 1 _ rfl
  have j2 : w22.cell? ⟨w8.heap.size, 2, none⟩ = some (.bool M) := HS.cell (cs := #[.slice G0 C.length g0, .slice G1 F.length g1, .bool M]) (t := 73) (by repeat (first | with_reducible exact List.mem_cons_self | refine List.mem_cons_of_mem _ ?_)) 2 _ rfl
  go_wp2_with fail
  refine (st_heldSystem (w0 := w) (by with_reducible exact HS) (by repeat (first | with_reducible exact List.mem_cons_self | refine List.mem_cons_of_mem _ ?_)) HG.out).mono ?_
  rintro e w23 ⟨rfl, HS⟩
  clear j0 j1 j2
  go_wp2_with fail
  go_ret
  exact ⟨rfl, HS.below⟩
theorem szProtocol_f (l0 l1 l2 l3 l4 : List S50) (a : Int) (ha : 0 ≤ a) (ha1 : a ≤ 1048576) (h0 : l0.length ≤ 9223372036854775807) (h1 : l1.length ≤ 9223372036854775807) (h2 : l2.length ≤ 9223372036854775807) (h3 : l3.length ≤ 9223372036854775807) (h4 : l4.length ≤ 9223372036854775807) :
    laws_szProtocol.f l0 l1 l2 l3 l4 a = some (if a < (l0.length : Int) + l1.length + l2.length + l3.length + l4.length then -1 else a - ((l0.length : Int) + l1.length + l2.length + l3.length + l4.length)) := by
  unfold laws_szProtocol.f
  rw [szRuleS_f l0 a ha ha1 h0, Option.bind_some]
  by_cases q0 : a < l0.length
  · rw [if_pos q0, if_pos (by omega), if_pos (by omega)]
  rw [if_neg q0, if_neg (by omega), szRuleS_f l1 _ (by omega) (by omega) h1, Option.bind_some]
  by_cases q1 : a - l0.length < l1.length
  · rw [if_pos q1, if_pos (by omega), if_pos (by omega)]
  rw [if_neg q1, if_neg (by omega), szRuleS_f l2 _ (by omega) (by omega) h2, Option.bind_some]
  by_cases q2 : a - l0.length - l1.length < l2.length
  · rw [if_pos q2, if_pos (by omega), if_pos (by omega)]
  rw [if_neg q2, if_neg (by omega), szRuleS_f l3 _ (by omega) (by omega) h3, Option.bind_some]
  by_cases q3 : a - l0.length - l1.length - l2.length < l3.length
  · rw [if_pos q3, if_pos (by omega), if_pos (by omega)]
  rw [if_neg q3, if_neg (by omega), szRuleS_f l4 _ (by omega) (by omega) h4, Option.bind_some]
  by_cases q4 : a - l0.length - l1.length - l2.length - l3.length < l4.length
  · rw [if_pos q4, if_pos (by omega), if_pos (by omega)]
  rw [if_neg q4, if_neg (by omega), if_neg (by omega)]
  congr 1; omega
theorem eqProtocol_ev (l0 l1 l2 l3 l4 : List S58) (h0 : l0.length ≤ 1048576) (h1 : l1.length ≤ 1048576) (h2 : l2.length ≤ 1048576) (h3 : l3.length ≤ 1048576) (h4 : l4.length ≤ 1048576) : Ev (fun k => laws_eqProtocol.f k l0 l1 l2 l3 l4 l0 l1 l2 l3 l4) true := by
  unfold laws_eqProtocol.f
  exact Ev.bind (eqRuleS_ev l0 h0) (Ev.pos rfl (Ev.bind (eqRuleS_ev l1 h1) (Ev.pos rfl (Ev.bind (eqRuleS_ev l2 h2) (Ev.pos rfl (Ev.bind (eqRuleS_ev l3 h3) (Ev.pos rfl (Ev.bind (eqRuleS_ev l4 h4) (Ev.pos rfl (Ev.some rfl))))))))))
theorem getD_in4 {t : List S58} (h : t.length = 4) {q : Int} (h0 : 0 ≤ q) (h3 : q ≤ 3) : t.getD q.toNat z58 ∈ t := by
  rw [getD_lt t _ _ (by omega)]; exact List.getElem_mem _
theorem set_self {α : Type} (l : List α) (i : Nat) (z : α) : l.set i (l.getD i z) = l := by
  by_cases h : i < l.length
  · rw [getD_lt l i z h]; exact List.set_getElem_self h
  · exact List.set_eq_of_length_le (by omega)
theorem seeFrom_at (tab : List S58) (i : Nat) : ∀ d j c f m b, (seeFrom tab (i : Int) d j c f m b).1.getD i 0 = c.getD i 0 := by
  intro d
  induction d with
  | zero => intro j c f m b; rfl
  | succ d ih =>
    intro j c f m b
    unfold seeFrom
    by_cases h1 : ((j : Int) == (i : Int)) = true
    · rw [if_pos h1]; exact ih _ _ _ _ _
    · rw [if_neg h1]
      by_cases h2 : (c.getD j 0 == 0) = true
      · rw [if_pos h2]; exact ih _ _ _ _ _
      · rw [if_neg h2, ih]
        have hne : j ≠ i := fun e => h1 (by rw [e]; exact beq_self_eq_true _)
        simp only [List.getD_eq_getElem?_getD, List.getElem?_set_ne hne]
theorem seeFrom_valid (tab : List S58) (i : Int) (ht : tab.length = 4) (hv : ∀ r ∈ tab, 0 ≤ r.f0 ∧ r.f0 ≤ 3) : ∀ d j c f m b, (∀ x ∈ c, 0 ≤ x ∧ x ≤ 3) → j + d ≤ c.length → (seeFrom tab i d j c f m b).1.length = c.length ∧ (seeFrom tab i d j c f m b).2.1.length = f.length ∧ ∀ x ∈ (seeFrom tab i d j c f m b).1, 0 ≤ x ∧ x ≤ 3 := by
  intro d
  induction d with
  | zero => intro j c f m b hc _; exact ⟨rfl, rfl, hc⟩
  | succ d ih =>
    intro j c f m b hc hj
    unfold seeFrom
    by_cases h1 : ((j : Int) == i) = true
    · rw [if_pos h1]; exact ih _ _ _ _ _ hc (by omega)
    · rw [if_neg h1]
      by_cases h2 : (c.getD j 0 == 0) = true
      · rw [if_pos h2]; exact ih _ _ _ _ _ hc (by omega)
      · rw [if_neg h2]
        have hcj := hc (c.getD j 0) (by rw [getD_lt c j 0 (by omega)]; exact List.getElem_mem _)
        have hr := hv _ (getD_in4 ht hcj.1 hcj.2)
        have := ih (j + 1) (c.set j (tab.getD (c.getD j 0).toNat z58).f0) (f.set j (f.getD j false && !decide ((tab.getD (c.getD j 0).toNat z58).f0 = 0))) (if (tab.getD (c.getD j 0).toNat z58).f2 = true then f.getD j false else m) (if (tab.getD (c.getD j 0).toNat z58).f2 = true then b + 1 else b) (fun x hx => by
          rcases List.mem_or_eq_of_mem_set hx with hx | hx
          · exact hc x hx
          · rw [hx]; exact hr) (by rw [List.length_set]; omega)
        rw [List.length_set, List.length_set] at this
        exact this
theorem othersFrom_iff (l : List Int) (i : Nat) (v : Int) : ∀ k d, othersFrom (l.set i v) i k d = true ↔ ∃ j, d ≤ j ∧ j < d + k ∧ j ≠ i ∧ l.getD j 0 ≠ 0 := by
  intro k
  induction k with
  | zero => intro d; simp [othersFrom]; intro j h1 h2; omega
  | succ k ih =>
    intro d
    unfold othersFrom
    by_cases h1 : d = i
    · rw [if_pos h1, ih]
      constructor
      · rintro ⟨j, a, b, c, e⟩; exact ⟨j, by omega, by omega, c, e⟩
      · rintro ⟨j, a, b, c, e⟩; exact ⟨j, by omega, by omega, c, e⟩
    · rw [if_neg h1]
      have hg : (l.set i v).getD d 0 = l.getD d 0 := by rw [List.getD_eq_getElem?_getD, List.getD_eq_getElem?_getD, List.getElem?_set_ne (fun e => h1 e.symm)]
      rw [hg]
      by_cases h2 : l.getD d 0 = 0
      · rw [if_pos h2, ih]
        constructor
        · rintro ⟨j, a, b, c, e⟩; exact ⟨j, by omega, by omega, c, e⟩
        · rintro ⟨j, a, b, c, e⟩
          refine ⟨j, ?_, by omega, c, e⟩
          by_cases hj : j = d
          · subst hj; exact absurd h2 e
          · omega
      · rw [if_neg h2]
        exact ⟨fun _ => ⟨d, by omega, by omega, h1, h2⟩, fun _ => rfl⟩
theorem others_any (l : List Int) (i : Nat) (v : Int) (h : l.getD i 0 = 0) : others (l.set i v) i = l.any (fun y => !decide (y = 0)) := by
  unfold others
  rw [Bool.eq_iff_iff, List.length_set, othersFrom_iff, List.any_eq_true]
  constructor
  · rintro ⟨j, _, hj, hne, hz⟩
    rw [Nat.zero_add] at hj
    rw [getD_lt l j 0 hj] at hz
    exact ⟨l[j], List.getElem_mem hj, by simpa using hz⟩
  · rintro ⟨y, hy, hz⟩
    obtain ⟨j, hj, rfl⟩ := List.getElem_of_mem hy
    have hz' : l[j] ≠ 0 := by simpa using hz
    refine ⟨j, by omega, by omega, ?_, by rw [getD_lt l j 0 hj]; exact hz'⟩
    rintro rfl
    rw [getD_lt l j 0 hj] at h
    exact hz' h
section
variable {t0 t1 t2 t3 t4 : List S58} {c : List Int} {f : List Bool} {m : Bool} {i : Nat}
theorem step_eq (l0 : t0.length = 4) (nz : ∀ r ∈ t0, r.f0 ≠ 0 ∧ r.f1 ≠ 0) (hc : ∀ x ∈ c, 0 ≤ x ∧ x ≤ 3) (hi : i < c.length) (kind : Int) : stepI t0 t1 t2 t3 t4 c f m kind i = stepS t0 t1 t2 t3 t4 c f m kind i := by
  have hci := hc (c.getD i 0) (by rw [getD_lt c i 0 hi]; exact List.getElem_mem _)
  unfold stepI stepS
  by_cases kz : kind = 0
  · rw [if_pos kz, if_pos kz]
    by_cases q0 : c.getD i 0 = 0
    · simp only [if_pos q0]
      have hz := nz _ (getD_in4 (q := 0) l0 (by omega) (by omega))
      rw [show (0 : Int).toNat = 0 from rfl] at hz
      have hs : (seeAll t3 (i : Int) c f m).1.getD i 0 = 0 := by unfold seeAll; rw [seeFrom_at]; exact q0
      rw [others_any _ _ _ hs]
      cases hb : (seeAll t3 (i : Int) c f m).1.any (fun y => !decide (y = 0)) with
      | true => simp only [if_true, decide_eq_false hz.2, Bool.not_false, Bool.and_true, List.set_set]
      | false => simp only [Bool.false_eq_true, if_false, decide_eq_false hz.1, Bool.not_false, Bool.and_true]
    · simp only [if_neg q0]
      have hz := nz _ (getD_in4 l0 hci.1 hci.2)
      rw [decide_eq_false hz.1, Bool.not_false, Bool.and_true, set_self]
  · rw [if_neg kz, if_neg kz]
    by_cases ko : kind = 1
    · rw [if_pos ko, if_pos ko]
      simp only [Bool.true_and]
    · rw [if_neg ko, if_neg ko]
      simp only [Bool.false_and]
theorem step_valid (l0 : t0.length = 4) (l1 : t1.length = 4) (l3 : t3.length = 4) (l4 : t4.length = 4) (v0 : ∀ r ∈ t0, (0 ≤ r.f0 ∧ r.f0 ≤ 3) ∧ 0 ≤ r.f1 ∧ r.f1 ≤ 3) (v1 : ∀ r ∈ t1, 0 ≤ r.f0 ∧ r.f0 ≤ 3) (v3 : ∀ r ∈ t3, 0 ≤ r.f0 ∧ r.f0 ≤ 3) (v4 : ∀ r ∈ t4, 0 ≤ r.f0 ∧ r.f0 ≤ 3) (hc : ∀ x ∈ c, 0 ≤ x ∧ x ≤ 3) (hi : i < c.length) (kind : Int) :
    (stepI t0 t1 t2 t3 t4 c f m kind i).1.length = c.length ∧ (stepI t0 t1 t2 t3 t4 c f m kind i).2.1.length = f.length ∧ ∀ x ∈ (stepI t0 t1 t2 t3 t4 c f m kind i).1, 0 ≤ x ∧ x ≤ 3 := by
  have hci := hc (c.getD i 0) (by rw [getD_lt c i 0 hi]; exact List.getElem_mem _)
  have key : ∀ (l : List Int) (v : Int), (∀ x ∈ l, 0 ≤ x ∧ x ≤ 3) → (0 ≤ v ∧ v ≤ 3) → ∀ x ∈ l.set i v, 0 ≤ x ∧ x ≤ 3 := fun l v hl hv x hx => by
    rcases List.mem_or_eq_of_mem_set hx with hx | hx
    · exact hl x hx
    · rw [hx]; exact hv
  unfold stepI finI
  by_cases kz : kind = 0
  · rw [if_pos kz]
    by_cases q0 : c.getD i 0 = 0
    · simp only [if_pos q0]
      obtain ⟨s1, s2, s3⟩ := seeFrom_valid t3 (i : Int) l3 v3 c.length 0 c f m 0 hc (by omega)
      have hz := v0 _ (getD_in4 (q := 0) l0 (by omega) (by omega))
      rw [show (0 : Int).toNat = 0 from rfl] at hz
      refine ⟨by rw [List.length_set]; exact s1, by rw [List.length_set]; exact s2, key _ _ s3 ?_⟩
      split
      · exact hz.2
      · exact hz.1
    · simp only [if_neg q0]
      exact ⟨List.length_set .., List.length_set .., key _ _ hc (v0 _ (getD_in4 l0 hci.1 hci.2)).1⟩
  · rw [if_neg kz]
    by_cases ko : kind = 1
    · rw [if_pos ko]
      obtain ⟨s1, s2, s3⟩ := seeFrom_valid t4 (i : Int) l4 v4 c.length 0 c f m 0 hc (by omega)
      cases hsn : (decide (c.getD i 0 = 0) || decide (c.getD i 0 = 1)) with
      | true =>
        simp only [hsn, if_true]
        exact ⟨by rw [List.length_set]; exact s1, by rw [List.length_set, List.length_replicate]; exact s2, key _ _ s3 (v1 _ (getD_in4 l1 hci.1 hci.2))⟩
      | false =>
        simp only [hsn, Bool.false_eq_true, if_false]
        exact ⟨List.length_set .., by rw [List.length_set, List.length_replicate], key _ _ hc (v1 _ (getD_in4 l1 hci.1 hci.2))⟩
    · rw [if_neg ko]
      exact ⟨List.length_set .., List.length_set .., key _ _ hc (by omega)⟩
end
theorem run_eq {t0 t1 t2 t3 t4 : List S58} (hv : vprot t0 t1 t2 t3 t4 = true) : ∀ (ops : List S118) (k : Int) (c : List Int) (f : List Bool) (m : Bool), (∀ x ∈ c, 0 ≤ x ∧ x ≤ 3) → (∀ o ∈ ops, 0 ≤ o.f1 ∧ o.f1 < c.length) → runI t0 t1 t2 t3 t4 ops k c f m = runS t0 t1 t2 t3 t4 ops k c f m ∧ (runI t0 t1 t2 t3 t4 ops k c f m).1.length = c.length ∧ (runI t0 t1 t2 t3 t4 ops k c f m).2.1.length = f.length := by
  obtain ⟨⟨e0, e1, e2, e3, e4⟩, v0, v1, v3, v4, nz⟩ := vprot_facts hv
  intro ops
  induction ops with
  | nil => intros; exact ⟨rfl, rfl, rfl⟩
  | cons o os ih =>
    intro k c f m hc ho
    have h1 := ho o List.mem_cons_self
    have hi : o.f1.toNat < c.length := by omega
    have hs := step_eq (t1 := t1) (t2 := t2) (t3 := t3) (t4 := t4) (f := f) (m := m) e0 nz hc hi o.f0
    obtain ⟨g1, g2, g3⟩ := step_valid (t2 := t2) (f := f) (m := m) e0 e1 e3 e4 v0 v1 v3 v4 hc hi o.f0
    unfold runI runS
    rw [← hs]
    split
    · exact ⟨rfl, g1, g2⟩
    · obtain ⟨a1, a2, a3⟩ := ih (k + 1) _ (stepI t0 t1 t2 t3 t4 c f m o.f0 o.f1.toNat).2.1 (stepI t0 t1 t2 t3 t4 c f m o.f0 o.f1.toNat).2.2.1 g3 (fun o' ho' => by rw [g1]; exact ho o' (List.mem_cons_of_mem _ ho'))
      exact ⟨a1, a2.trans g1, a3.trans g2⟩
theorem runR_eq (t0 t1 t2 t3 t4 : List S58) (n : Int) (ops : List S118) : runR t0 t1 t2 t3 t4 n ops = runRS t0 t1 t2 t3 t4 n ops ∧ (runR t0 t1 t2 t3 t4 n ops).1.length ≤ 3 ∧ (runR t0 t1 t2 t3 t4 n ops).2.1.length ≤ 3 := by
  unfold runR runRS
  by_cases hf : fitB t0 t1 t2 t3 t4 n ops = true
  · rw [if_pos hf, if_pos hf]
    unfold fitB at hf
    rw [Bool.and_eq_true, Bool.and_eq_true] at hf
    obtain ⟨⟨h1, h2⟩, h3⟩ := hf
    unfold capsB at h2
    rw [Bool.and_eq_true, decide_eq_true_eq, decide_eq_true_eq] at h2
    obtain ⟨k, rfl⟩ : ∃ k : Nat, n = (k : Int) := ⟨n.toNat, by omega⟩
    obtain ⟨_, hop⟩ := ops_facts h3
    obtain ⟨a1, a2, a3⟩ := run_eq h1 ops 0 (List.replicate (k : Int).toNat 0) (List.replicate (k : Int).toNat false) true (fun x hx => by rw [List.eq_of_mem_replicate hx]; omega) (fun o ho => by
      rw [List.length_replicate, Int.toNat_natCast]
      exact (hop o ho).2)
    rw [List.length_replicate, Int.toNat_natCast] at a2 a3
    rw [Int.toNat_natCast] at a1
    simp only [Int.toNat_natCast]
    rw [← a1]
    exact ⟨rfl, by rw [a2]; omega, by rw [a3]; omega⟩
  · rw [if_neg hf, if_neg hf]
    exact ⟨rfl, Nat.zero_le _, Nat.zero_le _⟩
def laws_FnExactRunSystem.f (t0 t1 t2 t3 t4 : List S50) (n : Int) (ops : List S120) : Option Bool := some true
theorem laws_FnExactRunSystem.calls (A0_0 : Option Addr) (c0_0 : Nat) (t0 : List S50) (A0_1 : Option Addr) (c0_1 : Nat) (t1 : List S50) (A0_2 : Option Addr) (c0_2 : Nat) (t2 : List S50) (A0_3 : Option Addr) (c0_3 : Nat) (t3 : List S50) (A0_4 : Option Addr) (c0_4 : Nat) (t4 : List S50) (n : Int) (A2 : Option Addr) (c2 : Nat) (ops : List S120) (r1 : Bool) (w : World) (hr0 : Kd.C k50 w A0_0 t0.length t0) (hc0 : t0.length ≤ c0_0) (hr1 : Kd.C k50 w A0_1 t1.length t1) (hc1 : t1.length ≤ c0_1) (hr2 : Kd.C k50 w A0_2 t2.length t2) (hc2 : t2.length ≤ c0_2) (hr3 : Kd.C k50 w A0_3 t3.length t3) (hc3 : t3.length ≤ c0_3) (hr4 : Kd.C k50 w A0_4 t4.length t4) (hc4 : t4.length ≤ c0_4) (hr5 : Kd.C k120 w A2 ops.length ops) (hc5 : ops.length ≤ c2) (h : laws_FnExactRunSystem.f t0 t1 t2 t3 t4 n ops = some r1) :
    Calls Try.prog 8 #[.agg #[.slice A0_0 t0.length c0_0, .slice A0_1 t1.length c0_1, .slice A0_2 t2.length c0_2, .slice A0_3 t3.length c0_3, .slice A0_4 t4.length c0_4], .int .i64 n, .slice A2 ops.length c2] w fun e w' => e = .returned (.bool r1) ∧ Below w.heap.size w w' := by
  obtain rfl := Option.some.inj h
  have hsz := szProtocol_f t0 t1 t2 t3 t4 1048576 (by omega) (by omega) hr0.2.1 hr1.2.1 hr2.2.1 hr3.2.1 hr4.2.1
  by_cases q : (1048576 : Int) < ((t0.length : Int) + t1.length + t2.length + t3.length + t4.length)
  · rw [if_pos q] at hsz
    exact big1 A0_0 c0_0 t0 A0_1 c0_1 t1 A0_2 c0_2 t2 A0_3 c0_3 t3 A0_4 c0_4 t4 n A2 c2 ops w hr0 hc0 hr1 hc1 hr2 hc2 hr3 hc3 hr4 hc4 hr5 hc5 _ hsz (by decide)
  rw [if_neg q] at hsz
  have hso := szOpS_f ops _ (show 0 ≤ 1048576 - ((t0.length : Int) + t1.length + t2.length + t3.length + t4.length) by omega) (by omega) hr5.2.1
  by_cases q1 : (1048576 : Int) - ((t0.length : Int) + t1.length + t2.length + t3.length + t4.length) < ops.length
  · rw [if_pos q1] at hso
    exact big2 A0_0 c0_0 t0 A0_1 c0_1 t1 A0_2 c0_2 t2 A0_3 c0_3 t3 A0_4 c0_4 t4 n A2 c2 ops w hr0 hc0 hr1 hc1 hr2 hc2 hr3 hc3 hr4 hc4 hr5 hc5 _ hsz (decide_eq_false (by omega)) _ hso (by decide)
  rw [if_neg q1] at hso
  have g0 : t0.length ≤ 1048576 := by omega
  have g1 : t1.length ≤ 1048576 := by omega
  have g2 : t2.length ≤ 1048576 := by omega
  have g3 : t3.length ≤ 1048576 := by omega
  have g4 : t4.length ≤ 1048576 := by omega
  have g5 : ops.length ≤ 1048576 := by omega
  have b0 : (t0.map cvRule).length ≤ 1048576 := by rw [List.length_map]; exact g0
  have b1 : (t1.map cvRule).length ≤ 1048576 := by rw [List.length_map]; exact g1
  have b2 : (t2.map cvRule).length ≤ 1048576 := by rw [List.length_map]; exact g2
  have b3 : (t3.map cvRule).length ≤ 1048576 := by rw [List.length_map]; exact g3
  have b4 : (t4.map cvRule).length ≤ 1048576 := by rw [List.length_map]; exact g4
  have b5 : (ops.map cvOp).length ≤ 1048576 := by rw [List.length_map]; exact g5
  have v0 := toRuleS_ev t0 g0
  have v1 := toRuleS_ev t1 g1
  have v2 := toRuleS_ev t2 g2
  have v3 := toRuleS_ev t3 g3
  have v4 := toRuleS_ev t4 g4
  have v5 := toOpS_ev ops g5
  generalize hT0 : t0.map cvRule = T0 at b0 v0
  generalize hT1 : t1.map cvRule = T1 at b1 v1
  generalize hT2 : t2.map cvRule = T2 at b2 v2
  generalize hT3 : t3.map cvRule = T3 at b3 v3
  generalize hT4 : t4.map cvRule = T4 at b4 v4
  generalize hO : ops.map cvOp = O at b5 v5
  obtain ⟨re, l1, l2⟩ := runR_eq T0 T1 T2 T3 T4 n O
  have hi : impl_RunSystem.f T0 T1 T2 T3 T4 n O = some (runR T0 T1 T2 T3 T4 n O) := rfl
  have hs : spec_RunSystem.f T0 T1 T2 T3 T4 n O = some (runR T0 T1 T2 T3 T4 n O) := by rw [re]; exact if_pos b5
  generalize runR T0 T1 T2 T3 T4 n O = R at hi hs l1 l2
  obtain ⟨C, F, M, Q, d⟩ := R
  simp only at l1 l2
  obtain ⟨s5, ho⟩ := markOpS_ev O (((((1 + 3 * (T0.length : Int)) + 3 * (T1.length : Int)) + 3 * (T2.length : Int)) + 3 * (T3.length : Int)) + 3 * (T4.length : Int)) b5 (by omega) (by omega)
  exact walk A0_0 c0_0 t0 A0_1 c0_1 t1 A0_2 c0_2 t2 A0_3 c0_3 t3 A0_4 c0_4 t4 n A2 c2 ops w hr0 hc0 hr1 hc1 hr2 hc2 hr3 hc3 hr4 hc4 hr5 hc5 _ hsz (decide_eq_false (by omega)) _ hso (decide_eq_false (by omega)) T0 T1 T2 T3 T4 _ _ _ _ _ O _ C _ F _ M d Q _ _ _ _ _ _ _ (decide_eq_false (by omega)) (decide_eq_false (by omega)) v0 v1 v2 v3 v4 v5 hs hi (eqSystem_ev C F M (by omega) (by omega)) (eqProtocol_ev T0 T1 T2 T3 T4 b0 b1 b2 b3 b4) (eqOpS_ev O b5) (markRuleS_ev T0 1 b0 (by omega) (by omega)) (markRuleS_ev T1 (1 + 3 * (T0.length : Int)) b1 (by omega) (by omega)) (markRuleS_ev T2 ((1 + 3 * (T0.length : Int)) + 3 * (T1.length : Int)) b2 (by omega) (by omega)) (markRuleS_ev T3 (((1 + 3 * (T0.length : Int)) + 3 * (T1.length : Int)) + 3 * (T2.length : Int)) b3 (by omega) (by omega)) (markRuleS_ev T4 ((((1 + 3 * (T0.length : Int)) + 3 * (T1.length : Int)) + 3 * (T2.length : Int)) + 3 * (T3.length : Int)) b4 (by omega) (by omega)) ho (markSystem_ev C F M 1 (by omega) (by omega) (by omega) (by omega)) (heldSystem_ev C.length F.length M 1 (by omega) (by omega) (by omega) (by omega))

/-- THE ONE PURE STATEMENT of laws_FnExactRunSystem. -/
def laws_FnExactRunSystem.Pure : Prop := ∀ (l0_0 : List (S50)) (l0_1 : List (S50)) (l0_2 : List (S50)) (l0_3 : List (S50)) (l0_4 : List (S50)) (a1 : Int) (l2 : List (S120)), (l0_0.length ≤ 9223372036854775807 ∧ ∀ le0_0 ∈ l0_0, True) → (l0_1.length ≤ 9223372036854775807 ∧ ∀ le0_1 ∈ l0_1, True) → (l0_2.length ≤ 9223372036854775807 ∧ ∀ le0_2 ∈ l0_2, True) → (l0_3.length ≤ 9223372036854775807 ∧ ∀ le0_3 ∈ l0_3, True) → (l0_4.length ≤ 9223372036854775807 ∧ ∀ le0_4 ∈ l0_4, True) → (Lit.int .i64 a1).wf = true → (l2.length ≤ 9223372036854775807 ∧ ∀ le2 ∈ l2, True) → laws_FnExactRunSystem.f l0_0 l0_1 l0_2 l0_3 l0_4 a1 l2 = some true

end Go.Proofs.Ytlaafbaheoeclaa.PFnExactRunSystem
