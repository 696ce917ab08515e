/- The statement FnExactOutcomesOf over lists alone: both programs tell the outcomes of one plain run of the loads. -/
import Derived.Test.YtpooojgeonpmnaaZExactOutcomesOfPFnExactOutcomesOfx
import Derived.Test.YtpooojgeonpmnaaZExactOutcomesOfX2
namespace Go.Proofs.Ytpooojgeonpmnaa.Pure
open Go.RowKit Go.Proofs.YtpooojgeonpmnaaW.PrintWords Go.Proofs.Ytpooojgeonpmnaa.PFnExactOutcomesOf
set_option linter.unusedVariables false
set_option linter.unusedSimpArgs false
theorem szLoadS_f (l : List S89) (a : Int) (h0 : 0 ≤ a) (h1 : a ≤ 1048576) (hl : l.length ≤ 9223372036854775807) : laws_szLoadS.f l a = some (if a < l.length then -1 else a - l.length) := by
  unfold laws_szLoadS.f
  rw [wrap_id (by omega) (by omega)]
  by_cases h : a < l.length
  · rw [if_pos (by omega), if_pos h]
  · rw [if_neg (by omega), if_neg h]
def cvLoad (x : S89) : S27 := ⟨x.f0, x.f1⟩
theorem toLoadS_ev (l : List S89) (h : l.length ≤ 1048576) : Ev (fun k => laws_toLoadS.f k l) (l.map cvLoad) := by
  unfold laws_toLoadS.f
  refine Ev.pos (by omega) (Ev.pos (by omega) ?_)
  refine Ev.upto (F := fun k s i => laws_toLoadS.l0 k l s i) (n := l.length) (r := l.map cvLoad) (fun i s => s = (l.take i).map cvLoad ++ List.replicate (l.length - i) z27) ?_ ?_ 0 (Nat.zero_le _) _ (by simp)
  · intro i s hi hs ih
    have hsl : s.length = l.length := by rw [hs]; simp; omega
    refine Ev.succ ?_
    simp only [laws_toLoadS.l0]
    refine Ev.pos (by omega) (Ev.pos (by omega) (Ev.bindc (a := ((rd_T89 l (i : Int)).f0, (rd_T89 l (i : Int)).f1)) rfl (Ev.pos (by omega) ?_)))
    rw [wrap_succ hi (by omega)]
    refine ih _ ?_
    rw [hs, Int.toNat_natCast]
    exact fill_next cvLoad l z27 z89 i hi _ rfl
  · intro s hs
    refine Ev.succ ?_
    simp only [laws_toLoadS.l0]
    exact Ev.neg (by omega) (Ev.some (by rw [hs]; simp))
theorem eqLoadS_ev (l : List S27) (h : l.length ≤ 1048576) : Ev (fun k => laws_eqLoadS.f k l l) true := by
  unfold laws_eqLoadS.f
  refine Ev.pos rfl ?_
  refine Ev.upto (F := fun k (_ : Unit) i => laws_eqLoadS.l0 k l l i) (n := l.length) (r := true) (fun _ _ => True) ?_ ?_ 0 (Nat.zero_le _) () trivial
  · intro i s hi _ ih
    refine Ev.succ ?_
    simp only [laws_eqLoadS.l0]
    refine Ev.pos (by omega) (Ev.pos (by omega) (Ev.pos (by omega) (Ev.bindc (a := true) (by simp [laws_eqLoad.f]) (Ev.pos rfl ?_))))
    rw [wrap_succ hi (by omega)]
    exact ih () trivial
  · intro s _
    refine Ev.succ ?_
    simp only [laws_eqLoadS.l0]
    exact Ev.neg (by omega) (Ev.some rfl)
/-- n rising numbers from a on. -/
def cnt (a : Int) (n : Nat) : List Int := (List.range n).map fun (j : Nat) => a + (j : Int)
theorem cnt_length (a : Int) (n : Nat) : (cnt a n).length = n := by simp [cnt]
theorem cnt_succ (a : Int) (n : Nat) : cnt a (n + 1) = cnt a n ++ [a + (n : Int)] := by simp [cnt, List.range_succ]
theorem cnt_getD (a : Int) (n i : Nat) (h : i < n) : (cnt a n).getD i 0 = a + (i : Int) := by
  simp [cnt, List.getD_eq_getElem?_getD, h]
theorem set_mark {α : Type} (A l : List α) (i : Nat) (v : α) (h : i = A.length) (hi : i < l.length) : (A ++ l.drop i).set i v = (A ++ [v]) ++ l.drop (i + 1) := by
  subst h
  rw [List.set_append_right _ _ (Nat.le_refl _), Nat.sub_self, List.drop_eq_getElem_cons hi, List.set_cons_zero]
  simp
theorem eqInt64S_ev (l : List Int) (h : l.length ≤ 1048576) : Ev (fun k => laws_eqInt64S.f k l l) true := by
  unfold laws_eqInt64S.f
  refine Ev.pos rfl ?_
  refine Ev.upto (F := fun k (_ : Unit) i => laws_eqInt64S.l0 k l l i) (n := l.length) (r := true) (fun _ _ => True) ?_ ?_ 0 (Nat.zero_le _) () trivial
  · intro i s hi _ ih
    refine Ev.succ ?_
    simp only [laws_eqInt64S.l0]
    refine Ev.pos (by omega) (Ev.pos (by omega) (Ev.pos (by omega) (Ev.pos (by simp) ?_)))
    rw [wrap_succ hi (by omega)]
    exact ih () trivial
  · intro s _
    refine Ev.succ ?_
    simp only [laws_eqInt64S.l0]
    exact Ev.neg (by omega) (Ev.some rfl)
theorem markLoadS_ev (l : List S27) (a : Int) (h : l.length ≤ 1048576) (h0 : 0 ≤ a) (h1 : a ≤ 1000000000000) : ∃ l' : List S27, Ev (fun k => laws_markLoadS.f k l a) (a + 2 * (l.length : Int), l') := by
  unfold laws_markLoadS.f
  have key : ∀ d i (y0 : List S27), l.length - i = d → i ≤ l.length → y0.length = l.length → ∃ l' : List S27, Ev (fun k => laws_markLoadS.l0 k y0 (a + 2 * (i : Int)) (i : Int)) (a + 2 * (l.length : Int), l') := by
    intro d
    induction d with
    | zero =>
      intro i s hd hi hs
      refine ⟨s, Ev.succ ?_⟩
      simp only [laws_markLoadS.l0]
      exact Ev.neg (by omega) (Ev.some (by rw [show i = l.length by omega]))
    | succ d ih =>
      intro i y0 hd hi hs
      let y1 := y0.set (i : Int).toNat (⟨a + 2 * (i : Int), (rd_T27 y0 (i : Int)).f1⟩ : S27)
      let y2 := y1.set (i : Int).toNat (⟨(rd_T27 y1 (i : Int)).f0, a + 2 * (i : Int) + 1⟩ : S27)
      obtain ⟨l', hl'⟩ := ih (i + 1) y2 (by omega) (by omega) (by simp only [y1, y2, List.length_set]; exact hs)
      refine ⟨l', Ev.succ ?_⟩
      simp only [laws_markLoadS.l0, Option.bind_some]
      refine Ev.pos (by omega) (Ev.pos (by omega) ?_)
      rw [wrap_succ (show i < l.length by omega) (by omega), wrap_id (x := a + 2 * (i : Int) + 1) (by omega) (by omega), wrap_id (x := a + 2 * (i : Int) + 1 + 1) (by omega) (by omega)]
      rw [show a + 2 * (i : Int) + 1 + 1 = a + 2 * ((i + 1 : Nat) : Int) by omega]
      exact hl'
  obtain ⟨l', hl'⟩ := key l.length 0 l (by omega) (by omega) rfl
  refine ⟨l', ?_⟩
  simpa using hl'
theorem markInt64S_ev (l : List Int) (a : Int) (h : l.length ≤ 1048576) (h0 : 0 ≤ a) (h1 : a ≤ 1000000000000) : Ev (fun k => laws_markInt64S.f k l a) (a + (l.length : Int), cnt a l.length) := by
  unfold laws_markInt64S.f
  refine Ev.upto (F := fun k (s : List Int × Int) i => laws_markInt64S.l0 k s.1 s.2 i) (n := l.length) (r := (a + (l.length : Int), cnt a l.length)) (fun i s => s = (cnt a i ++ l.drop i, a + (i : Int))) ?_ ?_ 0 (Nat.zero_le _) (l, a) (by simp [cnt])
  · intro i s hi hs ih
    have hsl : (cnt a i ++ l.drop i).length = l.length := by simp [cnt_length]; omega
    refine Ev.succ ?_
    simp only [laws_markInt64S.l0, hs]
    refine Ev.pos (by omega) (Ev.pos (by omega) ?_)
    rw [wrap_succ hi (by omega), wrap_id (x := a + (i : Int) + 1) (by omega) (by omega)]
    refine ih (_, _) ?_
    rw [Int.toNat_natCast, set_mark _ _ _ _ (cnt_length a i).symm hi, cnt_succ]
    simp only [Prod.mk.injEq, true_and]
    omega
  · intro s hs
    have hsl : (cnt a l.length ++ l.drop l.length).length = l.length := by simp [cnt_length]
    refine Ev.succ ?_
    simp only [laws_markInt64S.l0, hs]
    exact Ev.neg (by omega) (Ev.some (by simp))
theorem heldInt64S_ev (n : Nat) (a : Int) (h : n ≤ 1048576) (h0 : 0 ≤ a) (h1 : a ≤ 1000000000000) : Ev (fun k => laws_heldInt64S.f k (cnt a n) a) (a + (n : Int)) := by
  unfold laws_heldInt64S.f
  have hl := cnt_length a n
  refine Ev.upto (F := fun k (s : Int) i => laws_heldInt64S.l0 k (cnt a n) s i) (n := n) (r := a + (n : Int)) (fun i s => s = a + (i : Int)) ?_ ?_ 0 (Nat.zero_le _) a (by simp)
  · intro i s hi hs ih
    refine Ev.succ ?_
    simp only [laws_heldInt64S.l0, hs]
    have hr : rd (cnt a n) (i : Int) = a + (i : Int) := by unfold rd; rw [Int.toNat_natCast, cnt_getD _ _ _ hi]
    refine Ev.pos (by omega) (Ev.pos (by omega) (Ev.pos hr ?_))
    rw [wrap_succ hi (by omega), wrap_id (x := a + (i : Int) + 1) (by omega) (by omega)]
    exact ih _ (by omega)
  · intro s hs
    refine Ev.succ ?_
    simp only [laws_heldInt64S.l0, hs]
    exact Ev.neg (by omega) (Ev.some rfl)
theorem isFetched_f (a0 a1 a2 a3 : Int) (l : List S27) : impl_isFetched.f a0 a1 a2 a3 l = some (okFetch a0 a1 a2 a3 l) := by
  unfold impl_isFetched.f impl_ValidLoads.f okFetch
  rw [implPref_f]
  cases okPref a0 a1 a2 a3 <;> cases (decide (l.length ≤ 60) && !(l.any xpLoad)) <;> rfl
theorem fetched_f {a0 a1 a2 a3 : Int} {l : List S27} (h : okFetch a0 a1 a2 a3 l = true) : impl_fetched.f a0 a1 a2 a3 l = some (fetchR a0 a1 a2 a3 l) := by
  unfold impl_fetched.f
  rw [if_pos h]
theorem do_f {a0 a1 a2 a3 : Int} {l : List S27} (h : okFetch a0 a1 a2 a3 l = true) : spec_l09Do.f a0 a1 a2 a3 l = some (fetchR a0 a1 a2 a3 l) := by
  unfold spec_l09Do.f
  rw [if_pos h]
/-- Both tests of the reference, one after the other. -/
theorem specOk_ev {β : Type} {f : Nat → Option β} {z r : β} (a0 a1 a2 a3 : Int) {l : List S27} (hl : l.length ≤ 1048576) (h : (okFetch a0 a1 a2 a3 l = true → Ev f r) ∧ (okFetch a0 a1 a2 a3 l = false → z = r)) : Ev (fun k => (spec_l09Is.f a0 a1 a2 a3).bind fun t => (if t = true then ((spec_l09Loads.f k l).bind fun t2 => (if t2 = true then f k else some z)) else some z)) r := by
  refine Ev.bindc (specPref_f a0 a1 a2 a3) ?_
  cases hp : okPref a0 a1 a2 a3 with
  | false => exact Ev.neg (by simp) (Ev.some (h.2 (by unfold okFetch; rw [hp]; rfl)))
  | true =>
    refine Ev.pos rfl (Ev.bind (specLoads0_ev l hl) ?_)
    cases hv : (decide (l.length ≤ 60) && !(l.any xpLoad)) with
    | false => exact Ev.neg (by simp) (Ev.some (h.2 (by unfold okFetch; rw [hp, hv]; rfl)))
    | true => exact Ev.pos rfl (h.1 (by unfold okFetch; rw [hp, hv]; rfl))
theorem end_okF {a0 a1 a2 a3 : Int} {l : List S27} (h : okFetch a0 a1 a2 a3 l = true) : (endF a0 a1 a2 a3 l).c.Ok a3.toNat ∧ (endF a0 a1 a2 a3 l).Bnd l.length ∧ l.length ≤ 60 := by
  obtain ⟨h1, h2, h3⟩ := okFetch_facts h
  obtain ⟨p1, p2, p3⟩ := pref_facts h1
  obtain ⟨v1, v2, v3, v4⟩ := lru_validF (n := a3.toNat) (by omega) (by omega)
  obtain ⟨q1, q2⟩ := start_okF a3.toNat
  obtain ⟨r1, r2⟩ := run_okF v1 v2 a2 (itemsF a0 a1 l) 0 _ (itemsF_ok a0 h3 p1.2) q1 q2
  rw [itemsF_len, Nat.zero_add] at r2
  exact ⟨r1, r2, h2⟩
def outcomesV (a0 a1 a2 a3 : Int) (l : List S27) : List Int × Bool := if okFetch a0 a1 a2 a3 l = true then ((endF a0 a1 a2 a3 l).out, true) else ([], false)
theorem specOutcomes_ev (a0 a1 a2 a3 : Int) {l : List S27} (hl : l.length ≤ 1048576) : Ev (fun k => spec_OutcomesOf.f k a0 a1 a2 a3 l) (outcomesV a0 a1 a2 a3 l) := by
  unfold spec_OutcomesOf.f
  refine specOk_ev a0 a1 a2 a3 hl ⟨fun h => ?_, fun h => ?_⟩
  · rw [do_f h]
    unfold outcomesV
    rw [if_pos h]
    exact Ev.some rfl
  · unfold outcomesV
    rw [h]; rfl
theorem implOutcomes_f (a0 a1 a2 a3 : Int) (l : List S27) : impl_OutcomesOf.f a0 a1 a2 a3 l = some (outcomesV a0 a1 a2 a3 l) := by
  unfold impl_OutcomesOf.f outcomesV
  rw [isFetched_f]
  cases h : okFetch a0 a1 a2 a3 l with
  | false => rfl
  | true => rw [fetched_f h]; rfl
theorem outcomes_small (a0 a1 a2 a3 : Int) (l : List S27) : (outcomesV a0 a1 a2 a3 l).1.length ≤ 1048576 := by
  unfold outcomesV
  split
  · rename_i h
    obtain ⟨_, h2, h3⟩ := end_okF h
    have := h2.out
    show (endF a0 a1 a2 a3 l).out.length ≤ 1048576
    omega
  · exact Nat.zero_le _
theorem FnExactOutcomesOf : laws_FnExactOutcomesOf.Pure := by
  intro a0 a1 a2 a3 l _ _ _ _ ⟨hl, _⟩
  refine Ev.rounds ?_
  unfold laws_FnExactOutcomesOf.f
  by_cases hb : (1048576 : Int) < l.length
  · refine Ev.bindc (szLoadS_f l 1048576 (by omega) (by omega) hl) ?_
    rw [if_pos hb]
    exact Ev.pos (by omega) (Ev.some rfl)
  · have hn : l.length ≤ 1048576 := by omega
    have hm : (l.map cvLoad).length ≤ 1048576 := by simpa using hn
    have h1 := toLoadS_ev l hn
    have h2 := specOutcomes_ev a0 a1 a2 a3 hm
    have h3 := implOutcomes_f a0 a1 a2 a3 (l.map cvLoad)
    have hal := outcomes_small a0 a1 a2 a3 (l.map cvLoad)
    obtain ⟨⟨a, b⟩, hab⟩ : ∃ q, q = outcomesV a0 a1 a2 a3 (l.map cvLoad) := ⟨_, rfl⟩
    rw [← hab] at h2 h3 hal
    have hal : a.length ≤ 1048576 := hal
    have hp : laws_toPrefetcher.f a0 a1 a2 a3 = some (a0, a1, a2, a3) := rfl
    have h4 := eqInt64S_ev a hal
    have h5 := eqLoadS_ev (l.map cvLoad) hm
    obtain ⟨l', h6⟩ := markLoadS_ev (l.map cvLoad) 1 hm (by omega) (by omega)
    have h7 := markInt64S_ev a 1 hal (by omega) (by omega)
    have h8 := heldInt64S_ev a.length 1 hal (by omega) (by omega)
    refine Ev.bindc (szLoadS_f l 1048576 (by omega) (by omega) hl) ?_
    rw [if_neg hb]
    refine Ev.neg (by omega) (Ev.bindc hp (Ev.bind h1 (Ev.bind h2 (Ev.bind h1 (Ev.bindc hp (Ev.bindc h3 (Ev.bind h4 (Ev.pos rfl (Ev.succ ?_)))))))))
    simp only [laws_FnExactOutcomesOf.j0]
    refine Ev.neg (by simp) (Ev.bind h1 (Ev.bind h5 (Ev.pos rfl (Ev.bind h6 (Ev.neg (by dsimp only; omega) (Ev.bind h4 (Ev.pos rfl (Ev.succ ?_))))))))
    simp only [laws_FnExactOutcomesOf.j1]
    refine Ev.neg (by simp) (Ev.bind h7 (Ev.bind h8 (Ev.neg (by omega) (Ev.pos rfl (Ev.bindc hp (Ev.bind h1 (Ev.bindc h3 (Ev.bind h4 (Ev.pos rfl (Ev.succ ?_))))))))))
    simp only [laws_FnExactOutcomesOf.j2]
    exact Ev.neg (by simp) (Ev.bind h8 (Ev.neg (by omega) (Ev.pos rfl (Ev.some rfl))))
end Go.Proofs.Ytpooojgeonpmnaa.Pure
