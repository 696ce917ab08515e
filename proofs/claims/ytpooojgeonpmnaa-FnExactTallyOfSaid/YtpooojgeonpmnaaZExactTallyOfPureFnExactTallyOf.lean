/- The statement FnExactTallyOf over lists alone: both programs tell the tally of one plain run of the loads. -/
import Derived.Test.YtpooojgeonpmnaaZExactTallyOfPFnExactTallyOfx
import Derived.Test.YtpooojgeonpmnaaZExactTallyOfX2
namespace Go.Proofs.Ytpooojgeonpmnaa.Pure
open Go.RowKit Go.Proofs.YtpooojgeonpmnaaW.PrintWords Go.Proofs.Ytpooojgeonpmnaa.PFnExactTallyOf
set_option linter.unusedVariables false
set_option linter.unusedSimpArgs false
theorem szLoadS_f (l : List S89) (a : Int) (h0 : 0 ≤ a) (h1 : a ≤ 1048576) (hl : l.length ≤ 9223372036854775807) : laws_szLoadS.f l a = some (if a < l.length then -1 else a - l.length) := by
  unfold laws_szLoadS.f
  rw [wrap_id (by omega) (by omega)]
  by_cases h : a < l.length
  · rw [if_pos (by omega), if_pos h]
  · rw [if_neg (by omega), if_neg h]
def cvLoad (x : S89) : S27 := ⟨x.f0, x.f1⟩
theorem toLoadS_ev (l : List S89) (h : l.length ≤ 1048576) : Ev (fun k => laws_toLoadS.f k l) (l.map cvLoad) := by
  unfold laws_toLoadS.f
  refine Ev.pos (by omega) (Ev.pos (by omega) ?_)
  refine Ev.upto (F := fun k s i => laws_toLoadS.l0 k l s i) (n := l.length) (r := l.map cvLoad) (fun i s => s = (l.take i).map cvLoad ++ List.replicate (l.length - i) z27) ?_ ?_ 0 (Nat.zero_le _) _ (by simp)
  · intro i s hi hs ih
    have hsl : s.length = l.length := by rw [hs]; simp; omega
    refine Ev.succ ?_
    simp only [laws_toLoadS.l0]
    refine Ev.pos (by omega) (Ev.pos (by omega) (Ev.bindc (a := ((rd_T89 l (i : Int)).f0, (rd_T89 l (i : Int)).f1)) rfl (Ev.pos (by omega) ?_)))
    rw [wrap_succ hi (by omega)]
    refine ih _ ?_
    rw [hs, Int.toNat_natCast]
    exact fill_next cvLoad l z27 z89 i hi _ rfl
  · intro s hs
    refine Ev.succ ?_
    simp only [laws_toLoadS.l0]
    exact Ev.neg (by omega) (Ev.some (by rw [hs]; simp))
theorem eqLoadS_ev (l : List S27) (h : l.length ≤ 1048576) : Ev (fun k => laws_eqLoadS.f k l l) true := by
  unfold laws_eqLoadS.f
  refine Ev.pos rfl ?_
  refine Ev.upto (F := fun k (_ : Unit) i => laws_eqLoadS.l0 k l l i) (n := l.length) (r := true) (fun _ _ => True) ?_ ?_ 0 (Nat.zero_le _) () trivial
  · intro i s hi _ ih
    refine Ev.succ ?_
    simp only [laws_eqLoadS.l0]
    refine Ev.pos (by omega) (Ev.pos (by omega) (Ev.pos (by omega) (Ev.bindc (a := true) (by simp [laws_eqLoad.f]) (Ev.pos rfl ?_))))
    rw [wrap_succ hi (by omega)]
    exact ih () trivial
  · intro s _
    refine Ev.succ ?_
    simp only [laws_eqLoadS.l0]
    exact Ev.neg (by omega) (Ev.some rfl)
theorem isFetched_f (a0 a1 a2 a3 : Int) (l : List S27) : impl_isFetched.f a0 a1 a2 a3 l = some (okFetch a0 a1 a2 a3 l) := by
  unfold impl_isFetched.f impl_ValidLoads.f okFetch
  rw [implPref_f]
  cases okPref a0 a1 a2 a3 <;> cases (decide (l.length ≤ 60) && !(l.any xpLoad)) <;> rfl
theorem fetched_f {a0 a1 a2 a3 : Int} {l : List S27} (h : okFetch a0 a1 a2 a3 l = true) : impl_fetched.f a0 a1 a2 a3 l = some (fetchR a0 a1 a2 a3 l) := by
  unfold impl_fetched.f
  rw [if_pos h]
theorem do_f {a0 a1 a2 a3 : Int} {l : List S27} (h : okFetch a0 a1 a2 a3 l = true) : spec_l09Do.f a0 a1 a2 a3 l = some (fetchR a0 a1 a2 a3 l) := by
  unfold spec_l09Do.f
  rw [if_pos h]
/-- Both tests of the reference, one after the other. -/
theorem specOk_ev {β : Type} {f : Nat → Option β} {z r : β} (a0 a1 a2 a3 : Int) {l : List S27} (hl : l.length ≤ 1048576) (h : (okFetch a0 a1 a2 a3 l = true → Ev f r) ∧ (okFetch a0 a1 a2 a3 l = false → z = r)) : Ev (fun k => (spec_l09Is.f a0 a1 a2 a3).bind fun t => (if t = true then ((spec_l09Loads.f k l).bind fun t2 => (if t2 = true then f k else some z)) else some z)) r := by
  refine Ev.bindc (specPref_f a0 a1 a2 a3) ?_
  cases hp : okPref a0 a1 a2 a3 with
  | false => exact Ev.neg (by simp) (Ev.some (h.2 (by unfold okFetch; rw [hp]; rfl)))
  | true =>
    refine Ev.pos rfl (Ev.bind (specLoads0_ev l hl) ?_)
    cases hv : (decide (l.length ≤ 60) && !(l.any xpLoad)) with
    | false => exact Ev.neg (by simp) (Ev.some (h.2 (by unfold okFetch; rw [hp, hv]; rfl)))
    | true => exact Ev.pos rfl (h.1 (by unfold okFetch; rw [hp, hv]; rfl))
def tallyV (a0 a1 a2 a3 : Int) (l : List S27) : Int × Int × Int × Int × Int × Int × Bool := if okFetch a0 a1 a2 a3 l = true then ((endF a0 a1 a2 a3 l).n0, (endF a0 a1 a2 a3 l).n1, (endF a0 a1 a2 a3 l).n2, (endF a0 a1 a2 a3 l).n3, (endF a0 a1 a2 a3 l).is, uselessF (endF a0 a1 a2 a3 l), true) else (0, 0, 0, 0, 0, 0, false)
theorem implTally_f (a0 a1 a2 a3 : Int) (l : List S27) : impl_TallyOf.f a0 a1 a2 a3 l = some (tallyV a0 a1 a2 a3 l) := by
  unfold impl_TallyOf.f tallyV
  rw [isFetched_f]
  cases h : okFetch a0 a1 a2 a3 l with
  | false => rfl
  | true => rw [fetched_f h]; rfl
theorem specTally_ev (a0 a1 a2 a3 : Int) {l : List S27} (hl : l.length ≤ 1048576) : Ev (fun k => spec_TallyOf.f k a0 a1 a2 a3 l) (tallyV a0 a1 a2 a3 l) := by
  unfold spec_TallyOf.f
  refine specOk_ev a0 a1 a2 a3 hl ⟨fun h => ?_, fun h => ?_⟩
  · rw [do_f h]
    unfold tallyV
    rw [if_pos h]
    exact Ev.some rfl
  · unfold tallyV
    rw [h]; rfl
theorem eqTally_f (a b c d e f : Int) : laws_eqTally.f a b c d e f a b c d e f = some true := by
  unfold laws_eqTally.f
  simp
theorem FnExactTallyOf : laws_FnExactTallyOf.Pure := by
  intro a0 a1 a2 a3 l _ _ _ _ ⟨hl, _⟩
  refine Ev.rounds ?_
  unfold laws_FnExactTallyOf.f
  by_cases hb : (1048576 : Int) < l.length
  · refine Ev.bindc (szLoadS_f l 1048576 (by omega) (by omega) hl) ?_
    rw [if_pos hb]
    exact Ev.pos (by omega) (Ev.some rfl)
  · have hn : l.length ≤ 1048576 := by omega
    have hm : (l.map cvLoad).length ≤ 1048576 := by simpa using hn
    have h1 := toLoadS_ev l hn
    have h2 := specTally_ev a0 a1 a2 a3 hm
    have h3 := implTally_f a0 a1 a2 a3 (l.map cvLoad)
    have hp : laws_toPrefetcher.f a0 a1 a2 a3 = some (a0, a1, a2, a3) := rfl
    have h5 := eqLoadS_ev (l.map cvLoad) hm
    refine Ev.bindc (szLoadS_f l 1048576 (by omega) (by omega) hl) ?_
    rw [if_neg hb]
    refine Ev.neg (by omega) (Ev.bindc hp (Ev.bind h1 (Ev.bind h2 (Ev.bind h1 (Ev.bindc hp (Ev.bindc h3 (Ev.bindc (eqTally_f _ _ _ _ _ _) (Ev.pos rfl (Ev.succ ?_)))))))))
    simp only [laws_FnExactTallyOf.j0]
    exact Ev.neg (by simp) (Ev.bind h1 (Ev.bind h5 (Ev.pos rfl (Ev.some rfl))))
end Go.Proofs.Ytpooojgeonpmnaa.Pure
