/- The statement FnExactAccuracyOf over lists alone: both programs tell the accuracy of one plain run of the loads, in least terms. -/
import Derived.Test.YtpooojgeonpmnaaZExactAccuracyOfPFnExactAccuracyOfx
import Derived.Test.YtpooojgeonpmnaaZExactAccuracyOfX2
namespace Go.Proofs.Ytpooojgeonpmnaa.Pure
open Go.RowKit Go.Proofs.YtpooojgeonpmnaaW.PrintWords Go.Proofs.Ytpooojgeonpmnaa.PFnExactAccuracyOf
set_option linter.unusedVariables false
set_option linter.unusedSimpArgs false
theorem szLoadS_f (l : List S89) (a : Int) (h0 : 0 ≤ a) (h1 : a ≤ 1048576) (hl : l.length ≤ 9223372036854775807) : laws_szLoadS.f l a = some (if a < l.length then -1 else a - l.length) := by
  unfold laws_szLoadS.f
  rw [wrap_id (by omega) (by omega)]
  by_cases h : a < l.length
  · rw [if_pos (by omega), if_pos h]
  · rw [if_neg (by omega), if_neg h]
def cvLoad (x : S89) : S27 := ⟨x.f0, x.f1⟩
theorem toLoadS_ev (l : List S89) (h : l.length ≤ 1048576) : Ev (fun k => laws_toLoadS.f k l) (l.map cvLoad) := by
  unfold laws_toLoadS.f
  refine Ev.pos (by omega) (Ev.pos (by omega) ?_)
  refine Ev.upto (F := fun k s i => laws_toLoadS.l0 k l s i) (n := l.length) (r := l.map cvLoad) (fun i s => s = (l.take i).map cvLoad ++ List.replicate (l.length - i) z27) ?_ ?_ 0 (Nat.zero_le _) _ (by simp)
  · intro i s hi hs ih
    have hsl : s.length = l.length := by rw [hs]; simp; omega
    refine Ev.succ ?_
    simp only [laws_toLoadS.l0]
    refine Ev.pos (by omega) (Ev.pos (by omega) (Ev.bindc (a := ((rd_T89 l (i : Int)).f0, (rd_T89 l (i : Int)).f1)) rfl (Ev.pos (by omega) ?_)))
    rw [wrap_succ hi (by omega)]
    refine ih _ ?_
    rw [hs, Int.toNat_natCast]
    exact fill_next cvLoad l z27 z89 i hi _ rfl
  · intro s hs
    refine Ev.succ ?_
    simp only [laws_toLoadS.l0]
    exact Ev.neg (by omega) (Ev.some (by rw [hs]; simp))
theorem eqLoadS_ev (l : List S27) (h : l.length ≤ 1048576) : Ev (fun k => laws_eqLoadS.f k l l) true := by
  unfold laws_eqLoadS.f
  refine Ev.pos rfl ?_
  refine Ev.upto (F := fun k (_ : Unit) i => laws_eqLoadS.l0 k l l i) (n := l.length) (r := true) (fun _ _ => True) ?_ ?_ 0 (Nat.zero_le _) () trivial
  · intro i s hi _ ih
    refine Ev.succ ?_
    simp only [laws_eqLoadS.l0]
    refine Ev.pos (by omega) (Ev.pos (by omega) (Ev.pos (by omega) (Ev.bindc (a := true) (by simp [laws_eqLoad.f]) (Ev.pos rfl ?_))))
    rw [wrap_succ hi (by omega)]
    exact ih () trivial
  · intro s _
    refine Ev.succ ?_
    simp only [laws_eqLoadS.l0]
    exact Ev.neg (by omega) (Ev.some rfl)
theorem isFetched_f (a0 a1 a2 a3 : Int) (l : List S27) : impl_isFetched.f a0 a1 a2 a3 l = some (okFetch a0 a1 a2 a3 l) := by
  unfold impl_isFetched.f impl_ValidLoads.f okFetch
  rw [implPref_f]
  cases okPref a0 a1 a2 a3 <;> cases (decide (l.length ≤ 60) && !(l.any xpLoad)) <;> rfl
theorem fetched_f {a0 a1 a2 a3 : Int} {l : List S27} (h : okFetch a0 a1 a2 a3 l = true) : impl_fetched.f a0 a1 a2 a3 l = some (fetchR a0 a1 a2 a3 l) := by
  unfold impl_fetched.f
  rw [if_pos h]
theorem do_f {a0 a1 a2 a3 : Int} {l : List S27} (h : okFetch a0 a1 a2 a3 l = true) : spec_l09Do.f a0 a1 a2 a3 l = some (fetchR a0 a1 a2 a3 l) := by
  unfold spec_l09Do.f
  rw [if_pos h]
theorem end_okF {a0 a1 a2 a3 : Int} {l : List S27} (h : okFetch a0 a1 a2 a3 l = true) : (endF a0 a1 a2 a3 l).c.Ok a3.toNat ∧ (endF a0 a1 a2 a3 l).Bnd l.length ∧ l.length ≤ 60 := by
  obtain ⟨h1, h2, h3⟩ := okFetch_facts h
  obtain ⟨p1, p2, p3⟩ := pref_facts h1
  obtain ⟨v1, v2, v3, v4⟩ := lru_validF (n := a3.toNat) (by omega) (by omega)
  obtain ⟨q1, q2⟩ := start_okF a3.toNat
  obtain ⟨r1, r2⟩ := run_okF v1 v2 a2 (itemsF a0 a1 l) 0 _ (itemsF_ok a0 h3 p1.2) q1 q2
  rw [itemsF_len, Nat.zero_add] at r2
  exact ⟨r1, r2, h2⟩
def tallyV (a0 a1 a2 a3 : Int) (l : List S27) : Int × Int × Int × Int × Int × Int × Bool := if okFetch a0 a1 a2 a3 l = true then ((endF a0 a1 a2 a3 l).n0, (endF a0 a1 a2 a3 l).n1, (endF a0 a1 a2 a3 l).n2, (endF a0 a1 a2 a3 l).n3, (endF a0 a1 a2 a3 l).is, uselessF (endF a0 a1 a2 a3 l), true) else (0, 0, 0, 0, 0, 0, false)
theorem implTally_f (a0 a1 a2 a3 : Int) (l : List S27) : impl_TallyOf.f a0 a1 a2 a3 l = some (tallyV a0 a1 a2 a3 l) := by
  unfold impl_TallyOf.f tallyV
  rw [isFetched_f]
  cases h : okFetch a0 a1 a2 a3 l with
  | false => rfl
  | true => rw [fetched_f h]; rfl
theorem tmod_nat (a b : Nat) : Int.tmod (a : Int) (b : Int) = ((a % b : Nat) : Int) := by
  rw [Int.tmod_eq_emod_of_nonneg (Int.natCast_nonneg a)]
  exact (Int.natCast_emod a b).symm
theorem implDivisor_ev : ∀ (b a : Nat), Ev (fun k => impl_divisor.l0 k (a : Int) (b : Int)) ((Nat.gcd a b : Nat) : Int) := by
  intro b
  induction b using Nat.strongRecOn with
  | _ b ih =>
    intro a
    refine Ev.succ ?_
    simp only [impl_divisor.l0]
    by_cases hb : b = 0
    · subst hb
      exact Ev.pos (by simp) (Ev.some (by simp))
    · refine Ev.neg (by omega) ?_
      rw [tmod_nat a b, Nat.gcd_comm a b, Nat.gcd_rec b a, Nat.gcd_comm (a % b) b]
      exact ih (a % b) (Nat.mod_lt _ (by omega)) b
/-- A ratio in least terms, as both programs tell it. -/
def ratioV (a b : Int) : Int × Int × Bool := if b = 0 then (0, 0, false) else (wrap64 (Int.tdiv a ((Nat.gcd a.toNat b.toNat : Nat) : Int)), wrap64 (Int.tdiv b ((Nat.gcd a.toNat b.toNat : Nat) : Int)), true)
theorem gcd_pos {a b : Int} (hb : 0 ≤ b) (h : ¬ b = 0) : ¬ ((Nat.gcd a.toNat b.toNat : Nat) : Int) = 0 := by
  have := Nat.gcd_pos_of_pos_right a.toNat (show 0 < b.toNat by omega)
  omega
theorem in_rangeF (a lo hi : Int) : impl_inRange.f a lo hi = some (decide (lo ≤ a) && decide (a ≤ hi)) := by
  rw [in_impl]
theorem isRatio_f {a b : Int} (ha : 0 ≤ a ∧ a ≤ 1000000) (hb : 0 ≤ b ∧ b ≤ 1000000) : impl_isRatio.f a b = some (decide (1 ≤ b)) := by
  unfold impl_isRatio.f
  simp only [in_rangeF, Option.bind_some]
  rw [decide_eq_true ha.1, decide_eq_true (show a ≤ 1000000000 by omega), decide_eq_true (show b ≤ 1000000000 by omega)]
  simp
theorem implRatio_ev {a b : Int} (ha : 0 ≤ a ∧ a ≤ 1000000) (hb : 0 ≤ b ∧ b ≤ 1000000) : Ev (fun k => impl_ReduceRatio.f k a b) (ratioV a b) := by
  unfold impl_ReduceRatio.f ratioV
  refine Ev.bindc (isRatio_f ha hb) ?_
  by_cases h : b = 0
  · rw [if_pos h]
    exact Ev.neg (by simp; omega) (Ev.some rfl)
  · rw [if_neg h]
    refine Ev.pos (by simp; omega) ?_
    have e := implDivisor_ev b.toNat a.toNat
    rw [Int.toNat_of_nonneg ha.1, Int.toNat_of_nonneg hb.1] at e
    have e2 : Ev (fun k => impl_divisor.f k a b) ((Nat.gcd a.toNat b.toNat : Nat) : Int) := e
    exact Ev.bind e2 (Ev.neg (gcd_pos hb.1 h) (Ev.some rfl))
theorem specDivisor_ev : ∀ (a b : Nat), Ev (fun k => spec_l01Divisor.l0 k (a : Int) (b : Int)) ((Nat.gcd a b : Nat) : Int) := by
  intro a
  induction a using Nat.strongRecOn with
  | _ a ih =>
    intro b
    refine Ev.succ ?_
    simp only [spec_l01Divisor.l0]
    by_cases ha : a = 0
    · subst ha
      exact Ev.neg (by simp) (Ev.some (by simp))
    · refine Ev.pos (by omega) (Ev.neg (by omega) ?_)
      rw [tmod_nat b a, Nat.gcd_rec a b]
      exact ih (b % a) (Nat.mod_lt _ (by omega)) a
theorem specDiv_ev {a b : Int} (ha : 0 ≤ a) (hb : 0 ≤ b) : Ev (fun k => spec_l01Divisor.f k a b) ((Nat.gcd a.toNat b.toNat : Nat) : Int) := by
  have e := specDivisor_ev a.toNat b.toNat
  rw [Int.toNat_of_nonneg ha, Int.toNat_of_nonneg hb] at e
  exact e
theorem accur_range {a0 a1 a2 a3 : Int} {l : List S27} (h : okFetch a0 a1 a2 a3 l = true) : (0 ≤ (endF a0 a1 a2 a3 l).is ∧ (endF a0 a1 a2 a3 l).is ≤ 240) ∧ 0 ≤ uselessF (endF a0 a1 a2 a3 l) ∧ uselessF (endF a0 a1 a2 a3 l) ≤ (endF a0 a1 a2 a3 l).is := by
  obtain ⟨_, h2, h3⟩ := end_okF h
  have := h2.is; have := h2.all; have := h2.us
  unfold uselessF
  omega
def accurV (a0 a1 a2 a3 : Int) (l : List S27) : Int × Int × Bool := if okFetch a0 a1 a2 a3 l = true then ratioV ((endF a0 a1 a2 a3 l).is - uselessF (endF a0 a1 a2 a3 l)) (endF a0 a1 a2 a3 l).is else (0, 0, false)
theorem implAccur_ev (a0 a1 a2 a3 : Int) (l : List S27) : Ev (fun k => impl_AccuracyOf.f k a0 a1 a2 a3 l) (accurV a0 a1 a2 a3 l) := by
  unfold impl_AccuracyOf.f accurV
  refine Ev.bindc (implTally_f a0 a1 a2 a3 l) ?_
  unfold tallyV
  cases h : okFetch a0 a1 a2 a3 l with
  | false => exact Ev.neg (by simp) (Ev.some rfl)
  | true =>
    obtain ⟨r1, r2, r3⟩ := accur_range h
    rw [if_pos rfl, if_pos rfl]
    refine Ev.pos rfl ?_
    have e1 : wrap64 ((endF a0 a1 a2 a3 l).is - uselessF (endF a0 a1 a2 a3 l)) = (endF a0 a1 a2 a3 l).is - uselessF (endF a0 a1 a2 a3 l) := wrap_id (by omega) (by omega)
    dsimp only
    rw [e1]
    exact Ev.bind (implRatio_ev ⟨by omega, by omega⟩ ⟨r1.1, by omega⟩) (Ev.some rfl)
theorem specAccur_ev (a0 a1 a2 a3 : Int) {l : List S27} (hl : l.length ≤ 1048576) : Ev (fun k => spec_AccuracyOf.f k a0 a1 a2 a3 l) (accurV a0 a1 a2 a3 l) := by
  unfold spec_AccuracyOf.f accurV
  refine Ev.bindc (specPref_f a0 a1 a2 a3) ?_
  have hbad : ∀ (hx : okFetch a0 a1 a2 a3 l = false), Ev (fun k => spec_AccuracyOf.j0 k l true a0 a1 a2 a3) (if okFetch a0 a1 a2 a3 l = true then ratioV ((endF a0 a1 a2 a3 l).is - uselessF (endF a0 a1 a2 a3 l)) (endF a0 a1 a2 a3 l).is else (0, 0, false)) := fun hx => by
    refine Ev.succ ?_
    simp only [spec_AccuracyOf.j0]
    exact Ev.pos (by simp) (Ev.some (by rw [hx]; rfl))
  cases hp : okPref a0 a1 a2 a3 with
  | false => exact Ev.neg (by simp) (hbad (by unfold okFetch; rw [hp]; rfl))
  | true =>
    refine Ev.pos rfl (Ev.bind (specLoads0_ev l hl) ?_)
    cases hv : (decide (l.length ≤ 60) && !(l.any xpLoad)) with
    | false => exact hbad (by unfold okFetch; rw [hp, hv]; rfl)
    | true =>
      have h : okFetch a0 a1 a2 a3 l = true := by unfold okFetch; rw [hp, hv]; rfl
      rw [if_pos h]
      refine Ev.succ ?_
      simp only [spec_AccuracyOf.j0]
      refine Ev.neg (by simp) (Ev.bindc (do_f h) ?_)
      obtain ⟨r1, r2, r3⟩ := accur_range h
      have e1 : wrap64 ((endF a0 a1 a2 a3 l).is - uselessF (endF a0 a1 a2 a3 l)) = (endF a0 a1 a2 a3 l).is - uselessF (endF a0 a1 a2 a3 l) := wrap_id (by omega) (by omega)
      unfold fetchR
      dsimp only
      rw [e1]
      unfold ratioV
      by_cases hz : (endF a0 a1 a2 a3 l).is = 0
      · rw [if_pos hz]
        exact Ev.pos hz (Ev.some rfl)
      · rw [if_neg hz]
        exact Ev.neg hz (Ev.bind (specDiv_ev (by omega) r1.1) (Ev.neg (gcd_pos r1.1 hz) (Ev.some rfl)))
theorem FnExactAccuracyOf : laws_FnExactAccuracyOf.Pure := by
  intro a0 a1 a2 a3 l _ _ _ _ ⟨hl, _⟩
  refine Ev.rounds ?_
  unfold laws_FnExactAccuracyOf.f
  by_cases hb : (1048576 : Int) < l.length
  · refine Ev.bindc (szLoadS_f l 1048576 (by omega) (by omega) hl) ?_
    rw [if_pos hb]
    exact Ev.pos (by omega) (Ev.some rfl)
  · have hn : l.length ≤ 1048576 := by omega
    have hm : (l.map cvLoad).length ≤ 1048576 := by simpa using hn
    have h1 := toLoadS_ev l hn
    have h2 := specAccur_ev a0 a1 a2 a3 hm
    have h3 := implAccur_ev a0 a1 a2 a3 (l.map cvLoad)
    have hp : laws_toPrefetcher.f a0 a1 a2 a3 = some (a0, a1, a2, a3) := rfl
    have h5 := eqLoadS_ev (l.map cvLoad) hm
    refine Ev.bindc (szLoadS_f l 1048576 (by omega) (by omega) hl) ?_
    rw [if_neg hb]
    refine Ev.neg (by omega) (Ev.bindc hp (Ev.bind h1 (Ev.bind h2 (Ev.bind h1 (Ev.bindc hp (Ev.bind h3 (Ev.pos rfl (Ev.pos rfl (Ev.succ ?_)))))))))
    simp only [laws_FnExactAccuracyOf.j0]
    exact Ev.neg (by simp) (Ev.bind h1 (Ev.bind h5 (Ev.pos rfl (Ev.some rfl))))
end Go.Proofs.Ytpooojgeonpmnaa.Pure
