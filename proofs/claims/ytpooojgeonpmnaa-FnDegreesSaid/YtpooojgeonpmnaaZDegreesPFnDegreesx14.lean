import Derived.Test.YtpooojgeonpmnaaZDegreesPFnDegreesx0
import Derived.Test.YtpooojgeonpmnaaZDegreesPFnDegreesx1
import Derived.Test.YtpooojgeonpmnaaZDegreesPFnDegreesx9
import Derived.Test.YtpooojgeonpmnaaZDegreesPFnDegreesx11
import Derived.Test.YtpooojgeonpmnaaZDegreesPFnDegreesx12
import Derived.Test.YtpooojgeonpmnaaZDegreesPFnDegreesx13
namespace Go.Proofs.Ytpooojgeonpmnaa.PFnDegrees
open Go.RowKit Go.Proofs.YtpooojgeonpmnaaW.PrintWords Go.Proofs.YtpooojgeonpmnaaW.PrintLast Go.Proofs.YtpooojgeonpmnaaW.PrintMore
attribute [local go_sem] max2_int min2_int max_two min_two max_three min_three max_four min_four   -- for this text's walks alone
set_option linter.unusedVariables false
set_option linter.unusedSimpArgs false
theorem isFetched_f (a0 a1 a2 a3 : Int) (l : List S27) : impl_isFetched.f a0 a1 a2 a3 l = some (okFetch a0 a1 a2 a3 l) := by
 unfold impl_isFetched.f impl_ValidLoads.f okFetch
 rw [implPref_f]
 cases okPref a0 a1 a2 a3 <;> cases (decide (l.length ≤ 60) && !(l.any xpLoad)) <;> rfl
theorem fetched_f {a0 a1 a2 a3 : Int} {l : List S27} (h : okFetch a0 a1 a2 a3 l = true) : impl_fetched.f a0 a1 a2 a3 l = some (fetchR a0 a1 a2 a3 l) := by
 unfold impl_fetched.f
 rw [if_pos h]
theorem end_okF {a0 a1 a2 a3 : Int} {l : List S27} (h : okFetch a0 a1 a2 a3 l = true) : (endF a0 a1 a2 a3 l).c.Ok a3.toNat ∧ (endF a0 a1 a2 a3 l).Bnd l.length ∧ l.length ≤ 60 := by
 obtain ⟨h1, h2, h3⟩ := okFetch_facts h
 obtain ⟨p1, p2, p3⟩ := pref_facts h1
 obtain ⟨v1, v2, v3, v4⟩ := lru_validF (n := a3.toNat) (by omega) (by omega)
 obtain ⟨q1, q2⟩ := start_okF a3.toNat
 obtain ⟨r1, r2⟩ := run_okF v1 v2 a2 (itemsF a0 a1 l) 0 _ (itemsF_ok a0 h3 p1.2) q1 q2
 rw [itemsF_len, Nat.zero_add] at r2
 exact ⟨r1, r2, h2⟩
def tallyV (a0 a1 a2 a3 : Int) (l : List S27) : Int × Int × Int × Int × Int × Int × Bool := if okFetch a0 a1 a2 a3 l = true then ((endF a0 a1 a2 a3 l).n0, (endF a0 a1 a2 a3 l).n1, (endF a0 a1 a2 a3 l).n2, (endF a0 a1 a2 a3 l).n3, (endF a0 a1 a2 a3 l).is, uselessF (endF a0 a1 a2 a3 l), true) else (0, 0, 0, 0, 0, 0, false)
theorem implTally_f (a0 a1 a2 a3 : Int) (l : List S27) : impl_TallyOf.f a0 a1 a2 a3 l = some (tallyV a0 a1 a2 a3 l) := by
 unfold impl_TallyOf.f tallyV
 rw [isFetched_f]
 cases h : okFetch a0 a1 a2 a3 l with
 | false => rfl
 | true => rw [fetched_f h]; rfl
theorem tmod_nat (a b : Nat) : Int.tmod (a : Int) (b : Int) = ((a % b : Nat) : Int) := by
 rw [Int.tmod_eq_emod_of_nonneg (Int.natCast_nonneg a)]
 exact (Int.natCast_emod a b).symm
theorem implDivisor_ev : ∀ (b a : Nat), Ev (fun k => impl_divisor.l0 k (a : Int) (b : Int)) ((Nat.gcd a b : Nat) : Int) := by
 intro b
 induction b using Nat.strongRecOn with
 | _ b ih =>
  intro a
  refine Ev.succ ?_
  simp only [impl_divisor.l0]
  by_cases hb : b = 0
  ·subst hb
   exact Ev.pos (by simp) (Ev.some (by simp))
  ·refine Ev.neg (by omega) ?_
   rw [tmod_nat a b, Nat.gcd_comm a b, Nat.gcd_rec b a, Nat.gcd_comm (a % b) b]
   exact ih (a % b) (Nat.mod_lt _ (by omega)) b
/-- A ratio in least terms, as both programs tell it. -/
def ratioV (a b : Int) : Int × Int × Bool := if b = 0 then (0, 0, false) else (wrap64 (Int.tdiv a ((Nat.gcd a.toNat b.toNat : Nat) : Int)), wrap64 (Int.tdiv b ((Nat.gcd a.toNat b.toNat : Nat) : Int)), true)
theorem gcd_pos {a b : Int} (hb : 0 ≤ b) (h : ¬ b = 0) : ¬ ((Nat.gcd a.toNat b.toNat : Nat) : Int) = 0 := by
 have := Nat.gcd_pos_of_pos_right a.toNat (show 0 < b.toNat by omega)
 omega
theorem in_rangeF (a lo hi : Int) : impl_inRange.f a lo hi = some (decide (lo ≤ a) && decide (a ≤ hi)) := by
 rw [in_impl]
theorem isRatio_f {a b : Int} (ha : 0 ≤ a ∧ a ≤ 1000000) (hb : 0 ≤ b ∧ b ≤ 1000000) : impl_isRatio.f a b = some (decide (1 ≤ b)) := by
 unfold impl_isRatio.f
 simp only [in_rangeF, Option.bind_some]
 rw [decide_eq_true ha.1, decide_eq_true (show a ≤ 1000000000 by omega), decide_eq_true (show b ≤ 1000000000 by omega)]
 simp
theorem implRatio_ev {a b : Int} (ha : 0 ≤ a ∧ a ≤ 1000000) (hb : 0 ≤ b ∧ b ≤ 1000000) : Ev (fun k => impl_ReduceRatio.f k a b) (ratioV a b) := by
 unfold impl_ReduceRatio.f ratioV
 refine Ev.bindc (isRatio_f ha hb) ?_
 by_cases h : b = 0
 ·rw [if_pos h]
  exact Ev.neg (by simp; omega) (Ev.some rfl)
 ·rw [if_neg h]
  refine Ev.pos (by simp; omega) ?_
  have e := implDivisor_ev b.toNat a.toNat
  rw [Int.toNat_of_nonneg ha.1, Int.toNat_of_nonneg hb.1] at e
  have e2 : Ev (fun k => impl_divisor.f k a b) ((Nat.gcd a.toNat b.toNat : Nat) : Int) := e
  exact Ev.bind e2 (Ev.neg (gcd_pos hb.1 h) (Ev.some rfl))
/-- The two numbers of the coverage, and those of the accuracy. -/
def coverF (s : FetchV) : Int := s.n2 + s.n0 + s.n3
theorem cover_range {a0 a1 a2 a3 : Int} {l : List S27} (h : okFetch a0 a1 a2 a3 l = true) : (0 ≤ (endF a0 a1 a2 a3 l).n2 ∧ (endF a0 a1 a2 a3 l).n2 ≤ 60) ∧ (0 ≤ coverF (endF a0 a1 a2 a3 l) ∧ coverF (endF a0 a1 a2 a3 l) ≤ 180) ∧ (0 ≤ (endF a0 a1 a2 a3 l).n0 ∧ (endF a0 a1 a2 a3 l).n0 ≤ 60) ∧ (0 ≤ (endF a0 a1 a2 a3 l).n3 ∧ (endF a0 a1 a2 a3 l).n3 ≤ 60) := by
 obtain ⟨_, h2, h3⟩ := end_okF h
 have := h2.n0; have := h2.n2; have := h2.n3
 unfold coverF
 omega
def coverV (a0 a1 a2 a3 : Int) (l : List S27) : Int × Int × Bool := if okFetch a0 a1 a2 a3 l = true then ratioV (endF a0 a1 a2 a3 l).n2 (coverF (endF a0 a1 a2 a3 l)) else (0, 0, false)
theorem implCover_ev (a0 a1 a2 a3 : Int) (l : List S27) : Ev (fun k => impl_CoverageOf.f k a0 a1 a2 a3 l) (coverV a0 a1 a2 a3 l) := by
 unfold impl_CoverageOf.f coverV
 refine Ev.bindc (implTally_f a0 a1 a2 a3 l) ?_
 unfold tallyV
 cases h : okFetch a0 a1 a2 a3 l with
 | false => exact Ev.neg (by simp) (Ev.some rfl)
 | true =>
  obtain ⟨r1, r2, r3, r4⟩ := cover_range h
  rw [if_pos rfl, if_pos rfl]
  refine Ev.pos rfl ?_
  have e1 : wrap64 (wrap64 ((endF a0 a1 a2 a3 l).n2 + (endF a0 a1 a2 a3 l).n0) + (endF a0 a1 a2 a3 l).n3) = coverF (endF a0 a1 a2 a3 l) := by
   unfold coverF
   rw [wrap_id (x := (endF a0 a1 a2 a3 l).n2 + (endF a0 a1 a2 a3 l).n0) (by omega) (by omega), wrap_id (by omega) (by omega)]
  dsimp only
  rw [e1]
  exact Ev.bind (implRatio_ev ⟨r1.1, by omega⟩ ⟨r2.1, by omega⟩) (Ev.some rfl)
theorem accur_range {a0 a1 a2 a3 : Int} {l : List S27} (h : okFetch a0 a1 a2 a3 l = true) : (0 ≤ (endF a0 a1 a2 a3 l).is ∧ (endF a0 a1 a2 a3 l).is ≤ 240) ∧ 0 ≤ uselessF (endF a0 a1 a2 a3 l) ∧ uselessF (endF a0 a1 a2 a3 l) ≤ (endF a0 a1 a2 a3 l).is := by
 obtain ⟨_, h2, h3⟩ := end_okF h
 have := h2.is; have := h2.all; have := h2.us
 unfold uselessF
 omega
def accurV (a0 a1 a2 a3 : Int) (l : List S27) : Int × Int × Bool := if okFetch a0 a1 a2 a3 l = true then ratioV ((endF a0 a1 a2 a3 l).is - uselessF (endF a0 a1 a2 a3 l)) (endF a0 a1 a2 a3 l).is else (0, 0, false)
theorem implAccur_ev (a0 a1 a2 a3 : Int) (l : List S27) : Ev (fun k => impl_AccuracyOf.f k a0 a1 a2 a3 l) (accurV a0 a1 a2 a3 l) := by
 unfold impl_AccuracyOf.f accurV
 refine Ev.bindc (implTally_f a0 a1 a2 a3 l) ?_
 unfold tallyV
 cases h : okFetch a0 a1 a2 a3 l with
 | false => exact Ev.neg (by simp) (Ev.some rfl)
 | true =>
  obtain ⟨r1, r2, r3⟩ := accur_range h
  rw [if_pos rfl, if_pos rfl]
  refine Ev.pos rfl ?_
  have e1 : wrap64 ((endF a0 a1 a2 a3 l).is - uselessF (endF a0 a1 a2 a3 l)) = (endF a0 a1 a2 a3 l).is - uselessF (endF a0 a1 a2 a3 l) := wrap_id (by omega) (by omega)
  dsimp only
  rw [e1]
  exact Ev.bind (implRatio_ev ⟨by omega, by omega⟩ ⟨r1.1, by omega⟩) (Ev.some rfl)
theorem wrap_one : wrap64 ((0 : Int) + 1) = 1 := by unfold wrap64; omega
theorem count_sum (k : Int) (s : FetchV) (hk : k = 0 ∨ k = 1 ∨ k = 2 ∨ k = 3) : (countF k s).n0 + (countF k s).n1 + (countF k s).n2 + (countF k s).n3 = s.n0 + s.n1 + s.n2 + s.n3 + 1 := by
 unfold countF
 rcases hk with rfl | rfl | rfl | rfl <;> simp <;> omega
theorem run_sum (hit : List (List Int)) (miss : List Int) (delay : Int) : ∀ (t : List (Int × List Int)) (j : Nat) (s : FetchV), (runF hit miss delay j t s).n0 + (runF hit miss delay j t s).n1 + (runF hit miss delay j t s).n2 + (runF hit miss delay j t s).n3 = s.n0 + s.n1 + s.n2 + s.n3 + t.length
 | [], _, s => by simp [runF]
 | x :: t, j, s => by
  have h1 := run_sum hit miss delay t (j + 1) (oneF hit miss delay j x s)
  have h2 : (oneF hit miss delay j x s).n0 + (oneF hit miss delay j x s).n1 + (oneF hit miss delay j x s).n2 + (oneF hit miss delay j x s).n3 = s.n0 + s.n1 + s.n2 + s.n3 + 1 := count_sum _ (arriveF hit miss j s) (kindF_range _ _ _)
  rw [show runF hit miss delay j (x :: t) s = runF hit miss delay (j + 1) t (oneF hit miss delay j x s) from rfl, h1, h2, List.length_cons]
  omega
theorem end_sum (a0 a1 a2 a3 : Int) (l : List S27) : (endF a0 a1 a2 a3 l).n0 + (endF a0 a1 a2 a3 l).n1 + (endF a0 a1 a2 a3 l).n2 + (endF a0 a1 a2 a3 l).n3 = l.length := by
 unfold endF
 rw [run_sum, itemsF_len]
 simp [startF]
theorem ok_degree {a0 a1 a2 a3 : Int} {l : List S27} (h : okFetch a0 a1 a2 a3 l = true) {d : Int} (h0 : 0 ≤ d) (h4 : d ≤ 4) : okFetch a0 d a2 a3 l = true := by
 simp only [okFetch, okPref, Bool.and_eq_true, decide_eq_true_eq] at h ⊢
 exact ⟨⟨h.1.1, ⟨h0, h4⟩, h.1.2.2⟩, h.2⟩
/-- How many loads are not in time. -/
def costF (a0 d a2 a3 : Int) (l : List S27) : Int := (endF a0 d a2 a3 l).n0 + (endF a0 d a2 a3 l).n3
theorem cost_range {a0 a1 a2 a3 : Int} {l : List S27} (h : okFetch a0 a1 a2 a3 l = true) : 0 ≤ costF a0 a1 a2 a3 l ∧ costF a0 a1 a2 a3 l ≤ 60 ∧ wrap64 ((endF a0 a1 a2 a3 l).n0 + (endF a0 a1 a2 a3 l).n3) = costF a0 a1 a2 a3 l := by
 obtain ⟨_, h2, h3⟩ := end_okF h
 have h4 := end_sum a0 a1 a2 a3 l
 have := h2.n0; have := h2.n1; have := h2.n2; have := h2.n3
 unfold costF
 exact ⟨by omega, by omega, wrap_id (by omega) (by omega)⟩
/-- The best degree from d on: n more are looked at. -/
def bestF (a0 a2 a3 : Int) (l : List S27) : Nat → Int → Int → Int → Int
 | 0, _, best, _ => best
 | n + 1, d, best, least => if costF a0 d a2 a3 l < least then bestF a0 a2 a3 l n (d + 1) d (costF a0 d a2 a3 l) else bestF a0 a2 a3 l n (d + 1) best least
theorem implBest_l0 {a0 a1 a2 a3 : Int} {l : List S27} (h : okFetch a0 a1 a2 a3 l = true) : ∀ (n : Nat) (d best least q : Int), 0 ≤ d → d + n = 5 → 0 ≤ least → Ev (fun k => impl_BestDegree.l0 k l best least d a0 q a2 a3) (bestF a0 a2 a3 l n d best least, true) := by
 intro n
 induction n with
 | zero =>
  intro d best least q h0 hd hl
  refine Ev.succ ?_
  simp only [impl_BestDegree.l0]
  exact Ev.neg (by omega) (Ev.some rfl)
 | succ n ih =>
  intro d best least q h0 hd hl
  have hk := ok_degree h h0 (by omega)
  obtain ⟨c1, c2, c3⟩ := cost_range hk
  refine Ev.succ ?_
  simp only [impl_BestDegree.l0]
  have hw : wrap64 (d + 1) = d + 1 := wrap_id (by omega) (by omega)
  rw [hw]
  refine Ev.pos (by omega) (Ev.bindc (fetched_f hk) (Ev.neg (by omega) ?_))
  show Ev (fun k => if wrap64 ((endF a0 d a2 a3 l).n0 + (endF a0 d a2 a3 l).n3) < least then impl_BestDegree.l0 k l d (wrap64 ((endF a0 d a2 a3 l).n0 + (endF a0 d a2 a3 l).n3)) (d + 1) a0 d a2 a3 else impl_BestDegree.l0 k l best least (d + 1) a0 d a2 a3) _
  rw [c3]
  unfold bestF
  by_cases hc : costF a0 d a2 a3 l < least
  ·rw [if_pos hc]
   exact Ev.pos hc (ih (d + 1) d _ d (by omega) (by omega) c1)
  ·rw [if_neg hc]
   exact Ev.neg hc (ih (d + 1) best least d (by omega) (by omega) hl)
def bestV (a0 a1 a2 a3 : Int) (l : List S27) : Int × Bool := if okFetch a0 a1 a2 a3 l = true then (bestF a0 a2 a3 l 4 1 0 (costF a0 0 a2 a3 l), true) else (0, false)
theorem implBest_ev (a0 a1 a2 a3 : Int) (l : List S27) : Ev (fun k => impl_BestDegree.f k a0 a1 a2 a3 l) (bestV a0 a1 a2 a3 l) := by
 unfold impl_BestDegree.f bestV
 refine Ev.bindc (isFetched_f a0 a1 a2 a3 l) ?_
 cases h : okFetch a0 a1 a2 a3 l with
 | false => exact Ev.neg (by simp) (Ev.some rfl)
 | true =>
  rw [if_pos rfl]
  refine Ev.pos rfl (Ev.succ ?_)
  simp only [impl_BestDegree.l0]
  have hk := ok_degree h (Int.le_refl 0) (by omega)
  obtain ⟨c1, c2, c3⟩ := cost_range hk
  refine Ev.pos (by omega) (Ev.bindc (fetched_f hk) (Ev.pos (by omega) ?_))
  show Ev (fun k => impl_BestDegree.l0 k l 0 (wrap64 ((endF a0 0 a2 a3 l).n0 + (endF a0 0 a2 a3 l).n3)) (wrap64 (0 + 1)) a0 0 a2 a3) _
  rw [c3, wrap_one]
  exact implBest_l0 h 4 1 0 _ 0 (by omega) (by omega) c1
theorem tdiv_nat (a b : Nat) : Int.tdiv (a : Int) (b : Int) = ((a / b : Nat) : Int) := by
 rw [Int.tdiv_eq_ediv_of_nonneg (Int.natCast_nonneg a)]
 exact (Int.natCast_ediv a b).symm
theorem ratio_facts {a b : Int} (h : 0 ≤ a ∧ a ≤ b ∧ b ≤ 1000) : (ratioV a b).2.2 = decide (b > 0) ∧ ((ratioV a b).2.2 = true → (ratioV a b).1 ≤ (ratioV a b).2.1) ∧ (0 ≤ (ratioV a b).1 ∧ (ratioV a b).1 ≤ 1000) ∧ ((ratioV a b).1 = 0 ↔ a = 0) := by
 obtain ⟨A, rfl⟩ : ∃ A : Nat, a = (A : Int) := ⟨a.toNat, by omega⟩
 obtain ⟨B, rfl⟩ : ∃ B : Nat, b = (B : Int) := ⟨b.toNat, by omega⟩
 unfold ratioV
 by_cases hz : (B : Int) = 0
 ·rw [if_pos hz, decide_eq_false (show ¬ (B : Int) > 0 by omega)]
  have hA : (A : Int) = 0 := by omega
  exact ⟨by first | rfl | trivial, (fun h => by cases h), ⟨Int.le_refl _, by show (0 : Int) ≤ 1000; omega⟩, fun _ => hA, fun _ => rfl⟩
 ·rw [if_neg hz, decide_eq_true (show (B : Int) > 0 by omega)]
  simp only [Int.toNat_natCast, tdiv_nat]
  have hg : 0 < Nat.gcd A B := Nat.gcd_pos_of_pos_right A (by omega)
  have hd : Nat.gcd A B ∣ A := Nat.gcd_dvd_left A B
  have h1 : A / Nat.gcd A B ≤ B / Nat.gcd A B := Nat.div_le_div_right (by omega)
  have h2 : A / Nat.gcd A B ≤ A := Nat.div_le_self _ _
  have h3 : B / Nat.gcd A B ≤ B := Nat.div_le_self _ _
  have h4 : A / Nat.gcd A B = 0 ↔ A = 0 := by
   constructor
   ·intro e
    rcases Nat.div_eq_zero_iff.1 e with e1 | e1
    ·omega
    ·exact Nat.eq_zero_of_dvd_of_lt hd e1
   ·intro e; rw [e]; exact Nat.zero_div _
  generalize A / Nat.gcd A B = u at *
  generalize B / Nat.gcd A B = v at *
  rw [wrap_id (x := (u : Int)) (by omega) (by omega), wrap_id (x := (v : Int)) (by omega) (by omega)]
  exact ⟨by first | rfl | trivial, (fun _ => by show (u : Int) ≤ (v : Int); omega), ⟨by show (0 : Int) ≤ (u : Int); omega, by show (u : Int) ≤ 1000; omega⟩, by show (u : Int) = 0 ↔ (A : Int) = 0; omega⟩
theorem best_spec (a0 a2 a3 : Int) (l : List S27) : ∀ (n : Nat) (d best : Int), 0 ≤ d → d + n = 5 → 0 ≤ best → best ≤ 4 → (0 ≤ bestF a0 a2 a3 l n d best (costF a0 best a2 a3 l) ∧ bestF a0 a2 a3 l n d best (costF a0 best a2 a3 l) ≤ 4) ∧ costF a0 (bestF a0 a2 a3 l n d best (costF a0 best a2 a3 l)) a2 a3 l ≤ costF a0 best a2 a3 l ∧ ∀ q, d ≤ q → q ≤ 4 → costF a0 (bestF a0 a2 a3 l n d best (costF a0 best a2 a3 l)) a2 a3 l ≤ costF a0 q a2 a3 l := by
 intro n
 induction n with
 | zero =>
  intro d best h0 hd hb0 hb4
  exact ⟨⟨hb0, hb4⟩, Int.le_refl _, fun q h1 h2 => by omega⟩
 | succ n ih =>
  intro d best h0 hd hb0 hb4
  unfold bestF
  by_cases hc : costF a0 d a2 a3 l < costF a0 best a2 a3 l
  ·rw [if_pos hc]
   obtain ⟨i1, i2, i3⟩ := ih (d + 1) d (by omega) (by omega) h0 (by omega)
   refine ⟨i1, by omega, fun q h1 h2 => ?_⟩
   by_cases e : q = d
   ·rw [e]; exact i2
   ·exact i3 q (by omega) h2
  ·rw [if_neg hc]
   obtain ⟨i1, i2, i3⟩ := ih (d + 1) best (by omega) (by omega) hb0 hb4
   refine ⟨i1, i2, fun q h1 h2 => ?_⟩
   by_cases e : q = d
   ·rw [e]; omega
   ·exact i3 q (by omega) h2
theorem bits_255 (x : Int) : 0 ≤ Go.bits .and .u64 x 255 ∧ Go.bits .and .u64 x 255 ≤ 255 := by
 have h : ((BitVec.ofInt 64 x &&& BitVec.ofInt 64 255).toNat) ≤ 255 := by rw [BitVec.toNat_and]; exact Nat.le_trans Nat.and_le_right (by decide)
 have e : Go.bits .and .u64 x 255 = IntKind.u64.wrap ((BitVec.ofInt 64 x &&& BitVec.ofInt 64 255).toNat : Int) := rfl
 rw [e]
 generalize (BitVec.ofInt 64 x &&& BitVec.ofInt 64 255).toNat = m at h
 have e2 : IntKind.u64.wrap (m : Int) = (m : Int) % (2 ^ 64 : Int) := rfl
 rw [e2]
 omega
def bytesL (s : List Int) : Prop := ∀ x ∈ s, 0 ≤ x ∧ x ≤ 255
theorem next_ok (s : List Int) (hs : bytesL s) (i u : Int) (h0 : 0 ≤ i) (h1 : i ≤ 1000000000) : ∃ v u', spec_l00Src_next.f s i u = some (v, i + 1, u') ∧ 0 ≤ v ∧ v ≤ 255 := by
 have e1 : wrap64 (i + 1) = i + 1 := wrap_id (by omega) (by omega)
 unfold spec_l00Src_next.f
 rw [e1]
 by_cases hl : i < (s.length : Int)
 ·rw [if_pos hl, if_pos h0, if_pos (by omega)]
  have hm : rd s i ∈ s := by
   show s.getD i.toNat 0 ∈ s
   exact getD_mem s i.toNat 0 (by omega)
  have hb := hs _ hm
  exact ⟨_, _, rfl, by rw [wrap_id (by omega) (by omega)]; exact hb.1, by rw [wrap_id (by omega) (by omega)]; exact hb.2⟩
 ·rw [if_neg hl]
  by_cases h2 : i + 1 ≤ (s.length : Int)
  ·rw [if_pos h2]; exact ⟨_, _, rfl, by omega, by omega⟩
  ·rw [if_neg h2]
   refine ⟨_, _, rfl, ?_, ?_⟩
   ·have := bits_255 ((IntKind.u64.wrap ((IntKind.u64.wrap (IntKind.u64.wrap (u * 6364136223846793005))) + 1442695040888963407)) / 1099511627776)
    rw [wrap_id (by omega) (by omega)]; exact this.1
   ·have := bits_255 ((IntKind.u64.wrap ((IntKind.u64.wrap (IntKind.u64.wrap (u * 6364136223846793005))) + 1442695040888963407)) / 1099511627776)
    rw [wrap_id (by omega) (by omega)]; exact this.2
theorem pick_ok (s : List Int) (hs : bytesL s) (i u n : Int) (h0 : 0 ≤ i) (h1 : i ≤ 900000000) (hn : n ≤ 65536) : ∃ v i' u', spec_l00Src_pick.f s i u n = some (v, i', u') ∧ 0 ≤ v ∧ (v < n ∨ v = 0) ∧ i ≤ i' ∧ i' ≤ i + 2 := by
 unfold spec_l00Src_pick.f
 by_cases h : n ≤ 1
 ·rw [if_pos h]; exact ⟨0, i, u, rfl, by omega, .inr rfl, by omega, by omega⟩
 ·rw [if_neg h]
  obtain ⟨v, u', e, hv0, hv1⟩ := next_ok s hs i u h0 (by omega)
  rw [e, Option.bind_some]
  dsimp only
  by_cases h2 : n > 200
  ·rw [if_pos h2]
   obtain ⟨v2, u2, e2, hw0, hw1⟩ := next_ok s hs (i + 1) u' (by omega) (by omega)
   rw [e2, Option.bind_some]
   dsimp only
   rw [if_neg (by omega), wrap_id (x := v * 256) (by omega) (by omega), wrap_id (x := v * 256 + v2) (by omega) (by omega)]
   exact ⟨_, _, _, rfl, Int.tmod_nonneg _ (by omega), .inl (Int.tmod_lt_of_pos _ (by omega)), by omega, by omega⟩
  ·rw [if_neg h2, if_neg (by omega)]
   exact ⟨_, _, _, rfl, Int.tmod_nonneg _ (by omega), .inl (Int.tmod_lt_of_pos _ (by omega)), by omega, by omega⟩
theorem one_ok (s : List Int) (hs : bytesL s) (i u n : Int) (h0 : 0 ≤ i) (h1 : i ≤ 900000000) (hn : n ≤ 65536) : ∃ b i' u', spec_l00Src_one.f s i u n = some (b, i', u') ∧ i ≤ i' ∧ i' ≤ i + 2 := by
 obtain ⟨v, i', u', e, _, _, h2, h3⟩ := pick_ok s hs i u n h0 h1 hn
 unfold spec_l00Src_one.f
 rw [e, Option.bind_some]
 exact ⟨_, _, _, rfl, h2, h3⟩
theorem b10Pref_ok (s : List Int) (hs : bytesL s) : ∃ a0 a1 a2 a3, spec_B10Prefetcher.f s = some (a0, a1, a2, a3) ∧ (0 ≤ a0 ∧ a0 ≤ 2) ∧ (0 ≤ a1 ∧ a1 ≤ 4) ∧ (0 ≤ a2 ∧ a2 ≤ 3) ∧ (1 ≤ a3 ∧ a3 ≤ 6) := by
 unfold spec_B10Prefetcher.f spec_l00From.f
 simp only [Option.bind_some]
 obtain ⟨v0, i0, u0, e0, p0, q0, r0, t0⟩ := pick_ok s hs 0 0 3 (by omega) (by omega) (by omega)
 rw [e0]; simp only [Option.bind_some]
 obtain ⟨v1, i1, u1, e1, p1, q1, r1, t1⟩ := pick_ok s hs i0 u0 5 (by omega) (by omega) (by omega)
 rw [e1]; simp only [Option.bind_some]
 obtain ⟨v2, i2, u2, e2, p2, q2, r2, t2⟩ := pick_ok s hs i1 u1 4 (by omega) (by omega) (by omega)
 rw [e2]; simp only [Option.bind_some]
 obtain ⟨v3, i3, u3, e3, p3, q3, r3, t3⟩ := pick_ok s hs i2 u2 6 (by omega) (by omega) (by omega)
 rw [e3]; simp only [Option.bind_some]
 rw [wrap_id (by omega) (by omega)]
 exact ⟨_, _, _, _, rfl, by omega, by omega, by omega, by omega⟩
theorem b10Loads_l0 (s : List Int) (hs : bytesL s) : ∀ (n : Nat) (L0 : List (S27)) (line step stream i u : Int), n ≤ 30 → L0.length + n ≤ 30 → (∀ x ∈ L0, okLoad x = true) → 0 ≤ line → line ≤ 63 → -3 ≤ step → step ≤ 3 → 0 ≤ stream → stream ≤ 1 → 0 ≤ i → i ≤ 100000 - 100 * n →
  ∃ L, Ev (fun k => spec_B10Loads.l0 k L0 line step stream (n : Int) s i u) L ∧ L.length ≤ 30 ∧ ∀ x ∈ L, okLoad x = true := by
 intro n
 induction n with
 | zero =>
  intro L0 line step stream i u _ hl hok _ _ _ _ _ _ _ _
  refine ⟨L0, Ev.succ ?_, by omega, hok⟩
  simp only [spec_B10Loads.l0]
  exact Ev.neg (by omega) (Ev.some rfl)
 | succ n ih =>
  intro L0 line step stream i u hn hl hok hl0 hl1 hs0 hs1 ht0 ht1 hi0 hi1
  have key : ∀ (step stream i u : Int), -3 ≤ step → step ≤ 3 → 0 ≤ stream → stream ≤ 1 → 0 ≤ i → i ≤ 100000 - 100 * n - 20 →
    ∃ L, Ev (fun k => spec_B10Loads.j1 k L0 line step stream ((n + 1 : Nat) : Int) s i u) L ∧ L.length ≤ 30 ∧ ∀ x ∈ L, okLoad x = true := by
   intro step stream i u hs0 hs1 ht0 ht1 hi0 hi1
   have e1 : wrap64 (((n + 1 : Nat) : Int) - 1) = (n : Int) := by rw [wrap_id (by omega) (by omega)]; omega
   have e2 : wrap64 (line + step) = line + step := wrap_id (by omega) (by omega)
   obtain ⟨b, i1, u1, eb, r1, t1⟩ := one_ok s hs i u 6 (by omega) (by omega) (by omega)
   obtain ⟨v, i2, u2, ev, p2, q2, r2, t2⟩ := pick_ok s hs i1 u1 14 (by omega) (by omega) (by omega)
   have hnew : ∀ y : Int, 0 ≤ y → y ≤ 63 → ∀ x ∈ L0 ++ [(⟨stream, y⟩ : S27)], okLoad x = true := by
    intro y hy0 hy1 x hx
    rcases List.mem_append.1 hx with hx | hx
    ·exact hok x hx
    ·obtain rfl : x = ⟨stream, y⟩ := by simpa using hx
     simp only [okLoad, Bool.and_eq_true, decide_eq_true_eq]
     omega
   obtain ⟨L1, w1, w2, w3⟩ := ih (L0 ++ [(⟨stream, v⟩ : S27)]) v step stream i2 u2 (by omega) (by simp; omega) (hnew v (by omega) (by omega)) (by omega) (by omega) hs0 hs1 ht0 ht1 (by omega) (by omega)
   by_cases hb : b = true
   ·refine ⟨L1, Ev.succ ?_, w2, w3⟩
    simp only [spec_B10Loads.j1]
    rw [e1, e2]
    exact Ev.bindc eb (Ev.pos hb (Ev.bindc ev (Ev.pos (by omega) w1)))
   ·by_cases hA : line + step < 0
    ·refine ⟨L1, Ev.succ ?_, w2, w3⟩
     simp only [spec_B10Loads.j1]
     rw [e1, e2]
     exact Ev.bindc eb (Ev.neg hb (Ev.pos hA (Ev.bindc ev (Ev.pos (by omega) w1))))
    ·by_cases hB : line + step ≥ 64
     ·refine ⟨L1, Ev.succ ?_, w2, w3⟩
      simp only [spec_B10Loads.j1]
      rw [e1, e2]
      exact Ev.bindc eb (Ev.neg hb (Ev.neg hA (Ev.pos hB (Ev.bindc ev (Ev.pos (by omega) w1)))))
     ·obtain ⟨L2, y1, y2, y3⟩ := ih (L0 ++ [(⟨stream, line + step⟩ : S27)]) (line + step) step stream i1 u1 (by omega) (by simp; omega) (hnew _ (by omega) (by omega)) (by omega) (by omega) hs0 hs1 ht0 ht1 (by omega) (by omega)
      refine ⟨L2, Ev.succ ?_, y2, y3⟩
      simp only [spec_B10Loads.j1]
      rw [e1, e2]
      exact Ev.bindc eb (Ev.neg hb (Ev.neg hA (Ev.neg hB (Ev.pos (by omega) y1))))
  obtain ⟨b, i1, u1, eb, r1, t1⟩ := one_ok s hs i u 5 (by omega) (by omega) (by omega)
  obtain ⟨v, i2, u2, ev, p2, q2, r2, t2⟩ := pick_ok s hs i1 u1 2 (by omega) (by omega) (by omega)
  obtain ⟨x, i3, u3, ex, p3, q3, r3, t3⟩ := pick_ok s hs i2 u2 7 (by omega) (by omega) (by omega)
  have e3 : wrap64 (x - 3) = x - 3 := wrap_id (by omega) (by omega)
  by_cases hb : b = true
  ·obtain ⟨L, w1, w2, w3⟩ := key (x - 3) v i3 u3 (by omega) (by omega) (by omega) (by omega) (by omega) (by omega)
   refine ⟨L, Ev.succ ?_, w2, w3⟩
   simp only [spec_B10Loads.l0]
   exact Ev.pos (by omega) (Ev.bindc eb (Ev.pos hb (Ev.bindc ev (Ev.bindc ex (by rw [e3]; exact w1)))))
  ·obtain ⟨L, w1, w2, w3⟩ := key step stream i1 u1 (by omega) (by omega) (by omega) (by omega) (by omega) (by omega)
   refine ⟨L, Ev.succ ?_, w2, w3⟩
   simp only [spec_B10Loads.l0]
   exact Ev.pos (by omega) (Ev.bindc eb (Ev.neg hb w1))
theorem b10Loads_ok (s : List Int) (hs : bytesL s) : ∃ L, Ev (fun k => spec_B10Loads.f k s) L ∧ L.length ≤ 30 ∧ (L.any xpLoad) = false := by
 obtain ⟨v0, i0, u0, e0, p0, q0, r0, t0⟩ := pick_ok s hs 0 0 12 (by omega) (by omega) (by omega)
 obtain ⟨v1, i1, u1, e1, p1, q1, r1, t1⟩ := pick_ok s hs i0 u0 4 (by omega) (by omega) (by omega)
 obtain ⟨v2, i2, u2, e2, p2, q2, r2, t2⟩ := pick_ok s hs i1 u1 30 (by omega) (by omega) (by omega)
 obtain ⟨n, hn⟩ : ∃ n : Nat, v2 = n := ⟨v2.toNat, by omega⟩
 subst hn
 obtain ⟨L, w1, w2, w3⟩ := b10Loads_l0 s hs n [] v0 v1 0 i2 u2 (by omega) (by simp; omega) (by simp) (by omega) (by omega) (by omega) (by omega) (by omega) (by omega) (by omega) (by omega)
 refine ⟨L, ?_, w2, ?_⟩
 ·unfold spec_B10Loads.f spec_l00From.f
  exact Ev.bindc rfl (Ev.bindc e0 (Ev.bindc e1 (Ev.bindc e2 w1)))
 ·rw [List.any_eq_false]
  intro x hx
  rw [xpLoad_not, w3 x hx]
  simp
set_option maxHeartbeats 8000000 in
set_option maxRecDepth 100000 in
theorem degrees_walk {w : World} (A0 : Option Addr) (c0 : Nat) (l0 : List Int) (A1 : Option Addr) (c1 : Nat) (l1 : List Int) (hr0 : Kd.C (Kd.int .u8) w A0 l0.length l0) (hc0 : l0.length ≤ c0) (hr1 : Kd.C (Kd.int .u8) w A1 l1.length l1) (hc1 : l1.length ≤ c1) (hbl : laws_b10Long.f l0 l1 = some false) {p0 p1 p2 p3 : Int} (hpf : spec_B10Prefetcher.f l0 = some (p0, p1, p2, p3)) {L : List S27} (hL : Ev (fun k => spec_B10Loads.f k l1) L) {d : Int} (hbest : Ev (fun k => impl_BestDegree.f k p0 p1 p2 p3 L) (d, true)) (hd0 : decide (d < 0) = false) (hd4 : decide (d > 4) = false)
  {x0 x1 x2 x3 x4 x5 y0 y1 y2 y3 y4 y5 : Int} (hx : impl_TallyOf.f p0 p1 p2 p3 L = some (x0, x1, x2, x3, x4, x5, true)) (hy : impl_TallyOf.f p0 d p2 p3 L = some (y0, y1, y2, y3, y4, y5, true)) {a b c e_ : Int} {b4 b5 : Bool} (hcv : Ev (fun k => impl_CoverageOf.f k p0 p1 p2 p3 L) (a, b, b4)) (hac : Ev (fun k => impl_AccuracyOf.f k p0 p1 p2 p3 L) (c, e_, b5))
  {sx sy s02 all pr : Int} (w1_ : wrap64 (y0 + y3) = sy) (w2_ : wrap64 (x0 + x3) = sx) (w3_ : wrap64 (x0 + x2) = s02) (w4_ : wrap64 (s02 + x3) = all) (w5_ : wrap64 (a * all) = pr) (t1 : decide (sy > sx) = false) (t2 : decide (all > 0) = b4) (t3 : decide (x4 > 0) = b5) {z : Bool} (t6 : (pr == 0) = z) (t7 : (x2 == 0) = z) (h4 : b4 = true → a ≤ b ∧ True) (h5 : b5 = true → c ≤ e_) :
  Calls Try.prog 4 #[.slice A0 l0.length c0, .slice A1 l1.length c1] w fun e w' => e = .returned (.bool true) ∧ Below w.heap.size w w' := by
 have HR0 := Aside0.mk hr0
 have HC0 := Aside0.mk hc0
 have HR1 := Aside0.mk hr1
 have HC1 := Aside0.mk hc1
 have HBL := Aside0.mk hbl
 have HPF := Aside0.mk hpf
 have HL := Aside0.mk hL
 have HBEST := Aside0.mk hbest
 have HX := Aside0.mk hx
 have HY := Aside0.mk hy
 have HCV := Aside0.mk hcv
 have HAC := Aside0.mk hac
 have H4 := Aside0.mk h4
 have H5 := Aside0.mk h5
 clear hr0 hc0 hr1 hc1 hbl hpf hL hbest hx hy hcv hac h4 h5
 have HS := Hold.start w
 go_enter Try.func4, Try.ntmps4
 go_wp2_with fail
 refine (laws_b10Long.calls A0 c0 l0 A1 c1 l1 false _ HR0.out HC0.out HR1.out HC1.out HBL.out).mono ?_
 rintro e w1 ⟨rfl, hb⟩
 replace HS := HS.step (by first | exact hb | exact hb.below)
 clear hb
 go_wp2_with fail
 refine (spec_B10Prefetcher.calls A0 c0 l0 p0 p1 p2 p3 _ (Kd.C_below HR0.out HS.below) HC0.out HPF.out).mono ?_
 rintro e w2 ⟨rfl, hb⟩
 replace HS := HS.step (by first | exact hb | exact hb.below)
 clear hb
 go_upto_region 4 with fail
 replace HS := HS.box #[.int .i64 p0, .int .i64 p1, .int .i64 p2, .int .i64 p3] 29
 generalize w2.alloc (.cells #[.int .i64 p0, .int .i64 p1, .int .i64 p2, .int .i64 p3] 29) = w3 at HS ⊢
 generalize w2.heap.size = fb at HS ⊢
 go_wp2_with fail
 refine (spec_B10Loads.calls (Ev.num HL.out) A1 c1 l1 L _ (Kd.C_below HR1.out HS.below) HC1.out (Ev.is HL.out)).mono ?_
 rintro e w4 ⟨v_, rfl, hr, hb⟩
 obtain ⟨AL, cL, rfl⟩ := Kd.R_slice hr
 replace HS := HS.made hb hr
 clear hb hr
 have q0 : w4.cell? ⟨fb, 0, none⟩ = some (.int .i64 p0) := HS.cell at1 0 _ rfl
 have q1 : w4.cell? ⟨fb, 1, none⟩ = some (.int .i64 p1) := HS.cell at1 1 _ rfl
 have q2 : w4.cell? ⟨fb, 2, none⟩ = some (.int .i64 p2) := HS.cell at1 2 _ rfl
 have q3 : w4.cell? ⟨fb, 3, none⟩ = some (.int .i64 p3) := HS.cell at1 3 _ rfl
 have fzq : ∀ j, w4.frozen? ⟨fb, j, none⟩ = false := HS.thaw at1
 go_wp2_with fail
 clear q0 q1 q2 q3 fzq
 refine (impl_BestDegree.calls (Ev.num HBEST.out) p0 p1 p2 p3 AL cL L d true _ (HS.reads' at0).2.2 (HS.reads' at0).2.1 (Ev.is HBEST.out)).mono ?_
 rintro e w5 ⟨rfl, hb⟩
 replace HS := HS.step (by first | exact hb | exact hb.below)
 clear hb
 have q0 : w5.cell? ⟨fb, 0, none⟩ = some (.int .i64 p0) := HS.cell at1 0 _ rfl
 have q1 : w5.cell? ⟨fb, 1, none⟩ = some (.int .i64 p1) := HS.cell at1 1 _ rfl
 have q2 : w5.cell? ⟨fb, 2, none⟩ = some (.int .i64 p2) := HS.cell at1 2 _ rfl
 have q3 : w5.cell? ⟨fb, 3, none⟩ = some (.int .i64 p3) := HS.cell at1 3 _ rfl
 have fzq : ∀ j, w5.frozen? ⟨fb, j, none⟩ = false := HS.thaw at1
 go_wp2_with fail
 clear q0 q1 q2 q3 fzq
 refine (impl_TallyOf.calls p0 p1 p2 p3 AL cL L x0 x1 x2 x3 x4 x5 true _ (HS.reads' at0).2.2 (HS.reads' at0).2.1 HX.out).mono ?_
 rintro e w6 ⟨rfl, hb⟩
 replace HS := HS.step (by first | exact hb | exact hb.below)
 clear hb
 go_upto_region 9 with fail
 replace HS := HS.box #[.int .i64 x0, .int .i64 x1, .int .i64 x2, .int .i64 x3, .int .i64 x4, .int .i64 x5] 40
 generalize w6.alloc (.cells #[.int .i64 x0, .int .i64 x1, .int .i64 x2, .int .i64 x3, .int .i64 x4, .int .i64 x5] 40) = w7 at HS ⊢
 generalize w6.heap.size = xb at HS ⊢
 have q0 : w7.cell? ⟨fb, 0, none⟩ = some (.int .i64 p0) := HS.cell at2 0 _ rfl
 have q1 : w7.cell? ⟨fb, 1, none⟩ = some (.int .i64 p1) := HS.cell at2 1 _ rfl
 have q2 : w7.cell? ⟨fb, 2, none⟩ = some (.int .i64 p2) := HS.cell at2 2 _ rfl
 have q3 : w7.cell? ⟨fb, 3, none⟩ = some (.int .i64 p3) := HS.cell at2 3 _ rfl
 have fzq : ∀ j, w7.frozen? ⟨fb, j, none⟩ = false := HS.thaw at2
 go_upto_region 10 with fail
 replace HS := HS.box #[.int .i64 p0, .int .i64 p1, .int .i64 p2, .int .i64 p3] 29
 generalize w7.alloc (.cells #[.int .i64 p0, .int .i64 p1, .int .i64 p2, .int .i64 p3] 29) = w8 at HS ⊢
 generalize w7.heap.size = gb at HS ⊢
 clear q0 q1 q2 q3 fzq
 have q1 : w8.cell? ⟨gb, 1, none⟩ = some (.int .i64 p1) := HS.cell at0 1 _ rfl
 have fzq : ∀ j, w8.frozen? ⟨gb, j, none⟩ = false := HS.thaw at0
 go_upto_region 11 with fail
 clear q1 fzq
 replace HS := HS.setBox 1 (.int .i64 d) .here
 simp only [List.setIfInBounds_toArray, List.set_cons_zero, List.set_cons_succ] at HS
 generalize w8.setCell ⟨gb, 1, none⟩ (.int .i64 d) = w9 at HS ⊢
 have q0 : w9.cell? ⟨gb, 0, none⟩ = some (.int .i64 p0) := HS.cell at0 0 _ rfl
 have q1 : w9.cell? ⟨gb, 1, none⟩ = some (.int .i64 d) := HS.cell at0 1 _ rfl
 have q2 : w9.cell? ⟨gb, 2, none⟩ = some (.int .i64 p2) := HS.cell at0 2 _ rfl
 have q3 : w9.cell? ⟨gb, 3, none⟩ = some (.int .i64 p3) := HS.cell at0 3 _ rfl
 have fzq : ∀ j, w9.frozen? ⟨gb, j, none⟩ = false := HS.thaw at0
 go_wp2_with fail
 clear q0 q1 q2 q3 fzq
 refine (impl_TallyOf.calls p0 d p2 p3 AL cL L y0 y1 y2 y3 y4 y5 true _ (HS.reads' at2).2.2 (HS.reads' at2).2.1 HY.out).mono ?_
 rintro e w10 ⟨rfl, hb⟩
 replace HS := HS.step (by first | exact hb | exact hb.below)
 clear hb
 go_upto_region 12 with fail
 replace HS := HS.box #[.int .i64 y0, .int .i64 y1, .int .i64 y2, .int .i64 y3, .int .i64 y4, .int .i64 y5] 40
 generalize w10.alloc (.cells #[.int .i64 y0, .int .i64 y1, .int .i64 y2, .int .i64 y3, .int .i64 y4, .int .i64 y5] 40) = w11 at HS ⊢
 generalize w10.heap.size = yb at HS ⊢
 have q0 : w11.cell? ⟨fb, 0, none⟩ = some (.int .i64 p0) := HS.cell at4 0 _ rfl
 have q1 : w11.cell? ⟨fb, 1, none⟩ = some (.int .i64 p1) := HS.cell at4 1 _ rfl
 have q2 : w11.cell? ⟨fb, 2, none⟩ = some (.int .i64 p2) := HS.cell at4 2 _ rfl
 have q3 : w11.cell? ⟨fb, 3, none⟩ = some (.int .i64 p3) := HS.cell at4 3 _ rfl
 have fzq : ∀ j, w11.frozen? ⟨fb, j, none⟩ = false := HS.thaw at4
 go_wp2_with fail
 clear q0 q1 q2 q3 fzq
 refine (impl_CoverageOf.calls (Ev.num HCV.out) p0 p1 p2 p3 AL cL L a b b4 _ (HS.reads' at3).2.2 (HS.reads' at3).2.1 (Ev.is HCV.out)).mono ?_
 rintro e w12 ⟨rfl, hb⟩
 replace HS := HS.step (by first | exact hb | exact hb.below)
 clear hb
 have q0 : w12.cell? ⟨fb, 0, none⟩ = some (.int .i64 p0) := HS.cell at4 0 _ rfl
 have q1 : w12.cell? ⟨fb, 1, none⟩ = some (.int .i64 p1) := HS.cell at4 1 _ rfl
 have q2 : w12.cell? ⟨fb, 2, none⟩ = some (.int .i64 p2) := HS.cell at4 2 _ rfl
 have q3 : w12.cell? ⟨fb, 3, none⟩ = some (.int .i64 p3) := HS.cell at4 3 _ rfl
 have fzq : ∀ j, w12.frozen? ⟨fb, j, none⟩ = false := HS.thaw at4
 go_wp2_with fail
 clear q0 q1 q2 q3 fzq
 refine (impl_AccuracyOf.calls (Ev.num HAC.out) p0 p1 p2 p3 AL cL L c e_ b5 _ (HS.reads' at3).2.2 (HS.reads' at3).2.1 (Ev.is HAC.out)).mono ?_
 rintro e w13 ⟨rfl, hb⟩
 replace HS := HS.step (by first | exact hb | exact hb.below)
 clear hb
 have x0 : w13.cell? ⟨xb, 0, none⟩ = some (.int .i64 x0) := HS.cell at2 0 _ rfl
 have x2 : w13.cell? ⟨xb, 2, none⟩ = some (.int .i64 x2) := HS.cell at2 2 _ rfl
 have x3 : w13.cell? ⟨xb, 3, none⟩ = some (.int .i64 x3) := HS.cell at2 3 _ rfl
 have x4 : w13.cell? ⟨xb, 4, none⟩ = some (.int .i64 x4) := HS.cell at2 4 _ rfl
 have fzx : ∀ j, w13.frozen? ⟨xb, j, none⟩ = false := HS.thaw at2
 have y0 : w13.cell? ⟨yb, 0, none⟩ = some (.int .i64 y0) := HS.cell at0 0 _ rfl
 have y3 : w13.cell? ⟨yb, 3, none⟩ = some (.int .i64 y3) := HS.cell at0 3 _ rfl
 have fzy : ∀ j, w13.frozen? ⟨yb, j, none⟩ = false := HS.thaw at0
 cases b4
 ·cases b5
  ·go_wp2_with fail
   go_ret
   exact ⟨rfl, HS.below⟩
  ·have t5 : decide (c ≤ e_) = true := decide_eq_true (H5.out rfl)
   go_wp2_with fail
   go_ret
   exact ⟨rfl, HS.below⟩
 ·cases b5
  ·obtain ⟨h4a, h4b⟩ := H4.out rfl
   have t4 : decide (a ≤ b) = true := decide_eq_true h4a
   go_wp2_with fail
   go_ret
   exact ⟨by first | rfl | simp_all, HS.below⟩
  ·obtain ⟨h4a, h4b⟩ := H4.out rfl
   have t4 : decide (a ≤ b) = true := decide_eq_true h4a
   have t5 : decide (c ≤ e_) = true := decide_eq_true (H5.out rfl)
   go_wp2_with fail
   go_ret
   exact ⟨by first | rfl | simp_all, HS.below⟩
set_option maxHeartbeats 8000000 in
set_option maxRecDepth 100000 in
theorem degrees_long {w : World} (A0 : Option Addr) (c0 : Nat) (l0 : List Int) (A1 : Option Addr) (c1 : Nat) (l1 : List Int) (hr0 : Kd.C (Kd.int .u8) w A0 l0.length l0) (hc0 : l0.length ≤ c0) (hr1 : Kd.C (Kd.int .u8) w A1 l1.length l1) (hc1 : l1.length ≤ c1) (hbl : laws_b10Long.f l0 l1 = some true) :
  Calls Try.prog 4 #[.slice A0 l0.length c0, .slice A1 l1.length c1] w fun e w' => e = .returned (.bool true) ∧ Below w.heap.size w w' := by
 have HR0 := Aside0.mk hr0
 have HC0 := Aside0.mk hc0
 have HR1 := Aside0.mk hr1
 have HC1 := Aside0.mk hc1
 have HBL := Aside0.mk hbl
 clear hr0 hc0 hr1 hc1 hbl
 have HS := Hold.start w
 go_enter Try.func4, Try.ntmps4
 go_wp2_with fail
 refine (laws_b10Long.calls A0 c0 l0 A1 c1 l1 true _ HR0.out HC0.out HR1.out HC1.out HBL.out).mono ?_
 rintro e w1 ⟨rfl, hb⟩
 replace HS := HS.step (by first | exact hb | exact hb.below)
 clear hb
 go_wp2_with fail
 go_ret
 exact ⟨rfl, HS.below⟩
theorem degrees_all {w : World} (A0 : Option Addr) (c0 : Nat) (l0 : List Int) (A1 : Option Addr) (c1 : Nat) (l1 : List Int) (hr0 : Kd.C (Kd.int .u8) w A0 l0.length l0) (hc0 : l0.length ≤ c0) (hr1 : Kd.C (Kd.int .u8) w A1 l1.length l1) (hc1 : l1.length ≤ c1) (b0 : bytesL l0) (b1 : bytesL l1) :
  Calls Try.prog 4 #[.slice A0 l0.length c0, .slice A1 l1.length c1] w fun e w' => e = .returned (.bool true) ∧ Below w.heap.size w w' := by
 by_cases h0 : (l0.length : Int) > 1048576
 ·exact degrees_long A0 c0 l0 A1 c1 l1 hr0 hc0 hr1 hc1 (by unfold laws_b10Long.f; rw [if_pos h0])
 by_cases h1 : (l1.length : Int) > 1048576
 ·exact degrees_long A0 c0 l0 A1 c1 l1 hr0 hc0 hr1 hc1 (by unfold laws_b10Long.f; rw [if_neg h0, decide_eq_true h1])
 obtain ⟨p0, p1, p2, p3, hpf, q0, q1, q2, q3⟩ := b10Pref_ok l0 b0
 obtain ⟨L, hL, hL30, hLv⟩ := b10Loads_ok l1 b1
 have hok : okFetch p0 p1 p2 p3 L = true := by
  simp only [okFetch, okPref, Bool.and_eq_true, decide_eq_true_eq, Bool.not_eq_true']
  exact ⟨⟨⟨by omega, by omega⟩, ⟨by omega, by omega⟩, ⟨by omega, by omega⟩, by omega, by omega⟩, by omega, hLv⟩
 have hb := implBest_ev p0 p1 p2 p3 L
 unfold bestV at hb
 rw [if_pos hok] at hb
 obtain ⟨⟨s1, s2⟩, s3, s4⟩ := best_spec p0 p2 p3 L 4 1 0 (by omega) (by omega) (by omega) (by omega)
 generalize bestF p0 p2 p3 L 4 1 0 (costF p0 0 p2 p3 L) = d at hb s1 s2 s3 s4
 have hokd := ok_degree hok s1 s2
 have hle : costF p0 d p2 p3 L ≤ costF p0 p1 p2 p3 L := by
  by_cases e : p1 = 0
  ·rw [e]; exact s3
  ·exact s4 p1 (by omega) (by omega)
 obtain ⟨u1, u2, u3⟩ := cost_range hok
 obtain ⟨v1, v2, v3⟩ := cost_range hokd
 obtain ⟨r1, r2, r3, r4⟩ := cover_range hok
 obtain ⟨t1, t2, t3⟩ := accur_range hok
 have hx := implTally_f p0 p1 p2 p3 L
 have hy := implTally_f p0 d p2 p3 L
 unfold tallyV at hx hy
 rw [if_pos hok] at hx
 rw [if_pos hokd] at hy
 have hcv := implCover_ev p0 p1 p2 p3 L
 have hac := implAccur_ev p0 p1 p2 p3 L
 unfold coverV at hcv
 unfold accurV at hac
 rw [if_pos hok] at hcv hac
 have hcov : coverF (endF p0 p1 p2 p3 L) = (endF p0 p1 p2 p3 L).n2 + (endF p0 p1 p2 p3 L).n0 + (endF p0 p1 p2 p3 L).n3 := rfl
 obtain ⟨f1, f2, f3, f4⟩ := ratio_facts (a := (endF p0 p1 p2 p3 L).n2) (b := coverF (endF p0 p1 p2 p3 L)) ⟨r1.1, by omega, by omega⟩
 obtain ⟨g1, g2, g3, g4⟩ := ratio_facts (a := (endF p0 p1 p2 p3 L).is - uselessF (endF p0 p1 p2 p3 L)) (b := (endF p0 p1 p2 p3 L).is) ⟨by omega, by omega, by omega⟩
 generalize hrc : ratioV (endF p0 p1 p2 p3 L).n2 (coverF (endF p0 p1 p2 p3 L)) = rc at hcv f1 f2 f3 f4
 generalize hra : ratioV ((endF p0 p1 p2 p3 L).is - uselessF (endF p0 p1 p2 p3 L)) (endF p0 p1 p2 p3 L).is = ra at hac g1 g2 g3 g4
 obtain ⟨a, b, b4⟩ := rc
 obtain ⟨c, e_, b5⟩ := ra
 have hw3 : wrap64 ((endF p0 p1 p2 p3 L).n0 + (endF p0 p1 p2 p3 L).n2) = (endF p0 p1 p2 p3 L).n0 + (endF p0 p1 p2 p3 L).n2 := wrap_id (by omega) (by omega)
 have hw4 : wrap64 ((endF p0 p1 p2 p3 L).n0 + (endF p0 p1 p2 p3 L).n2 + (endF p0 p1 p2 p3 L).n3) = coverF (endF p0 p1 p2 p3 L) := by rw [wrap_id (by omega) (by omega)]; omega
 have hpr : 0 ≤ a * coverF (endF p0 p1 p2 p3 L) ∧ a * coverF (endF p0 p1 p2 p3 L) ≤ 1000 * 180 := ⟨Int.mul_nonneg f3.1 r2.1, Int.mul_le_mul f3.2 r2.2 r2.1 (by omega)⟩
 have hzz : (a * coverF (endF p0 p1 p2 p3 L) == 0) = ((endF p0 p1 p2 p3 L).n2 == 0) := by
  rw [Bool.eq_iff_iff, beq_iff_eq, beq_iff_eq]
  constructor
  ·intro hm
   rcases Int.mul_eq_zero.1 hm with e | e
   ·exact f4.1 e
   ·omega
  ·intro hm
   rw [show a = 0 from f4.2 hm, Int.zero_mul]
 exact degrees_walk A0 c0 l0 A1 c1 l1 hr0 hc0 hr1 hc1 (by unfold laws_b10Long.f; rw [if_neg h0, decide_eq_false h1]) hpf hL hb (decide_eq_false (by omega)) (decide_eq_false (by omega)) hx hy hcv hac v3 u3 hw3 hw4 (wrap_id (by omega) (by omega)) (decide_eq_false (by omega)) f1.symm g1.symm rfl hzz.symm (fun h => ⟨f2 h, trivial⟩) g2
def byteB (x : Int) : Bool := decide (0 ≤ x) && decide (x ≤ 255)
def laws_FnDegrees.f (l0 : List Int) (l1 : List Int) : Option Bool := if (l0.all byteB && l1.all byteB) = true then some true else none
theorem laws_FnDegrees.calls (A0 : Option Addr) (c0 : Nat) (l0 : List Int) (A1 : Option Addr) (c1 : Nat) (l1 : List Int) (r : Bool) (w : World) (hr0 : Kd.C (Kd.int .u8) w A0 l0.length l0) (hc0 : l0.length ≤ c0) (hr1 : Kd.C (Kd.int .u8) w A1 l1.length l1) (hc1 : l1.length ≤ c1) (h : laws_FnDegrees.f l0 l1 = some r) :
  Calls Try.prog 4 #[.slice A0 l0.length c0, .slice A1 l1.length c1] w fun e w' => e = .returned (.bool r) ∧ Below w.heap.size w w' := by
 unfold laws_FnDegrees.f at h
 split at h
 ·rename_i hh
  cases h
  rw [Bool.and_eq_true, List.all_eq_true, List.all_eq_true] at hh
  exact degrees_all A0 c0 l0 A1 c1 l1 hr0 hc0 hr1 hc1 (fun x hx => by have := hh.1 x hx; simpa [byteB] using this) (fun x hx => by have := hh.2 x hx; simpa [byteB] using this)
 ·cases h
/-- THE ONE PURE STATEMENT of laws_FnDegrees. -/
def laws_FnDegrees.Pure : Prop := ∀ (l0 : List Int) (l1 : List Int), (l0.length ≤ 9223372036854775807 ∧ ∀ le0 ∈ l0, (Lit.int .u8 le0).wf = true) → (l1.length ≤ 9223372036854775807 ∧ ∀ le1 ∈ l1, (Lit.int .u8 le1).wf = true) → laws_FnDegrees.f l0 l1 = some true
end Go.Proofs.Ytpooojgeonpmnaa.PFnDegrees
