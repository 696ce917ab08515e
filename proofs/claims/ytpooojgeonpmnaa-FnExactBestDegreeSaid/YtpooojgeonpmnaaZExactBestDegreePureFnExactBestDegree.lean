/- The statement FnExactBestDegree over lists alone: both programs take the first degree with the fewest loads that are not in time. -/
import Derived.Test.YtpooojgeonpmnaaZExactBestDegreePFnExactBestDegreex
import Derived.Test.YtpooojgeonpmnaaZExactBestDegreeX2
namespace Go.Proofs.Ytpooojgeonpmnaa.Pure
open Go.RowKit Go.Proofs.YtpooojgeonpmnaaW.PrintWords Go.Proofs.Ytpooojgeonpmnaa.PFnExactBestDegree
set_option linter.unusedVariables false
set_option linter.unusedSimpArgs false
theorem szLoadS_f (l : List S89) (a : Int) (h0 : 0 ≤ a) (h1 : a ≤ 1048576) (hl : l.length ≤ 9223372036854775807) : laws_szLoadS.f l a = some (if a < l.length then -1 else a - l.length) := by
  unfold laws_szLoadS.f
  rw [wrap_id (by omega) (by omega)]
  by_cases h : a < l.length
  · rw [if_pos (by omega), if_pos h]
  · rw [if_neg (by omega), if_neg h]
def cvLoad (x : S89) : S27 := ⟨x.f0, x.f1⟩
theorem toLoadS_ev (l : List S89) (h : l.length ≤ 1048576) : Ev (fun k => laws_toLoadS.f k l) (l.map cvLoad) := by
  unfold laws_toLoadS.f
  refine Ev.pos (by omega) (Ev.pos (by omega) ?_)
  refine Ev.upto (F := fun k s i => laws_toLoadS.l0 k l s i) (n := l.length) (r := l.map cvLoad) (fun i s => s = (l.take i).map cvLoad ++ List.replicate (l.length - i) z27) ?_ ?_ 0 (Nat.zero_le _) _ (by simp)
  · intro i s hi hs ih
    have hsl : s.length = l.length := by rw [hs]; simp; omega
    refine Ev.succ ?_
    simp only [laws_toLoadS.l0]
    refine Ev.pos (by omega) (Ev.pos (by omega) (Ev.bindc (a := ((rd_T89 l (i : Int)).f0, (rd_T89 l (i : Int)).f1)) rfl (Ev.pos (by omega) ?_)))
    rw [wrap_succ hi (by omega)]
    refine ih _ ?_
    rw [hs, Int.toNat_natCast]
    exact fill_next cvLoad l z27 z89 i hi _ rfl
  · intro s hs
    refine Ev.succ ?_
    simp only [laws_toLoadS.l0]
    exact Ev.neg (by omega) (Ev.some (by rw [hs]; simp))
theorem eqLoadS_ev (l : List S27) (h : l.length ≤ 1048576) : Ev (fun k => laws_eqLoadS.f k l l) true := by
  unfold laws_eqLoadS.f
  refine Ev.pos rfl ?_
  refine Ev.upto (F := fun k (_ : Unit) i => laws_eqLoadS.l0 k l l i) (n := l.length) (r := true) (fun _ _ => True) ?_ ?_ 0 (Nat.zero_le _) () trivial
  · intro i s hi _ ih
    refine Ev.succ ?_
    simp only [laws_eqLoadS.l0]
    refine Ev.pos (by omega) (Ev.pos (by omega) (Ev.pos (by omega) (Ev.bindc (a := true) (by simp [laws_eqLoad.f]) (Ev.pos rfl ?_))))
    rw [wrap_succ hi (by omega)]
    exact ih () trivial
  · intro s _
    refine Ev.succ ?_
    simp only [laws_eqLoadS.l0]
    exact Ev.neg (by omega) (Ev.some rfl)
theorem isFetched_f (a0 a1 a2 a3 : Int) (l : List S27) : impl_isFetched.f a0 a1 a2 a3 l = some (okFetch a0 a1 a2 a3 l) := by
  unfold impl_isFetched.f impl_ValidLoads.f okFetch
  rw [implPref_f]
  cases okPref a0 a1 a2 a3 <;> cases (decide (l.length ≤ 60) && !(l.any xpLoad)) <;> rfl
theorem fetched_f {a0 a1 a2 a3 : Int} {l : List S27} (h : okFetch a0 a1 a2 a3 l = true) : impl_fetched.f a0 a1 a2 a3 l = some (fetchR a0 a1 a2 a3 l) := by
  unfold impl_fetched.f
  rw [if_pos h]
theorem do_f {a0 a1 a2 a3 : Int} {l : List S27} (h : okFetch a0 a1 a2 a3 l = true) : spec_l09Do.f a0 a1 a2 a3 l = some (fetchR a0 a1 a2 a3 l) := by
  unfold spec_l09Do.f
  rw [if_pos h]
theorem end_okF {a0 a1 a2 a3 : Int} {l : List S27} (h : okFetch a0 a1 a2 a3 l = true) : (endF a0 a1 a2 a3 l).c.Ok a3.toNat ∧ (endF a0 a1 a2 a3 l).Bnd l.length ∧ l.length ≤ 60 := by
  obtain ⟨h1, h2, h3⟩ := okFetch_facts h
  obtain ⟨p1, p2, p3⟩ := pref_facts h1
  obtain ⟨v1, v2, v3, v4⟩ := lru_validF (n := a3.toNat) (by omega) (by omega)
  obtain ⟨q1, q2⟩ := start_okF a3.toNat
  obtain ⟨r1, r2⟩ := run_okF v1 v2 a2 (itemsF a0 a1 l) 0 _ (itemsF_ok a0 h3 p1.2) q1 q2
  rw [itemsF_len, Nat.zero_add] at r2
  exact ⟨r1, r2, h2⟩
theorem wrap_one : wrap64 ((0 : Int) + 1) = 1 := by unfold wrap64; omega
theorem count_sum (k : Int) (s : FetchV) (hk : k = 0 ∨ k = 1 ∨ k = 2 ∨ k = 3) : (countF k s).n0 + (countF k s).n1 + (countF k s).n2 + (countF k s).n3 = s.n0 + s.n1 + s.n2 + s.n3 + 1 := by
  unfold countF
  rcases hk with rfl | rfl | rfl | rfl <;> simp <;> omega
theorem run_sum (hit : List (List Int)) (miss : List Int) (delay : Int) : ∀ (t : List (Int × List Int)) (j : Nat) (s : FetchV), (runF hit miss delay j t s).n0 + (runF hit miss delay j t s).n1 + (runF hit miss delay j t s).n2 + (runF hit miss delay j t s).n3 = s.n0 + s.n1 + s.n2 + s.n3 + t.length
  | [], _, s => by simp [runF]
  | x :: t, j, s => by
    have h1 := run_sum hit miss delay t (j + 1) (oneF hit miss delay j x s)
    have h2 : (oneF hit miss delay j x s).n0 + (oneF hit miss delay j x s).n1 + (oneF hit miss delay j x s).n2 + (oneF hit miss delay j x s).n3 = s.n0 + s.n1 + s.n2 + s.n3 + 1 := count_sum _ (arriveF hit miss j s) (kindF_range _ _ _)
    rw [show runF hit miss delay j (x :: t) s = runF hit miss delay (j + 1) t (oneF hit miss delay j x s) from rfl, h1, h2, List.length_cons]
    omega
theorem end_sum (a0 a1 a2 a3 : Int) (l : List S27) : (endF a0 a1 a2 a3 l).n0 + (endF a0 a1 a2 a3 l).n1 + (endF a0 a1 a2 a3 l).n2 + (endF a0 a1 a2 a3 l).n3 = l.length := by
  unfold endF
  rw [run_sum, itemsF_len]
  simp [startF]
theorem ok_degree {a0 a1 a2 a3 : Int} {l : List S27} (h : okFetch a0 a1 a2 a3 l = true) {d : Int} (h0 : 0 ≤ d) (h4 : d ≤ 4) : okFetch a0 d a2 a3 l = true := by
  simp only [okFetch, okPref, Bool.and_eq_true, decide_eq_true_eq] at h ⊢
  exact ⟨⟨h.1.1, ⟨h0, h4⟩, h.1.2.2⟩, h.2⟩
/-- How many loads are not in time. -/
def costF (a0 d a2 a3 : Int) (l : List S27) : Int := (endF a0 d a2 a3 l).n0 + (endF a0 d a2 a3 l).n3
theorem cost_range {a0 a1 a2 a3 : Int} {l : List S27} (h : okFetch a0 a1 a2 a3 l = true) : 0 ≤ costF a0 a1 a2 a3 l ∧ costF a0 a1 a2 a3 l ≤ 60 ∧ wrap64 ((endF a0 a1 a2 a3 l).n0 + (endF a0 a1 a2 a3 l).n3) = costF a0 a1 a2 a3 l := by
  obtain ⟨_, h2, h3⟩ := end_okF h
  have h4 := end_sum a0 a1 a2 a3 l
  have := h2.n0; have := h2.n1; have := h2.n2; have := h2.n3
  unfold costF
  exact ⟨by omega, by omega, wrap_id (by omega) (by omega)⟩
/-- The best degree from d on: n more are looked at. -/
def bestF (a0 a2 a3 : Int) (l : List S27) : Nat → Int → Int → Int → Int
  | 0, _, best, _ => best
  | n + 1, d, best, least => if costF a0 d a2 a3 l < least then bestF a0 a2 a3 l n (d + 1) d (costF a0 d a2 a3 l) else bestF a0 a2 a3 l n (d + 1) best least
theorem implBest_l0 {a0 a1 a2 a3 : Int} {l : List S27} (h : okFetch a0 a1 a2 a3 l = true) : ∀ (n : Nat) (d best least q : Int), 0 ≤ d → d + n = 5 → 0 ≤ least → Ev (fun k => impl_BestDegree.l0 k l best least d a0 q a2 a3) (bestF a0 a2 a3 l n d best least, true) := by
  intro n
  induction n with
  | zero =>
    intro d best least q h0 hd hl
    refine Ev.succ ?_
    simp only [impl_BestDegree.l0]
    exact Ev.neg (by omega) (Ev.some rfl)
  | succ n ih =>
    intro d best least q h0 hd hl
    have hk := ok_degree h h0 (by omega)
    obtain ⟨c1, c2, c3⟩ := cost_range hk
    refine Ev.succ ?_
    simp only [impl_BestDegree.l0]
    have hw : wrap64 (d + 1) = d + 1 := wrap_id (by omega) (by omega)
    rw [hw]
    refine Ev.pos (by omega) (Ev.bindc (fetched_f hk) (Ev.neg (by omega) ?_))
    show Ev (fun k => if wrap64 ((endF a0 d a2 a3 l).n0 + (endF a0 d a2 a3 l).n3) < least then impl_BestDegree.l0 k l d (wrap64 ((endF a0 d a2 a3 l).n0 + (endF a0 d a2 a3 l).n3)) (d + 1) a0 d a2 a3 else impl_BestDegree.l0 k l best least (d + 1) a0 d a2 a3) _
    rw [c3]
    unfold bestF
    by_cases hc : costF a0 d a2 a3 l < least
    · rw [if_pos hc]
      exact Ev.pos hc (ih (d + 1) d _ d (by omega) (by omega) c1)
    · rw [if_neg hc]
      exact Ev.neg hc (ih (d + 1) best least d (by omega) (by omega) hl)
def bestV (a0 a1 a2 a3 : Int) (l : List S27) : Int × Bool := if okFetch a0 a1 a2 a3 l = true then (bestF a0 a2 a3 l 4 1 0 (costF a0 0 a2 a3 l), true) else (0, false)
theorem implBest_ev (a0 a1 a2 a3 : Int) (l : List S27) : Ev (fun k => impl_BestDegree.f k a0 a1 a2 a3 l) (bestV a0 a1 a2 a3 l) := by
  unfold impl_BestDegree.f bestV
  refine Ev.bindc (isFetched_f a0 a1 a2 a3 l) ?_
  cases h : okFetch a0 a1 a2 a3 l with
  | false => exact Ev.neg (by simp) (Ev.some rfl)
  | true =>
    rw [if_pos rfl]
    refine Ev.pos rfl (Ev.succ ?_)
    simp only [impl_BestDegree.l0]
    have hk := ok_degree h (Int.le_refl 0) (by omega)
    obtain ⟨c1, c2, c3⟩ := cost_range hk
    refine Ev.pos (by omega) (Ev.bindc (fetched_f hk) (Ev.pos (by omega) ?_))
    show Ev (fun k => impl_BestDegree.l0 k l 0 (wrap64 ((endF a0 0 a2 a3 l).n0 + (endF a0 0 a2 a3 l).n3)) (wrap64 (0 + 1)) a0 0 a2 a3) _
    rw [c3, wrap_one]
    exact implBest_l0 h 4 1 0 _ 0 (by omega) (by omega) c1
theorem specBest_l0 {a0 a1 a2 a3 : Int} {l : List S27} (h : okFetch a0 a1 a2 a3 l = true) : ∀ (n : Nat) (d best least : Int), 0 ≤ d → d + n = 5 → 0 ≤ least → Ev (fun k => spec_BestDegree.l0 k l best least d a0 a1 a2 a3) (bestF a0 a2 a3 l n d best least, true) := by
  intro n
  induction n with
  | zero =>
    intro d best least h0 hd hl
    refine Ev.succ ?_
    simp only [spec_BestDegree.l0]
    exact Ev.neg (by omega) (Ev.some rfl)
  | succ n ih =>
    intro d best least h0 hd hl
    have hk := ok_degree h h0 (by omega)
    obtain ⟨c1, c2, c3⟩ := cost_range hk
    refine Ev.succ ?_
    simp only [spec_BestDegree.l0]
    have hw : wrap64 (d + 1) = d + 1 := wrap_id (by omega) (by omega)
    rw [hw]
    refine Ev.pos (by omega) (Ev.bindc (do_f hk) ?_)
    show Ev (fun k => if wrap64 ((endF a0 d a2 a3 l).n0 + (endF a0 d a2 a3 l).n3) < least then spec_BestDegree.l0 k l d (wrap64 ((endF a0 d a2 a3 l).n0 + (endF a0 d a2 a3 l).n3)) (d + 1) a0 a1 a2 a3 else spec_BestDegree.l0 k l best least (d + 1) a0 a1 a2 a3) _
    rw [c3]
    unfold bestF
    by_cases hc : costF a0 d a2 a3 l < least
    · rw [if_pos hc]
      exact Ev.pos hc (ih (d + 1) d _ (by omega) (by omega) c1)
    · rw [if_neg hc]
      exact Ev.neg hc (ih (d + 1) best least (by omega) (by omega) hl)
theorem specBest_ev (a0 a1 a2 a3 : Int) {l : List S27} (hl : l.length ≤ 1048576) : Ev (fun k => spec_BestDegree.f k a0 a1 a2 a3 l) (bestV a0 a1 a2 a3 l) := by
  unfold spec_BestDegree.f bestV
  refine Ev.bindc (specPref_f a0 a1 a2 a3) ?_
  have hbad : ∀ (hx : okFetch a0 a1 a2 a3 l = false), Ev (fun k => spec_BestDegree.j0 k l true a0 a1 a2 a3) (if okFetch a0 a1 a2 a3 l = true then (bestF a0 a2 a3 l 4 1 0 (costF a0 0 a2 a3 l), true) else (0, false)) := fun hx => by
    refine Ev.succ ?_
    simp only [spec_BestDegree.j0]
    exact Ev.pos (by simp) (Ev.some (by rw [hx]; rfl))
  cases hp : okPref a0 a1 a2 a3 with
  | false => exact Ev.neg (by simp) (hbad (by unfold okFetch; rw [hp]; rfl))
  | true =>
    refine Ev.pos rfl (Ev.bind (specLoads0_ev l hl) ?_)
    cases hv : (decide (l.length ≤ 60) && !(l.any xpLoad)) with
    | false => exact hbad (by unfold okFetch; rw [hp, hv]; rfl)
    | true =>
      have h : okFetch a0 a1 a2 a3 l = true := by unfold okFetch; rw [hp, hv]; rfl
      rw [if_pos h]
      refine Ev.succ ?_
      simp only [spec_BestDegree.j0]
      refine Ev.neg (by simp) (Ev.succ ?_)
      simp only [spec_BestDegree.l0]
      have hk := ok_degree h (Int.le_refl 0) (by omega)
      obtain ⟨c1, c2, c3⟩ := cost_range hk
      refine Ev.pos (by omega) (Ev.bindc (do_f hk) ?_)
      show Ev (fun k => if wrap64 ((endF a0 0 a2 a3 l).n0 + (endF a0 0 a2 a3 l).n3) < 61 then spec_BestDegree.l0 k l 0 (wrap64 ((endF a0 0 a2 a3 l).n0 + (endF a0 0 a2 a3 l).n3)) (wrap64 (0 + 1)) a0 a1 a2 a3 else spec_BestDegree.l0 k l 0 61 (wrap64 (0 + 1)) a0 a1 a2 a3) _
      rw [c3, wrap_one]
      exact Ev.pos (by omega) (specBest_l0 h 4 1 0 _ (by omega) (by omega) c1)
theorem FnExactBestDegree : laws_FnExactBestDegree.Pure := by
  intro a0 a1 a2 a3 l _ _ _ _ ⟨hl, _⟩
  refine Ev.rounds ?_
  unfold laws_FnExactBestDegree.f
  by_cases hb : (1048576 : Int) < l.length
  · refine Ev.bindc (szLoadS_f l 1048576 (by omega) (by omega) hl) ?_
    rw [if_pos hb]
    exact Ev.pos (by omega) (Ev.some rfl)
  · have hn : l.length ≤ 1048576 := by omega
    have hm : (l.map cvLoad).length ≤ 1048576 := by simpa using hn
    have h1 := toLoadS_ev l hn
    have h2 := specBest_ev a0 a1 a2 a3 hm
    have h3 := implBest_ev a0 a1 a2 a3 (l.map cvLoad)
    have hp : laws_toPrefetcher.f a0 a1 a2 a3 = some (a0, a1, a2, a3) := rfl
    have h5 := eqLoadS_ev (l.map cvLoad) hm
    refine Ev.bindc (szLoadS_f l 1048576 (by omega) (by omega) hl) ?_
    rw [if_neg hb]
    refine Ev.neg (by omega) (Ev.bindc hp (Ev.bind h1 (Ev.bind h2 (Ev.bind h1 (Ev.bindc hp (Ev.bind h3 (Ev.pos rfl (Ev.succ ?_))))))))
    simp only [laws_FnExactBestDegree.j0]
    exact Ev.neg (by simp) (Ev.bind h1 (Ev.bind h5 (Ev.pos rfl (Ev.some rfl))))
end Go.Proofs.Ytpooojgeonpmnaa.Pure
