/- The statement FnExactBusTraffic over lists alone: both programs count the same traffic. -/
import Derived.Test.YtlaafbaheoeclaaZExactBusTrafficPFnExactBusTrafficx
import Derived.Test.YtlaafbaheoeclaaZExactBusTrafficX2
namespace Go.Proofs.Ytlaafbaheoeclaa.Pure
open Go.RowKit Go.Proofs.YtlaafbaheoeclaaW.PrintWords Go.Proofs.Ytlaafbaheoeclaa.PFnExactBusTraffic
set_option linter.unusedVariables false
set_option linter.unusedSimpArgs false

theorem szRuleS_f (l : List S50) (a : Int) (h0 : 0 ≤ a) (h1 : a ≤ 1048576) (hl : l.length ≤ 9223372036854775807) : laws_szRuleS.f l a = some (if a < l.length then -1 else a - l.length) := by
  unfold laws_szRuleS.f
  rw [wrap_id (by omega) (by omega)]
  by_cases h : a < l.length
  · rw [if_pos (by omega), if_pos h]
  · rw [if_neg (by omega), if_neg h]
theorem szOpS_f (l : List S120) (a : Int) (h0 : 0 ≤ a) (h1 : a ≤ 1048576) (hl : l.length ≤ 9223372036854775807) : laws_szOpS.f l a = some (if a < l.length then -1 else a - l.length) := by
  unfold laws_szOpS.f
  rw [wrap_id (by omega) (by omega)]
  by_cases h : a < l.length
  · rw [if_pos (by omega), if_pos h]
  · rw [if_neg (by omega), if_neg h]
def cvRule (x : S50) : S58 := ⟨x.f0, x.f1, x.f2⟩
theorem toRuleS_ev (l : List S50) (h : l.length ≤ 1048576) : Ev (fun k => laws_toRuleS.f k l) (l.map cvRule) := by
  unfold laws_toRuleS.f
  refine Ev.pos (by omega) (Ev.pos (by omega) ?_)
  refine Ev.upto (F := fun k s i => laws_toRuleS.l0 k l s i) (n := l.length) (r := l.map cvRule) (fun i s => s = (l.take i).map cvRule ++ List.replicate (l.length - i) z58) ?_ ?_ 0 (Nat.zero_le _) _ (by simp)
  · intro i s hi hs ih
    have hsl : s.length = l.length := by rw [hs]; simp; omega
    refine Ev.succ ?_
    simp only [laws_toRuleS.l0]
    refine Ev.pos (by omega) (Ev.pos (by omega) (Ev.bindc (a := ((rd_T50 l (i : Int)).f0, (rd_T50 l (i : Int)).f1, (rd_T50 l (i : Int)).f2)) rfl (Ev.pos (by omega) ?_)))
    rw [wrap_succ hi (by omega)]
    refine ih _ ?_
    rw [hs, Int.toNat_natCast]
    exact fill_next cvRule l z58 z50 i hi _ rfl
  · intro s hs
    refine Ev.succ ?_
    simp only [laws_toRuleS.l0]
    exact Ev.neg (by omega) (Ev.some (by rw [hs]; simp))
def cvOp (x : S120) : S118 := ⟨x.f0, x.f1⟩
theorem toOpS_ev (l : List S120) (h : l.length ≤ 1048576) : Ev (fun k => laws_toOpS.f k l) (l.map cvOp) := by
  unfold laws_toOpS.f
  refine Ev.pos (by omega) (Ev.pos (by omega) ?_)
  refine Ev.upto (F := fun k s i => laws_toOpS.l0 k l s i) (n := l.length) (r := l.map cvOp) (fun i s => s = (l.take i).map cvOp ++ List.replicate (l.length - i) z118) ?_ ?_ 0 (Nat.zero_le _) _ (by simp)
  · intro i s hi hs ih
    have hsl : s.length = l.length := by rw [hs]; simp; omega
    refine Ev.succ ?_
    simp only [laws_toOpS.l0]
    refine Ev.pos (by omega) (Ev.pos (by omega) (Ev.bindc (a := ((rd_T120 l (i : Int)).f0, (rd_T120 l (i : Int)).f1)) rfl (Ev.pos (by omega) ?_)))
    rw [wrap_succ hi (by omega)]
    refine ih _ ?_
    rw [hs, Int.toNat_natCast]
    exact fill_next cvOp l z118 z120 i hi _ rfl
  · intro s hs
    refine Ev.succ ?_
    simp only [laws_toOpS.l0]
    exact Ev.neg (by omega) (Ev.some (by rw [hs]; simp))
theorem eqRuleS_ev (l : List S58) (h : l.length ≤ 1048576) : Ev (fun k => laws_eqRuleS.f k l l) true := by
  unfold laws_eqRuleS.f
  refine Ev.pos rfl ?_
  refine Ev.upto (F := fun k (_ : Unit) i => laws_eqRuleS.l0 k l l i) (n := l.length) (r := true) (fun _ _ => True) ?_ ?_ 0 (Nat.zero_le _) () trivial
  · intro i s hi _ ih
    refine Ev.succ ?_
    simp only [laws_eqRuleS.l0]
    refine Ev.pos (by omega) (Ev.pos (by omega) (Ev.pos (by omega) (Ev.bindc (a := true) (by simp [laws_eqRule.f]) (Ev.pos rfl ?_))))
    rw [wrap_succ hi (by omega)]
    exact ih () trivial
  · intro s _
    refine Ev.succ ?_
    simp only [laws_eqRuleS.l0]
    exact Ev.neg (by omega) (Ev.some rfl)
theorem eqOpS_ev (l : List S118) (h : l.length ≤ 1048576) : Ev (fun k => laws_eqOpS.f k l l) true := by
  unfold laws_eqOpS.f
  refine Ev.pos rfl ?_
  refine Ev.upto (F := fun k (_ : Unit) i => laws_eqOpS.l0 k l l i) (n := l.length) (r := true) (fun _ _ => True) ?_ ?_ 0 (Nat.zero_le _) () trivial
  · intro i s hi _ ih
    refine Ev.succ ?_
    simp only [laws_eqOpS.l0]
    refine Ev.pos (by omega) (Ev.pos (by omega) (Ev.pos (by omega) (Ev.bindc (a := true) (by simp [laws_eqOp.f]) (Ev.pos rfl ?_))))
    rw [wrap_succ hi (by omega)]
    exact ih () trivial
  · intro s _
    refine Ev.succ ?_
    simp only [laws_eqOpS.l0]
    exact Ev.neg (by omega) (Ev.some rfl)
theorem getD_in4 {t : List S58} (h : t.length = 4) {q : Int} (h0 : 0 ≤ q) (h3 : q ≤ 3) : t.getD q.toNat z58 ∈ t := by
  rw [getD_lt t _ _ (by omega)]; exact List.getElem_mem _
theorem set_self {α : Type} (l : List α) (i : Nat) (z : α) : l.set i (l.getD i z) = l := by
  by_cases h : i < l.length
  · rw [getD_lt l i z h]; exact List.set_getElem_self h
  · exact List.set_eq_of_length_le (by omega)
theorem seeFrom_at (tab : List S58) (i : Nat) : ∀ d j c f m b, (seeFrom tab (i : Int) d j c f m b).1.getD i 0 = c.getD i 0 := by
  intro d
  induction d with
  | zero => intro j c f m b; rfl
  | succ d ih =>
    intro j c f m b
    unfold seeFrom
    by_cases h1 : ((j : Int) == (i : Int)) = true
    · rw [if_pos h1]; exact ih _ _ _ _ _
    · rw [if_neg h1]
      by_cases h2 : (c.getD j 0 == 0) = true
      · rw [if_pos h2]; exact ih _ _ _ _ _
      · rw [if_neg h2, ih]
        have hne : j ≠ i := fun e => h1 (by rw [e]; exact beq_self_eq_true _)
        simp only [List.getD_eq_getElem?_getD, List.getElem?_set_ne hne]
theorem seeFrom_valid (tab : List S58) (i : Int) (ht : tab.length = 4) (hv : ∀ r ∈ tab, 0 ≤ r.f0 ∧ r.f0 ≤ 3) : ∀ d j c f m b, (∀ x ∈ c, 0 ≤ x ∧ x ≤ 3) → j + d ≤ c.length → (seeFrom tab i d j c f m b).1.length = c.length ∧ (seeFrom tab i d j c f m b).2.1.length = f.length ∧ ∀ x ∈ (seeFrom tab i d j c f m b).1, 0 ≤ x ∧ x ≤ 3 := by
  intro d
  induction d with
  | zero => intro j c f m b hc _; exact ⟨rfl, rfl, hc⟩
  | succ d ih =>
    intro j c f m b hc hj
    unfold seeFrom
    by_cases h1 : ((j : Int) == i) = true
    · rw [if_pos h1]; exact ih _ _ _ _ _ hc (by omega)
    · rw [if_neg h1]
      by_cases h2 : (c.getD j 0 == 0) = true
      · rw [if_pos h2]; exact ih _ _ _ _ _ hc (by omega)
      · rw [if_neg h2]
        have hcj := hc (c.getD j 0) (by rw [getD_lt c j 0 (by omega)]; exact List.getElem_mem _)
        have hr := hv _ (getD_in4 ht hcj.1 hcj.2)
        have := ih (j + 1) (c.set j (tab.getD (c.getD j 0).toNat z58).f0) (f.set j (f.getD j false && !decide ((tab.getD (c.getD j 0).toNat z58).f0 = 0))) (if (tab.getD (c.getD j 0).toNat z58).f2 = true then f.getD j false else m) (if (tab.getD (c.getD j 0).toNat z58).f2 = true then b + 1 else b) (fun x hx => by
          rcases List.mem_or_eq_of_mem_set hx with hx | hx
          · exact hc x hx
          · rw [hx]; exact hr) (by rw [List.length_set]; omega)
        rw [List.length_set, List.length_set] at this
        exact this
theorem othersFrom_iff (l : List Int) (i : Nat) (v : Int) : ∀ k d, othersFrom (l.set i v) i k d = true ↔ ∃ j, d ≤ j ∧ j < d + k ∧ j ≠ i ∧ l.getD j 0 ≠ 0 := by
  intro k
  induction k with
  | zero => intro d; simp [othersFrom]; intro j h1 h2; omega
  | succ k ih =>
    intro d
    unfold othersFrom
    by_cases h1 : d = i
    · rw [if_pos h1, ih]
      constructor
      · rintro ⟨j, a, b, c, e⟩; exact ⟨j, by omega, by omega, c, e⟩
      · rintro ⟨j, a, b, c, e⟩; exact ⟨j, by omega, by omega, c, e⟩
    · rw [if_neg h1]
      have hg : (l.set i v).getD d 0 = l.getD d 0 := by rw [List.getD_eq_getElem?_getD, List.getD_eq_getElem?_getD, List.getElem?_set_ne (fun e => h1 e.symm)]
      rw [hg]
      by_cases h2 : l.getD d 0 = 0
      · rw [if_pos h2, ih]
        constructor
        · rintro ⟨j, a, b, c, e⟩; exact ⟨j, by omega, by omega, c, e⟩
        · rintro ⟨j, a, b, c, e⟩
          refine ⟨j, ?_, by omega, c, e⟩
          by_cases hj : j = d
          · subst hj; exact absurd h2 e
          · omega
      · rw [if_neg h2]
        exact ⟨fun _ => ⟨d, by omega, by omega, h1, h2⟩, fun _ => rfl⟩
theorem others_any (l : List Int) (i : Nat) (v : Int) (h : l.getD i 0 = 0) : others (l.set i v) i = l.any (fun y => !decide (y = 0)) := by
  unfold others
  rw [Bool.eq_iff_iff, List.length_set, othersFrom_iff, List.any_eq_true]
  constructor
  · rintro ⟨j, _, hj, hne, hz⟩
    rw [Nat.zero_add] at hj
    rw [getD_lt l j 0 hj] at hz
    exact ⟨l[j], List.getElem_mem hj, by simpa using hz⟩
  · rintro ⟨y, hy, hz⟩
    obtain ⟨j, hj, rfl⟩ := List.getElem_of_mem hy
    have hz' : l[j] ≠ 0 := by simpa using hz
    refine ⟨j, by omega, by omega, ?_, by rw [getD_lt l j 0 hj]; exact hz'⟩
    rintro rfl
    rw [getD_lt l j 0 hj] at h
    exact hz' h
section
variable {t0 t1 t2 t3 t4 : List S58} {c : List Int} {f : List Bool} {m : Bool} {i : Nat}
theorem step_eq (l0 : t0.length = 4) (nz : ∀ r ∈ t0, r.f0 ≠ 0 ∧ r.f1 ≠ 0) (hc : ∀ x ∈ c, 0 ≤ x ∧ x ≤ 3) (hi : i < c.length) (kind : Int) : stepI t0 t1 t2 t3 t4 c f m kind i = stepS t0 t1 t2 t3 t4 c f m kind i := by
  have hci := hc (c.getD i 0) (by rw [getD_lt c i 0 hi]; exact List.getElem_mem _)
  unfold stepI stepS
  by_cases k0 : kind = 0
  · rw [if_pos k0, if_pos k0]
    by_cases q0 : c.getD i 0 = 0
    · simp only [if_pos q0]
      have hz := nz _ (getD_in4 (q := 0) l0 (by omega) (by omega))
      rw [show (0 : Int).toNat = 0 from rfl] at hz
      have hs : (seeAll t3 (i : Int) c f m).1.getD i 0 = 0 := by unfold seeAll; rw [seeFrom_at]; exact q0
      rw [others_any _ _ _ hs]
      cases hb : (seeAll t3 (i : Int) c f m).1.any (fun y => !decide (y = 0)) with
      | true => simp only [if_true, decide_eq_false hz.2, Bool.not_false, Bool.and_true, List.set_set]
      | false => simp only [Bool.false_eq_true, if_false, decide_eq_false hz.1, Bool.not_false, Bool.and_true]
    · simp only [if_neg q0]
      have hz := nz _ (getD_in4 l0 hci.1 hci.2)
      rw [decide_eq_false hz.1, Bool.not_false, Bool.and_true, set_self]
  · rw [if_neg k0, if_neg k0]
    by_cases k1 : kind = 1
    · rw [if_pos k1, if_pos k1]
      simp only [Bool.true_and]
    · rw [if_neg k1, if_neg k1]
      simp only [Bool.false_and]
theorem step_valid (l0 : t0.length = 4) (l1 : t1.length = 4) (l3 : t3.length = 4) (l4 : t4.length = 4) (v0 : ∀ r ∈ t0, (0 ≤ r.f0 ∧ r.f0 ≤ 3) ∧ 0 ≤ r.f1 ∧ r.f1 ≤ 3) (v1 : ∀ r ∈ t1, 0 ≤ r.f0 ∧ r.f0 ≤ 3) (v3 : ∀ r ∈ t3, 0 ≤ r.f0 ∧ r.f0 ≤ 3) (v4 : ∀ r ∈ t4, 0 ≤ r.f0 ∧ r.f0 ≤ 3) (hc : ∀ x ∈ c, 0 ≤ x ∧ x ≤ 3) (hi : i < c.length) (kind : Int) :
    (stepI t0 t1 t2 t3 t4 c f m kind i).1.length = c.length ∧ (stepI t0 t1 t2 t3 t4 c f m kind i).2.1.length = f.length ∧ ∀ x ∈ (stepI t0 t1 t2 t3 t4 c f m kind i).1, 0 ≤ x ∧ x ≤ 3 := by
  have hci := hc (c.getD i 0) (by rw [getD_lt c i 0 hi]; exact List.getElem_mem _)
  have key : ∀ (l : List Int) (v : Int), (∀ x ∈ l, 0 ≤ x ∧ x ≤ 3) → (0 ≤ v ∧ v ≤ 3) → ∀ x ∈ l.set i v, 0 ≤ x ∧ x ≤ 3 := fun l v hl hv x hx => by
    rcases List.mem_or_eq_of_mem_set hx with hx | hx
    · exact hl x hx
    · rw [hx]; exact hv
  unfold stepI finI
  by_cases k0 : kind = 0
  · rw [if_pos k0]
    by_cases q0 : c.getD i 0 = 0
    · simp only [if_pos q0]
      obtain ⟨s1, s2, s3⟩ := seeFrom_valid t3 (i : Int) l3 v3 c.length 0 c f m 0 hc (by omega)
      have hz := v0 _ (getD_in4 (q := 0) l0 (by omega) (by omega))
      rw [show (0 : Int).toNat = 0 from rfl] at hz
      refine ⟨by rw [List.length_set]; exact s1, by rw [List.length_set]; exact s2, key _ _ s3 ?_⟩
      split
      · exact hz.2
      · exact hz.1
    · simp only [if_neg q0]
      exact ⟨List.length_set .., List.length_set .., key _ _ hc (v0 _ (getD_in4 l0 hci.1 hci.2)).1⟩
  · rw [if_neg k0]
    by_cases k1 : kind = 1
    · rw [if_pos k1]
      obtain ⟨s1, s2, s3⟩ := seeFrom_valid t4 (i : Int) l4 v4 c.length 0 c f m 0 hc (by omega)
      cases hsn : (decide (c.getD i 0 = 0) || decide (c.getD i 0 = 1)) with
      | true =>
        simp only [hsn, if_true]
        exact ⟨by rw [List.length_set]; exact s1, by rw [List.length_set, List.length_replicate]; exact s2, key _ _ s3 (v1 _ (getD_in4 l1 hci.1 hci.2))⟩
      | false =>
        simp only [hsn, Bool.false_eq_true, if_false]
        exact ⟨List.length_set .., by rw [List.length_set, List.length_replicate], key _ _ hc (v1 _ (getD_in4 l1 hci.1 hci.2))⟩
    · rw [if_neg k1]
      exact ⟨List.length_set .., List.length_set .., key _ _ hc (by omega)⟩
end
theorem bus_eq {t0 t1 t2 t3 t4 : List S58} (hv : vprot t0 t1 t2 t3 t4 = true) : ∀ (ops : List S118) (c : List Int) (f : List Bool) (m : Bool) (many all : Int), (∀ x ∈ c, 0 ≤ x ∧ x ≤ 3) → (∀ o ∈ ops, 0 ≤ o.f1 ∧ o.f1 < c.length) → busI t0 t1 t2 t3 t4 ops c f m many all = busS t0 t1 t2 t3 t4 ops c f m many all := by
  obtain ⟨⟨e0, e1, e2, e3, e4⟩, v0, v1, v3, v4, nz⟩ := vprot_facts hv
  intro ops
  induction ops with
  | nil => intros; rfl
  | cons o os ih =>
    intro c f m many all hc ho
    have h1 := ho o List.mem_cons_self
    have hi : o.f1.toNat < c.length := by omega
    have hs := step_eq (t1 := t1) (t2 := t2) (t3 := t3) (t4 := t4) (f := f) (m := m) e0 nz hc hi o.f0
    obtain ⟨g1, g2, g3⟩ := step_valid (t2 := t2) (f := f) (m := m) e0 e1 e3 e4 v0 v1 v3 v4 hc hi o.f0
    unfold busI busS
    rw [← hs]
    split
    · rfl
    · exact ih _ _ _ _ _ g3 (fun o' ho' => by rw [g1]; exact ho o' (List.mem_cons_of_mem _ ho'))
theorem busR_eq (t0 t1 t2 t3 t4 : List S58) (n : Int) (ops : List S118) : busR t0 t1 t2 t3 t4 n ops = busRS t0 t1 t2 t3 t4 n ops := by
  unfold busR busRS
  by_cases hf : fitB t0 t1 t2 t3 t4 n ops = true
  · rw [if_pos hf, if_pos hf]
    unfold fitB at hf
    rw [Bool.and_eq_true, Bool.and_eq_true] at hf
    obtain ⟨⟨h1, h2⟩, h3⟩ := hf
    unfold capsB at h2
    rw [Bool.and_eq_true, decide_eq_true_eq, decide_eq_true_eq] at h2
    obtain ⟨k, rfl⟩ : ∃ k : Nat, n = (k : Int) := ⟨n.toNat, by omega⟩
    obtain ⟨_, hop⟩ := ops_facts h3
    refine bus_eq h1 ops _ _ _ _ _ (fun x hx => by rw [List.eq_of_mem_replicate hx]; omega) (fun o ho => ?_)
    rw [List.length_replicate, Int.toNat_natCast]
    exact (hop o ho).2
  · rw [if_neg hf, if_neg hf]
theorem szProtocol_f (l0 l1 l2 l3 l4 : List S50) (a : Int) (ha : 0 ≤ a) (ha1 : a ≤ 1048576) (h0 : l0.length ≤ 9223372036854775807) (h1 : l1.length ≤ 9223372036854775807) (h2 : l2.length ≤ 9223372036854775807) (h3 : l3.length ≤ 9223372036854775807) (h4 : l4.length ≤ 9223372036854775807) :
    laws_szProtocol.f l0 l1 l2 l3 l4 a = some (if a < (l0.length : Int) + l1.length + l2.length + l3.length + l4.length then -1 else a - ((l0.length : Int) + l1.length + l2.length + l3.length + l4.length)) := by
  unfold laws_szProtocol.f
  rw [szRuleS_f l0 a ha ha1 h0, Option.bind_some]
  by_cases q0 : a < l0.length
  · rw [if_pos q0, if_pos (by omega), if_pos (by omega)]
  rw [if_neg q0, if_neg (by omega), szRuleS_f l1 _ (by omega) (by omega) h1, Option.bind_some]
  by_cases q1 : a - l0.length < l1.length
  · rw [if_pos q1, if_pos (by omega), if_pos (by omega)]
  rw [if_neg q1, if_neg (by omega), szRuleS_f l2 _ (by omega) (by omega) h2, Option.bind_some]
  by_cases q2 : a - l0.length - l1.length < l2.length
  · rw [if_pos q2, if_pos (by omega), if_pos (by omega)]
  rw [if_neg q2, if_neg (by omega), szRuleS_f l3 _ (by omega) (by omega) h3, Option.bind_some]
  by_cases q3 : a - l0.length - l1.length - l2.length < l3.length
  · rw [if_pos q3, if_pos (by omega), if_pos (by omega)]
  rw [if_neg q3, if_neg (by omega), szRuleS_f l4 _ (by omega) (by omega) h4, Option.bind_some]
  by_cases q4 : a - l0.length - l1.length - l2.length - l3.length < l4.length
  · rw [if_pos q4, if_pos (by omega), if_pos (by omega)]
  rw [if_neg q4, if_neg (by omega), if_neg (by omega)]
  congr 1; omega
theorem toProtocol_ev (l0 l1 l2 l3 l4 : List S50) (h0 : l0.length ≤ 1048576) (h1 : l1.length ≤ 1048576) (h2 : l2.length ≤ 1048576) (h3 : l3.length ≤ 1048576) (h4 : l4.length ≤ 1048576) : Ev (fun k => laws_toProtocol.f k l0 l1 l2 l3 l4) (l0.map cvRule, l1.map cvRule, l2.map cvRule, l3.map cvRule, l4.map cvRule) := by
  unfold laws_toProtocol.f
  exact Ev.bind (toRuleS_ev l0 h0) (Ev.bind (toRuleS_ev l1 h1) (Ev.bind (toRuleS_ev l2 h2) (Ev.bind (toRuleS_ev l3 h3) (Ev.bind (toRuleS_ev l4 h4) (Ev.some rfl)))))
theorem eqProtocol_ev (l0 l1 l2 l3 l4 : List S58) (h0 : l0.length ≤ 1048576) (h1 : l1.length ≤ 1048576) (h2 : l2.length ≤ 1048576) (h3 : l3.length ≤ 1048576) (h4 : l4.length ≤ 1048576) : Ev (fun k => laws_eqProtocol.f k l0 l1 l2 l3 l4 l0 l1 l2 l3 l4) true := by
  unfold laws_eqProtocol.f
  exact Ev.bind (eqRuleS_ev l0 h0) (Ev.pos rfl (Ev.bind (eqRuleS_ev l1 h1) (Ev.pos rfl (Ev.bind (eqRuleS_ev l2 h2) (Ev.pos rfl (Ev.bind (eqRuleS_ev l3 h3) (Ev.pos rfl (Ev.bind (eqRuleS_ev l4 h4) (Ev.pos rfl (Ev.some rfl))))))))))
theorem FnExactBusTraffic : laws_FnExactBusTraffic.Pure := by
  intro l0 l1 l2 l3 l4 n ops ⟨w0, _⟩ ⟨w1, _⟩ ⟨w2, _⟩ ⟨w3, _⟩ ⟨w4, _⟩ _ ⟨w5, _⟩
  refine Ev.rounds ?_
  unfold laws_FnExactBusTraffic.f
  refine Ev.bindc (szProtocol_f l0 l1 l2 l3 l4 1048576 (by omega) (by omega) w0 w1 w2 w3 w4) ?_
  by_cases q : (1048576 : Int) < (l0.length : Int) + l1.length + l2.length + l3.length + l4.length
  · rw [if_pos q]
    exact Ev.pos (by omega) (Ev.some rfl)
  rw [if_neg q]
  refine Ev.neg (by omega) (Ev.bindc (szOpS_f ops _ (by omega) (by omega) w5) ?_)
  by_cases q1 : (1048576 : Int) - ((l0.length : Int) + l1.length + l2.length + l3.length + l4.length) < ops.length
  · rw [if_pos q1]
    exact Ev.pos (by omega) (Ev.some rfl)
  rw [if_neg q1]
  have g0 : l0.length ≤ 1048576 := by omega
  have g1 : l1.length ≤ 1048576 := by omega
  have g2 : l2.length ≤ 1048576 := by omega
  have g3 : l3.length ≤ 1048576 := by omega
  have g4 : l4.length ≤ 1048576 := by omega
  have g5 : ops.length ≤ 1048576 := by omega
  have tp := toProtocol_ev l0 l1 l2 l3 l4 g0 g1 g2 g3 g4
  have ep := eqProtocol_ev (l0.map cvRule) (l1.map cvRule) (l2.map cvRule) (l3.map cvRule) (l4.map cvRule) (by simpa using g0) (by simpa using g1) (by simpa using g2) (by simpa using g3) (by simpa using g4)
  have to_ := toOpS_ev ops g5
  have eo := eqOpS_ev (ops.map cvOp) (by simpa using g5)
  have hi : impl_BusTraffic.f (l0.map cvRule) (l1.map cvRule) (l2.map cvRule) (l3.map cvRule) (l4.map cvRule) n (ops.map cvOp) = some (busR (l0.map cvRule) (l1.map cvRule) (l2.map cvRule) (l3.map cvRule) (l4.map cvRule) n (ops.map cvOp)) := rfl
  have hs : spec_BusTraffic.f (l0.map cvRule) (l1.map cvRule) (l2.map cvRule) (l3.map cvRule) (l4.map cvRule) n (ops.map cvOp) = some (busR (l0.map cvRule) (l1.map cvRule) (l2.map cvRule) (l3.map cvRule) (l4.map cvRule) n (ops.map cvOp)) := by
    rw [busR_eq]; exact if_pos (by simpa using g5)
  generalize busR (l0.map cvRule) (l1.map cvRule) (l2.map cvRule) (l3.map cvRule) (l4.map cvRule) n (ops.map cvOp) = R at hi hs
  obtain ⟨a, b, d⟩ := R
  refine Ev.neg (by omega) (Ev.bind tp (Ev.bind to_ (Ev.bindc hs (Ev.bind tp (Ev.bind to_ (Ev.bindc hi (Ev.pos rfl (Ev.pos rfl ?_))))))))
  refine Ev.succ ?_
  simp only [laws_FnExactBusTraffic.j0]
  exact Ev.neg (by simp) (Ev.bind tp (Ev.bind ep (Ev.pos rfl (Ev.bind to_ (Ev.bind eo (Ev.pos rfl (Ev.some rfl)))))))

end Go.Proofs.Ytlaafbaheoeclaa.Pure
