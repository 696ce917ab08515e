/- The statement FnExactValidProtocol over lists alone: both programs say of five tables the same Bool (vprot): the contracts have shown it. -/
import Derived.Test.YtnocikchdkaabaaPFnExactValidProtocolx
import Derived.Test.YtnocikchdkaabaaX2
namespace Go.Proofs.Ytnocikchdkaabaa.Pure
open Go.RowKit Go.Proofs.YtnocikchdkaabaaW.PrintWords Go.Proofs.Ytnocikchdkaabaa.PFnExactValidProtocol
set_option linter.unusedVariables false
set_option linter.unusedSimpArgs false

theorem szRuleS_f (l : List S193) (a : Int) (h0 : 0 ≤ a) (h1 : a ≤ 1048576) (hl : l.length ≤ 9223372036854775807) : laws_szRuleS.f l a = some (if a < l.length then -1 else a - l.length) := by
  unfold laws_szRuleS.f
  rw [wrap_id (by omega) (by omega)]
  by_cases h : a < l.length
  · rw [if_pos (by omega), if_pos h]
  · rw [if_neg (by omega), if_neg h]
def cvRule (x : S193) : S139 := ⟨x.f0, x.f1, x.f2⟩
theorem toRuleS_ev (l : List S193) (h : l.length ≤ 1048576) : Ev (fun k => laws_toRuleS.f k l) (l.map cvRule) := by
  unfold laws_toRuleS.f
  refine Ev.pos (by omega) (Ev.pos (by omega) ?_)
  refine Ev.upto (F := fun k s i => laws_toRuleS.l0 k l s i) (n := l.length) (r := l.map cvRule) (fun i s => s = (l.take i).map cvRule ++ List.replicate (l.length - i) z139) ?_ ?_ 0 (Nat.zero_le _) _ (by simp)
  · intro i s hi hs ih
    have hsl : s.length = l.length := by rw [hs]; simp; omega
    refine Ev.succ ?_
    simp only [laws_toRuleS.l0]
    refine Ev.pos (by omega) (Ev.pos (by omega) (Ev.bindc (a := ((rd_T193 l (i : Int)).f0, (rd_T193 l (i : Int)).f1, (rd_T193 l (i : Int)).f2)) rfl (Ev.pos (by omega) ?_)))
    rw [wrap_succ hi (by omega)]
    refine ih _ ?_
    rw [hs, Int.toNat_natCast]
    exact fill_next cvRule l z139 z193 i hi _ rfl
  · intro s hs
    refine Ev.succ ?_
    simp only [laws_toRuleS.l0]
    exact Ev.neg (by omega) (Ev.some (by rw [hs]; simp))
theorem eqRuleS_ev (l : List S139) (h : l.length ≤ 1048576) : Ev (fun k => laws_eqRuleS.f k l l) true := by
  unfold laws_eqRuleS.f
  refine Ev.pos rfl ?_
  refine Ev.upto (F := fun k (_ : Unit) i => laws_eqRuleS.l0 k l l i) (n := l.length) (r := true) (fun _ _ => True) ?_ ?_ 0 (Nat.zero_le _) () trivial
  · intro i s hi _ ih
    refine Ev.succ ?_
    simp only [laws_eqRuleS.l0]
    refine Ev.pos (by omega) (Ev.pos (by omega) (Ev.pos (by omega) (Ev.bindc (a := true) (by simp [laws_eqRule.f]) (Ev.pos rfl ?_))))
    rw [wrap_succ hi (by omega)]
    exact ih () trivial
  · intro s _
    refine Ev.succ ?_
    simp only [laws_eqRuleS.l0]
    exact Ev.neg (by omega) (Ev.some rfl)

theorem szProtocol_f (l0 l1 l2 l3 l4 : List S193) (h0 : l0.length ≤ 9223372036854775807) (h1 : l1.length ≤ 9223372036854775807) (h2 : l2.length ≤ 9223372036854775807) (h3 : l3.length ≤ 9223372036854775807) (h4 : l4.length ≤ 9223372036854775807) :
    ∃ z, laws_szProtocol.f l0 l1 l2 l3 l4 1048576 = some z ∧ (z < 0 ∨ (l0.length ≤ 1048576 ∧ l1.length ≤ 1048576 ∧ l2.length ≤ 1048576 ∧ l3.length ≤ 1048576 ∧ l4.length ≤ 1048576)) := by
  unfold laws_szProtocol.f
  by_cases b0 : (1048576 : Int) < l0.length
  · exact ⟨-1, by rw [szRuleS_f l0 1048576 (by omega) (by omega) h0, if_pos b0]; rfl, .inl (by omega)⟩
  rw [szRuleS_f l0 1048576 (by omega) (by omega) h0, if_neg b0, Option.bind_some, if_neg (by omega)]
  by_cases b1 : (1048576 : Int) - l0.length < l1.length
  · exact ⟨-1, by rw [szRuleS_f l1 _ (by omega) (by omega) h1, if_pos b1]; rfl, .inl (by omega)⟩
  rw [szRuleS_f l1 _ (by omega) (by omega) h1, if_neg b1, Option.bind_some, if_neg (by omega)]
  by_cases b2 : (1048576 : Int) - l0.length - l1.length < l2.length
  · exact ⟨-1, by rw [szRuleS_f l2 _ (by omega) (by omega) h2, if_pos b2]; rfl, .inl (by omega)⟩
  rw [szRuleS_f l2 _ (by omega) (by omega) h2, if_neg b2, Option.bind_some, if_neg (by omega)]
  by_cases b3 : (1048576 : Int) - l0.length - l1.length - l2.length < l3.length
  · exact ⟨-1, by rw [szRuleS_f l3 _ (by omega) (by omega) h3, if_pos b3]; rfl, .inl (by omega)⟩
  rw [szRuleS_f l3 _ (by omega) (by omega) h3, if_neg b3, Option.bind_some, if_neg (by omega)]
  by_cases b4 : (1048576 : Int) - l0.length - l1.length - l2.length - l3.length < l4.length
  · exact ⟨-1, by rw [szRuleS_f l4 _ (by omega) (by omega) h4, if_pos b4]; rfl, .inl (by omega)⟩
  rw [szRuleS_f l4 _ (by omega) (by omega) h4, if_neg b4, Option.bind_some, if_neg (by omega)]
  exact ⟨_, rfl, .inr ⟨by omega, by omega, by omega, by omega, by omega⟩⟩

theorem FnExactValidProtocol : laws_FnExactValidProtocol.Pure := by
  intro l0 l1 l2 l3 l4 ⟨h0, _⟩ ⟨h1, _⟩ ⟨h2, _⟩ ⟨h3, _⟩ ⟨h4, _⟩
  refine Ev.rounds ?_
  obtain ⟨z, hz, hc⟩ := szProtocol_f l0 l1 l2 l3 l4 h0 h1 h2 h3 h4
  unfold laws_FnExactValidProtocol.f
  refine Ev.bindc hz ?_
  by_cases hn : z < 0
  · exact Ev.pos hn (Ev.some rfl)
  · refine Ev.neg hn ?_
    obtain ⟨g0, g1, g2, g3, g4⟩ := hc.resolve_left hn
    have t0 := toRuleS_ev l0 g0
    have t1 := toRuleS_ev l1 g1
    have t2 := toRuleS_ev l2 g2
    have t3 := toRuleS_ev l3 g3
    have t4 := toRuleS_ev l4 g4
    have hto : Ev (fun k => laws_toProtocol.f k l0 l1 l2 l3 l4) (l0.map cvRule, l1.map cvRule, l2.map cvRule, l3.map cvRule, l4.map cvRule) := by
      unfold laws_toProtocol.f
      exact Ev.bind t0 (Ev.bind t1 (Ev.bind t2 (Ev.bind t3 (Ev.bind t4 (Ev.some rfl)))))
    refine Ev.bind hto (Ev.bindc (a := vprot (l0.map cvRule) (l1.map cvRule) (l2.map cvRule) (l3.map cvRule) (l4.map cvRule)) (by unfold spec_ValidProtocol.f spec_l10Is.f; rfl) (Ev.bind hto (Ev.bindc (a := vprot (l0.map cvRule) (l1.map cvRule) (l2.map cvRule) (l3.map cvRule) (l4.map cvRule)) rfl (Ev.neg (by simp) (Ev.bind hto ?_)))))
    have heq : ∀ r0 r1 r2 r3 r4 : List S139, r0.length ≤ 1048576 → r1.length ≤ 1048576 → r2.length ≤ 1048576 → r3.length ≤ 1048576 → r4.length ≤ 1048576 → Ev (fun k => laws_eqProtocol.f k r0 r1 r2 r3 r4 r0 r1 r2 r3 r4) true := by
      intro r0 r1 r2 r3 r4 q0 q1 q2 q3 q4
      unfold laws_eqProtocol.f
      exact Ev.bind (eqRuleS_ev r0 q0) (Ev.pos rfl (Ev.bind (eqRuleS_ev r1 q1) (Ev.pos rfl (Ev.bind (eqRuleS_ev r2 q2) (Ev.pos rfl (Ev.bind (eqRuleS_ev r3 q3) (Ev.pos rfl (Ev.bind (eqRuleS_ev r4 q4) (Ev.pos rfl (Ev.some rfl))))))))))
    exact Ev.bind (heq _ _ _ _ _ (by simpa using g0) (by simpa using g1) (by simpa using g2) (by simpa using g3) (by simpa using g4)) (Ev.pos rfl (Ev.some rfl))

end Go.Proofs.Ytnocikchdkaabaa.Pure
