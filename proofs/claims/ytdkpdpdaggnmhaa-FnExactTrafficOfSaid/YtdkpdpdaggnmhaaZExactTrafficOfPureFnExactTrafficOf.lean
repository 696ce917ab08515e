/- The statement FnExactTrafficOf over lists alone: both programs make the same run of the cache, and tell the same traffic. -/
import Derived.Test.YtdkpdpdaggnmhaaZExactTrafficOfPFnExactTrafficOfx
import Derived.Test.YtdkpdpdaggnmhaaZExactTrafficOfX2
import Derived.Test.YtdkpdpdaggnmhaaZExactTrafficOfX7
namespace Go.Proofs.Ytdkpdpdaggnmhaa.Pure
open Go.RowKit Go.Proofs.YtdkpdpdaggnmhaaW.PrintWords Go.Proofs.Ytdkpdpdaggnmhaa.PFnExactTrafficOf
set_option linter.unusedVariables false
set_option linter.unusedSimpArgs false

theorem szInt64S_f (l : List Int) (a : Int) (h0 : 0 ≤ a) (h1 : a ≤ 1048576) (hl : l.length ≤ 9223372036854775807) : laws_szInt64S.f l a = some (if a < l.length then -1 else a - l.length) := by
  unfold laws_szInt64S.f
  rw [wrap_id (by omega) (by omega)]
  by_cases h : a < l.length
  · rw [if_pos (by omega), if_pos h]
  · rw [if_neg (by omega), if_neg h]
theorem szInt64SS_ev (l : List (List Int)) (a : Int) (h0 : 0 ≤ a) (h1 : a ≤ 1048576) (hl : l.length ≤ 9223372036854775807) (hi : ∀ x ∈ l, x.length ≤ 9223372036854775807) :
    Ev (fun k => laws_szInt64SS.f k l a) (if a < (l.length : Int) + (sumLen l : Int) then -1 else a - ((l.length : Int) + (sumLen l : Int))) := by
  unfold laws_szInt64SS.f
  rw [wrap_id (by omega) (by omega)]
  by_cases h : a < l.length
  · refine Ev.pos (by omega) (Ev.some ?_)
    rw [if_pos (by omega)]
  · refine Ev.neg (by omega) ?_
    have key : ∀ d i (b : Int), l.length - i = d → i ≤ l.length → 0 ≤ b → b ≤ 1048576 → Ev (fun k => laws_szInt64SS.l0 k l b (i : Int)) (if b < (sumLen (l.drop i) : Int) then -1 else b - (sumLen (l.drop i) : Int)) := by
      intro d
      induction d with
      | zero =>
        intro i b hd hi' hb0 hb1
        refine Ev.succ ?_
        simp only [laws_szInt64SS.l0]
        refine Ev.neg (by omega) (Ev.some ?_)
        rw [List.drop_eq_nil_of_le (by omega)]
        simp [sumLen]; omega
      | succ d ih =>
        intro i b hd hi' hb0 hb1
        refine Ev.succ ?_
        simp only [laws_szInt64SS.l0]
        have hx := hi _ (getD_mem l i [] (by omega))
        refine Ev.pos (by omega) (Ev.pos (by omega) (Ev.bindc (szInt64S_f (l.getD i []) b hb0 hb1 hx) ?_))
        rw [drop_cons l i [] (by omega), sumLen_cons]
        generalize l.getD i [] = x at hx ⊢
        by_cases hx2 : b < x.length
        · rw [if_pos hx2]
          refine Ev.pos (by omega) (Ev.some ?_)
          rw [if_pos (by omega)]
        · rw [if_neg hx2]
          refine Ev.neg (by omega) ?_
          rw [wrap_succ (show i < l.length by omega) (by omega)]
          have := ih (i + 1) (b - x.length) (by omega) (by omega) (by omega) (by omega)
          rw [show (if b < ((x.length + sumLen (l.drop (i + 1)) : Nat) : Int) then (-1 : Int) else b - ((x.length + sumLen (l.drop (i + 1)) : Nat) : Int)) = (if b - x.length < (sumLen (l.drop (i + 1)) : Int) then (-1 : Int) else b - x.length - (sumLen (l.drop (i + 1)) : Int)) by split <;> split <;> omega]
          exact this
    have := key l.length 0 (a - l.length) (by omega) (by omega) (by omega) (by omega)
    rw [List.drop_zero] at this
    rw [show (if a < (l.length : Int) + (sumLen l : Int) then (-1 : Int) else a - ((l.length : Int) + (sumLen l : Int))) = (if a - l.length < (sumLen l : Int) then (-1 : Int) else a - l.length - (sumLen l : Int)) by split <;> split <;> omega]
    exact this
theorem toInt64S_ev (l : List Int) (h : l.length ≤ 1048576) : Ev (fun k => laws_toInt64S.f k l) l := by
  unfold laws_toInt64S.f
  refine Ev.pos (by omega) (Ev.pos (by omega) ?_)
  refine Ev.upto (F := fun k s i => laws_toInt64S.l0 k l s i) (n := l.length) (r := l) (fun i s => s = (l.take i).map id ++ List.replicate (l.length - i) 0) ?_ ?_ 0 (Nat.zero_le _) _ (by simp)
  · intro i s hi hs ih
    have hsl : s.length = l.length := by rw [hs]; simp; omega
    refine Ev.succ ?_
    simp only [laws_toInt64S.l0]
    refine Ev.pos (by omega) (Ev.pos (by omega) (Ev.pos (by omega) ?_))
    rw [wrap_succ hi (by omega)]
    refine ih _ ?_
    rw [hs, Int.toNat_natCast]
    exact fill_next id l 0 0 i hi _ rfl
  · intro s hs
    refine Ev.succ ?_
    simp only [laws_toInt64S.l0]
    exact Ev.neg (by omega) (Ev.some (by rw [hs]; simp))
theorem toInt64SS_ev (l : List (List Int)) (h : l.length ≤ 1048576) (hi : ∀ x ∈ l, x.length ≤ 1048576) : Ev (fun k => laws_toInt64SS.f k l) (l.map id) := by
  unfold laws_toInt64SS.f
  refine Ev.pos (by omega) (Ev.pos (by omega) ?_)
  refine Ev.upto (F := fun k s i => laws_toInt64SS.l0 k l s i) (n := l.length) (r := l.map id) (fun i s => s = (l.take i).map id ++ List.replicate (l.length - i) []) ?_ ?_ 0 (Nat.zero_le _) _ (by simp)
  · intro i s hi' hs ih
    have hsl : s.length = l.length := by rw [hs]; simp; omega
    refine Ev.succ ?_
    simp only [laws_toInt64SS.l0]
    refine Ev.pos (by omega) (Ev.pos (by omega) (Ev.bind (toInt64S_ev (l.getD i []) (hi _ (getD_mem l i [] hi'))) (Ev.pos (by omega) ?_)))
    rw [wrap_succ hi' (by omega)]
    refine ih _ ?_
    rw [hs, Int.toNat_natCast]
    exact fill_next id l [] [] i hi' _ rfl
  · intro s hs
    refine Ev.succ ?_
    simp only [laws_toInt64SS.l0]
    exact Ev.neg (by omega) (Ev.some (by rw [hs]; simp))
theorem eqInt64S_ev (l : List Int) (h : l.length ≤ 1048576) : Ev (fun k => laws_eqInt64S.f k l l) true := by
  unfold laws_eqInt64S.f
  refine Ev.pos rfl ?_
  refine Ev.upto (F := fun k (_ : Unit) i => laws_eqInt64S.l0 k l l i) (n := l.length) (r := true) (fun _ _ => True) ?_ ?_ 0 (Nat.zero_le _) () trivial
  · intro i s hi _ ih
    refine Ev.succ ?_
    simp only [laws_eqInt64S.l0]
    refine Ev.pos (by omega) (Ev.pos (by omega) (Ev.pos (by omega) (Ev.pos (by simp) ?_)))
    rw [wrap_succ hi (by omega)]
    exact ih () trivial
  · intro s _
    refine Ev.succ ?_
    simp only [laws_eqInt64S.l0]
    exact Ev.neg (by omega) (Ev.some rfl)
theorem eqInt64SS_ev (l : List (List Int)) (h : l.length ≤ 1048576) (hi : ∀ x ∈ l, x.length ≤ 1048576) : Ev (fun k => laws_eqInt64SS.f k l l) true := by
  unfold laws_eqInt64SS.f
  refine Ev.pos rfl ?_
  refine Ev.upto (F := fun k (_ : Unit) i => laws_eqInt64SS.l0 k l l i) (n := l.length) (r := true) (fun _ _ => True) ?_ ?_ 0 (Nat.zero_le _) () trivial
  · intro i s hi' _ ih
    refine Ev.succ ?_
    simp only [laws_eqInt64SS.l0]
    refine Ev.pos (by omega) (Ev.pos (by omega) (Ev.pos (by omega) (Ev.bind (eqInt64S_ev (l.getD i []) (hi _ (getD_mem l i [] hi'))) (Ev.pos rfl ?_))))
    rw [wrap_succ hi' (by omega)]
    exact ih () trivial
  · intro s _
    refine Ev.succ ?_
    simp only [laws_eqInt64SS.l0]
    exact Ev.neg (by omega) (Ev.some rfl)
theorem szPolicy_ev (h : List (List Int)) (m : List Int) (a : Int) (h0 : 0 ≤ a) (h1 : a ≤ 1048576) (hl : h.length ≤ 9223372036854775807) (hi : ∀ x ∈ h, x.length ≤ 9223372036854775807) (hm : m.length ≤ 9223372036854775807) :
    Ev (fun k => laws_szPolicy.f k h m a) (if a < (h.length : Int) + (sumLen h : Int) + m.length then -1 else a - ((h.length : Int) + (sumLen h : Int) + m.length)) := by
  unfold laws_szPolicy.f
  refine Ev.bind (szInt64SS_ev h a h0 h1 hl hi) ?_
  by_cases hb : a < (h.length : Int) + (sumLen h : Int)
  · rw [if_pos hb]
    exact Ev.pos (by omega) (Ev.some (by rw [if_pos (by omega)]))
  · rw [if_neg hb]
    refine Ev.neg (by omega) (Ev.bindc (szInt64S_f m _ (by omega) (by omega) hm) ?_)
    by_cases hc : a - ((h.length : Int) + (sumLen h : Int)) < m.length
    · rw [if_pos hc]
      exact Ev.pos (by omega) (Ev.some (by rw [if_pos (by omega)]))
    · rw [if_neg hc]
      exact Ev.neg (by omega) (Ev.some (by rw [if_neg (by omega)]; omega))
theorem toPolicy_ev (h : List (List Int)) (m : List Int) (hl : h.length ≤ 1048576) (hi : ∀ x ∈ h, x.length ≤ 1048576) (hm : m.length ≤ 1048576) : Ev (fun k => laws_toPolicy.f k h m) (h, m) := by
  unfold laws_toPolicy.f
  have e := toInt64SS_ev h hl hi
  rw [List.map_id] at e
  exact Ev.bind e (Ev.bind (toInt64S_ev m hm) (Ev.some rfl))
theorem eqPolicy_ev (h : List (List Int)) (m : List Int) (hl : h.length ≤ 1048576) (hi : ∀ x ∈ h, x.length ≤ 1048576) (hm : m.length ≤ 1048576) : Ev (fun k => laws_eqPolicy.f k h m h m) true := by
  unfold laws_eqPolicy.f
  exact Ev.bind (eqInt64SS_ev h hl hi) (Ev.pos rfl (Ev.bind (eqInt64S_ev m hm) (Ev.pos rfl (Ev.some rfl))))
theorem szAccessS_f (l : List S80) (a : Int) (h0 : 0 ≤ a) (h1 : a ≤ 1048576) (hl : l.length ≤ 9223372036854775807) : laws_szAccessS.f l a = some (if a < l.length then -1 else a - l.length) := by
  unfold laws_szAccessS.f
  rw [wrap_id (by omega) (by omega)]
  by_cases h : a < l.length
  · rw [if_pos (by omega), if_pos h]
  · rw [if_neg (by omega), if_neg h]
def cvAccess (x : S80) : S37 := ⟨x.f0, x.f1⟩
theorem toAccessS_ev (l : List S80) (h : l.length ≤ 1048576) : Ev (fun k => laws_toAccessS.f k l) (l.map cvAccess) := by
  unfold laws_toAccessS.f
  refine Ev.pos (by omega) (Ev.pos (by omega) ?_)
  refine Ev.upto (F := fun k s i => laws_toAccessS.l0 k l s i) (n := l.length) (r := l.map cvAccess) (fun i s => s = (l.take i).map cvAccess ++ List.replicate (l.length - i) z37) ?_ ?_ 0 (Nat.zero_le _) _ (by simp)
  · intro i s hi hs ih
    have hsl : s.length = l.length := by rw [hs]; simp; omega
    refine Ev.succ ?_
    simp only [laws_toAccessS.l0]
    refine Ev.pos (by omega) (Ev.pos (by omega) (Ev.bindc (a := ((rd_T80 l (i : Int)).f0, (rd_T80 l (i : Int)).f1)) rfl (Ev.pos (by omega) ?_)))
    rw [wrap_succ hi (by omega)]
    refine ih _ ?_
    rw [hs, Int.toNat_natCast]
    exact fill_next cvAccess l z37 z80 i hi _ rfl
  · intro s hs
    refine Ev.succ ?_
    simp only [laws_toAccessS.l0]
    exact Ev.neg (by omega) (Ev.some (by rw [hs]; simp))
theorem eqAccessS_ev (l : List S37) (h : l.length ≤ 1048576) : Ev (fun k => laws_eqAccessS.f k l l) true := by
  unfold laws_eqAccessS.f
  refine Ev.pos rfl ?_
  refine Ev.upto (F := fun k (_ : Unit) i => laws_eqAccessS.l0 k l l i) (n := l.length) (r := true) (fun _ _ => True) ?_ ?_ 0 (Nat.zero_le _) () trivial
  · intro i s hi _ ih
    refine Ev.succ ?_
    simp only [laws_eqAccessS.l0]
    refine Ev.pos (by omega) (Ev.pos (by omega) (Ev.pos (by omega) (Ev.bindc (a := true) (by simp [laws_eqAccess.f]) (Ev.pos rfl ?_))))
    rw [wrap_succ hi (by omega)]
    exact ih () trivial
  · intro s _
    refine Ev.succ ?_
    simp only [laws_eqAccessS.l0]
    exact Ev.neg (by omega) (Ev.some rfl)
theorem szCache_ev (h : List (List Int)) (m : List Int) (b1 b2 : Bool) (hl : h.length ≤ 9223372036854775807) (hi : ∀ x ∈ h, x.length ≤ 9223372036854775807) (hm : m.length ≤ 9223372036854775807) :
    ∃ z, Ev (fun k => laws_szCache.f k h m b1 b2 1048576) z ∧ (z < 0 ∨ 0 ≤ z ∧ z ≤ 1048576 ∧ polLen h m) := by
  unfold laws_szCache.f
  by_cases hb : (1048576 : Int) < (h.length : Int) + (sumLen h : Int) + m.length
  · refine ⟨-1, Ev.bind (szPolicy_ev h m 1048576 (by omega) (by omega) hl hi hm) ?_, .inl (by omega)⟩
    rw [if_pos hb]
    exact Ev.pos (by omega) (Ev.some rfl)
  · refine ⟨1048576 - ((h.length : Int) + (sumLen h : Int) + m.length), Ev.bind (szPolicy_ev h m 1048576 (by omega) (by omega) hl hi hm) ?_, .inr ⟨by omega, by omega, by omega, fun x hx => by have := sumLen_mem hx; omega, by omega⟩⟩
    rw [if_neg hb]
    exact Ev.neg (by omega) (Ev.some rfl)
theorem toCache_ev (h : List (List Int)) (m : List Int) (b1 b2 : Bool) (hp : polLen h m) : Ev (fun k => laws_toCache.f k h m b1 b2) (h, m, b1, b2) := by
  unfold laws_toCache.f
  exact Ev.bind (toPolicy_ev h m hp.1 hp.2.1 hp.2.2) (Ev.some rfl)
theorem eqCache_ev (h : List (List Int)) (m : List Int) (b1 b2 : Bool) (hp : polLen h m) : Ev (fun k => laws_eqCache.f k h m b1 b2 h m b1 b2) true := by
  unfold laws_eqCache.f
  exact Ev.bind (eqPolicy_ev h m hp.1 hp.2.1 hp.2.2) (Ev.pos rfl (Ev.neg (by simp) (Ev.neg (by simp) (Ev.some rfl))))

theorem eqTraffic_f (a b c d e : Int) : laws_eqTraffic.f a b c d e a b c d e = some true := by
  unfold laws_eqTraffic.f
  simp

theorem FnExactTrafficOf : laws_FnExactTrafficOf.Pure := by
  intro h m b1 b2 t ⟨hl, he⟩ ⟨hm, _⟩ ⟨ht, _⟩
  refine Ev.rounds ?_
  unfold laws_FnExactTrafficOf.f
  obtain ⟨z, ez, hz⟩ := szCache_ev h m b1 b2 hl (fun x hx => (he x hx).1) hm
  refine Ev.bind ez ?_
  rcases hz with hz | ⟨hz, hz2, hp⟩
  · exact Ev.pos hz (Ev.some rfl)
  refine Ev.neg (by omega) (Ev.bindc (szAccessS_f t z hz hz2 ht) ?_)
  by_cases hb : z < t.length
  · rw [if_pos hb]
    exact Ev.pos (by omega) (Ev.some rfl)
  rw [if_neg hb]
  have U : t.length ≤ 1048576 := by omega
  have U2 : (t.map cvAccess).length ≤ 1048576 := by rw [List.length_map]; exact U
  have tc := toCache_ev h m b1 b2 hp
  have ta := toAccessS_ev t U
  have qc := eqCache_ev h m b1 b2 hp
  have qa := eqAccessS_ev (t.map cvAccess) U2
  have es : spec_TrafficOf.f h m b1 b2 (t.map cvAccess) = some (trafficV h m b1 b2 (t.map cvAccess)) := by unfold spec_TrafficOf.f; rw [if_pos ⟨hp, U2⟩]
  have ei : impl_TrafficOf.f h m b1 b2 (t.map cvAccess) = some (trafficV h m b1 b2 (t.map cvAccess)) := by unfold impl_TrafficOf.f; rw [if_pos ⟨hp, U2⟩]
  refine Ev.neg (by omega) (Ev.bind tc (Ev.bind ta (Ev.bindc es (Ev.bind tc (Ev.bind ta (Ev.bindc ei (Ev.bindc (eqTraffic_f _ _ _ _ _) (Ev.pos rfl ?_))))))))
  refine Ev.succ ?_
  simp only [laws_FnExactTrafficOf.j0]
  exact Ev.neg (by simp) (Ev.bind tc (Ev.bind qc (Ev.pos rfl (Ev.bind ta (Ev.bind qa (Ev.pos rfl (Ev.some rfl)))))))

end Go.Proofs.Ytdkpdpdaggnmhaa.Pure
