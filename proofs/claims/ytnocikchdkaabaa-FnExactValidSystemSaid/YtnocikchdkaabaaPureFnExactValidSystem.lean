/- The statement FnExactValidSystem over lists alone: both programs test the number of caches, the copies and that no missing copy is fresh. -/
import Derived.Test.YtnocikchdkaabaaPFnExactValidSystemx
import Derived.Test.YtnocikchdkaabaaX2
namespace Go.Proofs.Ytnocikchdkaabaa.Pure
open Go.RowKit Go.Proofs.YtnocikchdkaabaaW.PrintWords Go.Proofs.Ytnocikchdkaabaa.PFnExactValidSystem

theorem in_impl (a b c : Int) : impl_inRange.f a b c = some (decide (b ≤ a) && decide (a ≤ c)) := by
  unfold impl_inRange.f
  by_cases h : b ≤ a <;> simp [h]
theorem in_spec (a b c : Int) : spec_l00In.f a b c = some (decide (b ≤ a) && decide (a ≤ c)) := by
  unfold spec_l00In.f
  by_cases h : b ≤ a <;> simp [h]
theorem szInt64S_f (l : List Int) (a : Int) (h0 : 0 ≤ a) (h1 : a ≤ 1048576) (hl : l.length ≤ 9223372036854775807) : laws_szInt64S.f l a = some (if a < l.length then -1 else a - l.length) := by
  unfold laws_szInt64S.f
  rw [wrap_id (by omega) (by omega)]
  by_cases h : a < l.length
  · rw [if_pos (by omega), if_pos h]
  · rw [if_neg (by omega), if_neg h]
theorem szBoolS_f (l : List Bool) (a : Int) (h0 : 0 ≤ a) (h1 : a ≤ 1048576) (hl : l.length ≤ 9223372036854775807) : laws_szBoolS.f l a = some (if a < l.length then -1 else a - l.length) := by
  unfold laws_szBoolS.f
  rw [wrap_id (by omega) (by omega)]
  by_cases h : a < l.length
  · rw [if_pos (by omega), if_pos h]
  · rw [if_neg (by omega), if_neg h]
theorem toInt64S_ev (l : List Int) (h : l.length ≤ 1048576) : Ev (fun k => laws_toInt64S.f k l) l := by
  unfold laws_toInt64S.f
  refine Ev.pos (by omega) (Ev.pos (by omega) ?_)
  refine Ev.upto (F := fun k s i => laws_toInt64S.l0 k l s i) (n := l.length) (r := l) (fun i s => s = (l.take i).map id ++ List.replicate (l.length - i) 0) ?_ ?_ 0 (Nat.zero_le _) _ (by simp)
  · intro i s hi hs ih
    have hsl : s.length = l.length := by rw [hs]; simp; omega
    refine Ev.succ ?_
    simp only [laws_toInt64S.l0]
    refine Ev.pos (by omega) (Ev.pos (by omega) (Ev.pos (by omega) ?_))
    rw [wrap_succ hi (by omega)]
    refine ih _ ?_
    rw [hs, Int.toNat_natCast]
    exact fill_next id l 0 0 i hi _ rfl
  · intro s hs
    refine Ev.succ ?_
    simp only [laws_toInt64S.l0]
    exact Ev.neg (by omega) (Ev.some (by rw [hs]; simp))
theorem toBoolS_ev (l : List Bool) (h : l.length ≤ 1048576) : Ev (fun k => laws_toBoolS.f k l) l := by
  unfold laws_toBoolS.f
  refine Ev.pos (by omega) (Ev.pos (by omega) ?_)
  refine Ev.upto (F := fun k s i => laws_toBoolS.l0 k l s i) (n := l.length) (r := l) (fun i s => s = (l.take i).map id ++ List.replicate (l.length - i) false) ?_ ?_ 0 (Nat.zero_le _) _ (by simp)
  · intro i s hi hs ih
    have hsl : s.length = l.length := by rw [hs]; simp; omega
    refine Ev.succ ?_
    simp only [laws_toBoolS.l0]
    refine Ev.pos (by omega) (Ev.pos (by omega) (Ev.pos (by omega) ?_))
    rw [wrap_succ hi (by omega)]
    refine ih _ ?_
    rw [hs, Int.toNat_natCast]
    exact fill_next id l false false i hi _ rfl
  · intro s hs
    refine Ev.succ ?_
    simp only [laws_toBoolS.l0]
    exact Ev.neg (by omega) (Ev.some (by rw [hs]; simp))
theorem eqInt64S_ev (l : List Int) (h : l.length ≤ 1048576) : Ev (fun k => laws_eqInt64S.f k l l) true := by
  unfold laws_eqInt64S.f
  refine Ev.pos rfl ?_
  refine Ev.upto (F := fun k (_ : Unit) i => laws_eqInt64S.l0 k l l i) (n := l.length) (r := true) (fun _ _ => True) ?_ ?_ 0 (Nat.zero_le _) () trivial
  · intro i s hi _ ih
    refine Ev.succ ?_
    simp only [laws_eqInt64S.l0]
    refine Ev.pos (by omega) (Ev.pos (by omega) (Ev.pos (by omega) (Ev.pos (by simp) ?_)))
    rw [wrap_succ hi (by omega)]
    exact ih () trivial
  · intro s _
    refine Ev.succ ?_
    simp only [laws_eqInt64S.l0]
    exact Ev.neg (by omega) (Ev.some rfl)
theorem eqBoolS_ev (l : List Bool) (h : l.length ≤ 1048576) : Ev (fun k => laws_eqBoolS.f k l l) true := by
  unfold laws_eqBoolS.f
  refine Ev.pos rfl ?_
  refine Ev.upto (F := fun k (_ : Unit) i => laws_eqBoolS.l0 k l l i) (n := l.length) (r := true) (fun _ _ => True) ?_ ?_ 0 (Nat.zero_le _) () trivial
  · intro i s hi _ ih
    refine Ev.succ ?_
    simp only [laws_eqBoolS.l0]
    refine Ev.pos (by omega) (Ev.pos (by omega) (Ev.pos (by omega) (Ev.neg (by simp) ?_)))
    rw [wrap_succ hi (by omega)]
    exact ih () trivial
  · intro s _
    refine Ev.succ ?_
    simp only [laws_eqBoolS.l0]
    exact Ev.neg (by omega) (Ev.some rfl)
def sysAt (c : List Int) (f : List Bool) (i : Nat) : Bool := (decide (0 ≤ rd c (i : Int)) && decide (rd c (i : Int) ≤ 3)) && !(decide (rd c (i : Int) = 0) && rdOf false f (i : Int))
def sysFrom (c : List Int) (f : List Bool) : Nat → Nat → Bool
  | 0, _ => true
  | d + 1, i => sysAt c f i && sysFrom c f d (i + 1)
def sysOk (c : List Int) (f : List Bool) : Bool := (decide (1 ≤ (c.length : Int)) && decide ((c.length : Int) ≤ 3)) && (decide (f.length = c.length) && sysFrom c f c.length 0)
theorem specSysLoop_ev (c : List Int) (f : List Bool) (m : Bool) (hc : c.length ≤ 1048576) (hf : f.length = c.length) : ∀ d i, c.length - i = d → i ≤ c.length → Ev (fun k => spec_l10System.l0 k (i : Int) c f m) (sysFrom c f d i, m) := by
  intro d
  induction d with
  | zero =>
    intro i hd hi
    refine Ev.succ ?_
    simp only [spec_l10System.l0]
    exact Ev.neg (by omega) (Ev.some rfl)
  | succ d ih =>
    intro i hd hi
    refine Ev.succ ?_
    simp only [spec_l10System.l0, spec_l10Copy.f, in_spec, Option.bind_some]
    refine Ev.pos (by omega) (Ev.pos (by omega) ?_)
    rw [wrap_succ (show i < c.length by omega) (by omega)]
    have := ih (i + 1) (by omega) (by omega)
    show Ev _ (sysAt c f i && sysFrom c f d (i + 1), m)
    unfold sysAt
    cases ha : (decide (0 ≤ rd c (i : Int)) && decide (rd c (i : Int) ≤ 3)) with
    | false => exact Ev.neg (by simp) (Ev.some rfl)
    | true =>
      refine Ev.pos rfl (Ev.pos (by omega) ?_)
      cases hb : rdOf false f (i : Int) with
      | false =>
        refine Ev.neg (by simp) ?_
        simpa using this
      | true =>
        refine Ev.pos rfl ?_
        by_cases hz : rd c (i : Int) = 0
        · exact Ev.pos hz (Ev.some (by simp [hz]))
        · refine Ev.neg hz ?_
          simpa [hz] using this
theorem implSysLoop_ev (c : List Int) (f : List Bool) (m : Bool) (hc : c.length ≤ 1048576) (hf : f.length = c.length) : ∀ d i, c.length - i = d → i ≤ c.length → Ev (fun k => impl_ValidSystem.l0 k c (c.length : Int) (i : Int) c f m) (sysFrom c f d i) := by
  intro d
  induction d with
  | zero =>
    intro i hd hi
    refine Ev.succ ?_
    simp only [impl_ValidSystem.l0]
    exact Ev.neg (by omega) (Ev.some rfl)
  | succ d ih =>
    intro i hd hi
    refine Ev.succ ?_
    simp only [impl_ValidSystem.l0, impl_isCopy.f, in_impl, Option.bind_some]
    refine Ev.pos (by omega) (Ev.pos (by omega) (Ev.pos (by omega) ?_))
    rw [wrap_succ (show i < c.length by omega) (by omega)]
    have := ih (i + 1) (by omega) (by omega)
    show Ev _ (sysAt c f i && sysFrom c f d (i + 1))
    unfold sysAt
    cases ha : (decide (0 ≤ rd c (i : Int)) && decide (rd c (i : Int) ≤ 3)) with
    | false => exact Ev.neg (by simp) (Ev.some rfl)
    | true =>
      refine Ev.pos rfl ?_
      by_cases hz : rd c (i : Int) = 0
      · refine Ev.pos hz (Ev.pos (by omega) ?_)
        cases hb : rdOf false f (i : Int) with
        | false => exact Ev.neg (by simp) (by simpa using this)
        | true => exact Ev.pos rfl (Ev.some (by simp [hz]))
      · refine Ev.neg hz ?_
        simpa [hz] using this
theorem specSys_ev (c : List Int) (f : List Bool) (m : Bool) (hc : c.length ≤ 1048576) (hf : f.length ≤ 1048576) : Ev (fun k => spec_l10System.f k c f m) (sysOk c f, m) := by
  unfold spec_l10System.f sysOk
  refine Ev.bindc (in_spec _ _ _) ?_
  cases (decide (1 ≤ (c.length : Int)) && decide ((c.length : Int) ≤ 3)) with
  | false =>
    refine Ev.neg (by simp) (Ev.succ ?_)
    simp only [spec_l10System.j0]
    exact Ev.pos (by simp) (Ev.some rfl)
  | true =>
    refine Ev.pos rfl (Ev.succ ?_)
    simp only [spec_l10System.j0]
    by_cases h : f.length = c.length
    · refine Ev.neg (by simp [h]) ?_
      have := specSysLoop_ev c f m hc h c.length 0 (by omega) (by omega)
      simpa [h] using this
    · exact Ev.pos (by simp; omega) (Ev.some (by simp [h]))
theorem specSystem_ev (c : List Int) (f : List Bool) (m : Bool) (hc : c.length ≤ 1048576) (hf : f.length ≤ 1048576) : Ev (fun k => spec_ValidSystem.f k c f m) (sysOk c f) := by
  unfold spec_ValidSystem.f
  exact Ev.bind (specSys_ev c f m hc hf) (Ev.some rfl)
theorem implSystem_ev (c : List Int) (f : List Bool) (m : Bool) (hc : c.length ≤ 1048576) (hf : f.length ≤ 1048576) : Ev (fun k => impl_ValidSystem.f k c f m) (sysOk c f) := by
  unfold impl_ValidSystem.f sysOk
  refine Ev.bindc (a := (c.length : Int)) (by unfold impl_length_int64.f; rfl) (Ev.bindc (in_impl _ _ _) ?_)
  cases (decide (1 ≤ (c.length : Int)) && decide ((c.length : Int) ≤ 3)) with
  | false =>
    refine Ev.neg (by simp) (Ev.succ ?_)
    simp only [impl_ValidSystem.j0]
    exact Ev.pos (by simp) (Ev.some rfl)
  | true =>
    refine Ev.pos rfl (Ev.succ ?_)
    simp only [impl_ValidSystem.j0]
    by_cases h : f.length = c.length
    · refine Ev.neg (by simp [h]) ?_
      have := implSysLoop_ev c f m hc h c.length 0 (by omega) (by omega)
      simpa [h] using this
    · exact Ev.pos (by simp; omega) (Ev.some (by simp [h]))

theorem FnExactValidSystem : laws_FnExactValidSystem.Pure := by
  intro c f m ⟨hc, _⟩ ⟨hf, _⟩
  refine Ev.rounds ?_
  unfold laws_FnExactValidSystem.f laws_szSystem.f
  by_cases hb : (1048576 : Int) < c.length
  · refine Ev.bindc (a := -1) ?_ (Ev.pos (by omega) (Ev.some rfl))
    rw [szInt64S_f c 1048576 (by omega) (by omega) hc, if_pos hb]
    rfl
  · by_cases hb2 : (1048576 : Int) - c.length < f.length
    · refine Ev.bindc (a := -1) ?_ (Ev.pos (by omega) (Ev.some rfl))
      rw [szInt64S_f c 1048576 (by omega) (by omega) hc, if_neg hb, Option.bind_some, if_neg (by omega), szBoolS_f f _ (by omega) (by omega) hf, if_pos hb2]
      rfl
    · have hcn : c.length ≤ 1048576 := by omega
      have hfn : f.length ≤ 1048576 := by omega
      have h1 := toInt64S_ev c hcn
      have h2 := toBoolS_ev f hfn
      have h3 := specSystem_ev c f m hcn hfn
      have h4 := implSystem_ev c f m hcn hfn
      have h5 := eqInt64S_ev c hcn
      have h6 := eqBoolS_ev f hfn
      have hto : Ev (fun k => laws_toSystem.f k c f m) (c, f, m) := by
        unfold laws_toSystem.f
        exact Ev.bind h1 (Ev.bind h2 (Ev.some rfl))
      have heq : Ev (fun k => laws_eqSystem.f k c f m c f m) true := by
        unfold laws_eqSystem.f
        exact Ev.bind h5 (Ev.pos rfl (Ev.bind h6 (Ev.pos rfl (Ev.neg (by simp) (Ev.some rfl)))))
      refine Ev.bindc (a := (1048576 : Int) - c.length - f.length) ?_ (Ev.neg (by omega) ?_)
      · rw [szInt64S_f c 1048576 (by omega) (by omega) hc, if_neg hb, Option.bind_some, if_neg (by omega), szBoolS_f f _ (by omega) (by omega) hf, if_neg hb2, Option.bind_some, if_neg (by omega)]
      · exact Ev.bind hto (Ev.bind h3 (Ev.bind hto (Ev.bind h4 (Ev.neg (by simp) (Ev.bind hto (Ev.bind heq (Ev.pos rfl (Ev.some rfl))))))))

end Go.Proofs.Ytnocikchdkaabaa.Pure
