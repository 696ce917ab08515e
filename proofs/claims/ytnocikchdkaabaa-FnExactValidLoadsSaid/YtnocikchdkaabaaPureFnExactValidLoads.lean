/- The statement FnExactValidLoads over lists alone: both programs test the ranges of all elements and the length. -/
import Derived.Test.YtnocikchdkaabaaPFnExactValidLoadsx
import Derived.Test.YtnocikchdkaabaaX2
namespace Go.Proofs.Ytnocikchdkaabaa.Pure
open Go.RowKit Go.Proofs.YtnocikchdkaabaaW.PrintWords Go.Proofs.Ytnocikchdkaabaa.PFnExactValidLoads

theorem in_impl (a b c : Int) : impl_inRange.f a b c = some (decide (b ≤ a) && decide (a ≤ c)) := by
  unfold impl_inRange.f
  by_cases h : b ≤ a <;> simp [h]
theorem in_spec (a b c : Int) : spec_l00In.f a b c = some (decide (b ≤ a) && decide (a ≤ c)) := by
  unfold spec_l00In.f
  by_cases h : b ≤ a <;> simp [h]
theorem szLoadS_f (l : List S107) (a : Int) (h0 : 0 ≤ a) (h1 : a ≤ 1048576) (hl : l.length ≤ 9223372036854775807) : laws_szLoadS.f l a = some (if a < l.length then -1 else a - l.length) := by
  unfold laws_szLoadS.f
  rw [wrap_id (by omega) (by omega)]
  by_cases h : a < l.length
  · rw [if_pos (by omega), if_pos h]
  · rw [if_neg (by omega), if_neg h]
def cvLoad (x : S107) : S105 := ⟨x.f0, x.f1⟩
theorem toLoadS_ev (l : List S107) (h : l.length ≤ 1048576) : Ev (fun k => laws_toLoadS.f k l) (l.map cvLoad) := by
  unfold laws_toLoadS.f
  refine Ev.pos (by omega) (Ev.pos (by omega) ?_)
  refine Ev.upto (F := fun k s i => laws_toLoadS.l0 k l s i) (n := l.length) (r := l.map cvLoad) (fun i s => s = (l.take i).map cvLoad ++ List.replicate (l.length - i) z105) ?_ ?_ 0 (Nat.zero_le _) _ (by simp)
  · intro i s hi hs ih
    have hsl : s.length = l.length := by rw [hs]; simp; omega
    refine Ev.succ ?_
    simp only [laws_toLoadS.l0]
    refine Ev.pos (by omega) (Ev.pos (by omega) (Ev.bindc (a := ((rd_T107 l (i : Int)).f0, (rd_T107 l (i : Int)).f1)) rfl (Ev.pos (by omega) ?_)))
    rw [wrap_succ hi (by omega)]
    refine ih _ ?_
    rw [hs, Int.toNat_natCast]
    exact fill_next cvLoad l z105 z107 i hi _ rfl
  · intro s hs
    refine Ev.succ ?_
    simp only [laws_toLoadS.l0]
    exact Ev.neg (by omega) (Ev.some (by rw [hs]; simp))
theorem eqLoadS_ev (l : List S105) (h : l.length ≤ 1048576) : Ev (fun k => laws_eqLoadS.f k l l) true := by
  unfold laws_eqLoadS.f
  refine Ev.pos rfl ?_
  refine Ev.upto (F := fun k (_ : Unit) i => laws_eqLoadS.l0 k l l i) (n := l.length) (r := true) (fun _ _ => True) ?_ ?_ 0 (Nat.zero_le _) () trivial
  · intro i s hi _ ih
    refine Ev.succ ?_
    simp only [laws_eqLoadS.l0]
    refine Ev.pos (by omega) (Ev.pos (by omega) (Ev.pos (by omega) (Ev.bindc (a := true) (by simp [laws_eqLoad.f]) (Ev.pos rfl ?_))))
    rw [wrap_succ hi (by omega)]
    exact ih () trivial
  · intro s _
    refine Ev.succ ?_
    simp only [laws_eqLoadS.l0]
    exact Ev.neg (by omega) (Ev.some rfl)
def okLoad (x : S105) : Bool := (decide (0 ≤ x.f0) && decide (x.f0 ≤ 3)) && (decide (0 ≤ x.f1) && decide (x.f1 ≤ 63))
theorem xpLoad_not (x : S105) : xpLoad x = !okLoad x := by
  unfold xpLoad okLoad
  cases decide (0 ≤ x.f0) <;> cases decide (x.f0 ≤ 3) <;> cases decide (0 ≤ x.f1) <;> cases decide (x.f1 ≤ 63) <;> rfl
theorem specLoads_ev (l : List (S105)) (h : l.length ≤ 1048576) : Ev (fun k => spec_ValidLoads.f k l) (decide (l.length ≤ 60) && !(l.any xpLoad)) := by
  unfold spec_ValidLoads.f spec_l09Loads.f
  refine Ev.bind ?_ (Ev.some rfl)
  have key : ∀ i, i ≤ l.length → Ev (fun k => spec_l09Loads.l0 k l (i : Int)) (decide (l.length ≤ 60) && !((l.drop i).any xpLoad)) := by
    intro i hi
    obtain ⟨d, hd⟩ : ∃ d, l.length - i = d := ⟨_, rfl⟩
    induction d generalizing i with
    | zero =>
      obtain rfl : i = l.length := by omega
      refine Ev.succ ?_
      simp only [spec_l09Loads.l0]
      refine Ev.neg (by omega) (Ev.some ?_)
      simp
      omega
    | succ d ih =>
      refine Ev.succ ?_
      simp only [spec_l09Loads.l0, spec_l09Stream.f, spec_l03Address.f, in_spec, Option.bind_some]
      refine Ev.pos (by omega) (Ev.pos (by omega) ?_)
      have hc := drop_cons l i z105 (by omega)
      have hrd : rd_T105 l (i : Int) = l.getD i z105 := rfl
      rw [hrd]
      generalize l.getD i z105 = x at *
      rw [hc, List.any_cons, xpLoad_not]
      cases ha : (decide (0 ≤ x.f0) && decide (x.f0 ≤ 3)) with
      | false => exact Ev.neg (by simp) (Ev.some (by simp [okLoad, ha]))
      | true =>
        refine Ev.pos rfl ?_
        cases hb : (decide (0 ≤ x.f1) && decide (x.f1 ≤ 63)) with
        | false => exact Ev.neg (by simp) (Ev.some (by simp [okLoad, ha, hb]))
        | true =>
          refine Ev.pos rfl ?_
          rw [wrap_succ (show i < l.length by omega) (by omega)]
          have := ih (i + 1) (by omega) (by omega)
          simpa [okLoad, ha, hb] using this
  have := key 0 (Nat.zero_le _)
  simpa using this

theorem FnExactValidLoads : laws_FnExactValidLoads.Pure := by
  intro l ⟨hl, _⟩
  refine Ev.rounds ?_
  unfold laws_FnExactValidLoads.f
  by_cases hb : (1048576 : Int) < l.length
  · refine Ev.bindc (szLoadS_f l 1048576 (by omega) (by omega) hl) ?_
    rw [if_pos hb]
    exact Ev.pos (by omega) (Ev.some rfl)
  · have hn : l.length ≤ 1048576 := by omega
    refine Ev.bindc (szLoadS_f l 1048576 (by omega) (by omega) hl) ?_
    rw [if_neg hb]
    exact Ev.neg (by omega) (Ev.bind (toLoadS_ev l hn) (Ev.bind (specLoads_ev _ (by simpa using hn)) (Ev.bind (toLoadS_ev l hn) (Ev.bindc rfl (Ev.neg (by simp) (Ev.bind (toLoadS_ev l hn) (Ev.bind (eqLoadS_ev _ (by simpa using hn)) (Ev.pos rfl (Ev.some rfl)))))))))

end Go.Proofs.Ytnocikchdkaabaa.Pure
