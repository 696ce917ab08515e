-- Printed by this session's own program (wip/tools/xprint.py) over the kit's print; not trusted: Lean checks it.
import Derived.Test.YtibdelappoefeaaPFnGuessedx0
import Derived.Test.YtibdelappoefeaaPFnGuessedx3
import Derived.Test.YtibdelappoefeaaPFnGuessedx4
namespace Go.Proofs.Ytibdelappoefeaa.PFnGuessed
open Go.RowKit Go.Proofs.YtibdelappoefeaaW.PrintWords Go.Proofs.YtibdelappoefeaaW.PrintLast Go.Proofs.YtibdelappoefeaaW.PrintMore
attribute [local go_sem] max2_int min2_int max_two min_two max_three min_three max_four min_four   -- for this text's walks alone
set_option linter.unusedVariables false
set_option linter.unusedSimpArgs false

/-! ### laws_FnGuessed: function 11 -/
mutual
def laws_FnGuessed.j0 : Nat → List (S81) → List (List Int) → List Int → Bool → Int → Int → Int → Int → Option (Bool)
  | 0, _, _, _, _, _, _, _, _ => none
  | k + 1, x6, x7, x9, x54, x288000, x288001, x288002, x288003 => if x54 = true then (some false) else (laws_FnGuessed.l0 k x6 x7 x9 0 x288000 x288001 x288002 x288003)
def laws_FnGuessed.l0 : Nat → List (S81) → List (List Int) → List Int → Int → Int → Int → Int → Int → Option (Bool)
  | 0, _, _, _, _, _, _, _, _ => none
  | k + 1, x6, x7, x9, x11, x288000, x288001, x288002, x288003 => if x11 < (x7.length : Int) then (if 0 ≤ x11 then (if ((rd_L4 x7 x11).length : Int) > x288001 then (laws_FnGuessed.j2 k x6 x7 x9 x11 true x288000 x288001 x288002 x288003) else (if x11 < (x6.length : Int) then ((laws_b10Has.f k (rd_L4 x7 x11) ((rd_T81 x6 x11).f1)).bind fun t302 => (laws_FnGuessed.j2 k x6 x7 x9 x11 t302 x288000 x288001 x288002 x288003)) else (none))) else (none)) else ((impl_PairsOf.f k x6 0).bind fun bt316 => (if bt316.2 = true then (laws_FnGuessed.l2 k bt316.1 0) else (some false)))
def laws_FnGuessed.j2 : Nat → List (S81) → List (List Int) → List Int → Int → Bool → Int → Int → Int → Int → Option (Bool)
  | 0, _, _, _, _, _, _, _, _, _ => none
  | k + 1, x6, x7, x9, x11, x80, x288000, x288001, x288002, x288003 => if x80 = true then (some false) else (laws_FnGuessed.l1 k x6 x7 x9 x11 0 x288000 x288001 x288002 x288003)
def laws_FnGuessed.l1 : Nat → List (S81) → List (List Int) → List Int → Int → Int → Int → Int → Int → Int → Option (Bool)
  | 0, _, _, _, _, _, _, _, _, _ => none
  | k + 1, x6, x7, x9, x11, x12, x288000, x288001, x288002, x288003 => if 0 ≤ x11 then (if x11 < (x7.length : Int) then (if x12 < ((rd_L4 x7 x11).length : Int) then (if 0 ≤ x12 then (if (rd (rd_L4 x7 x11) x12) < 0 then (laws_FnGuessed.j4 k x6 x7 x9 x11 x12 (rd (rd_L4 x7 x11) x12) true x288000 x288001 x288002 x288003) else (if (rd (rd_L4 x7 x11) x12) ≥ 64 then (laws_FnGuessed.j4 k x6 x7 x9 x11 x12 (rd (rd_L4 x7 x11) x12) true x288000 x288001 x288002 x288003) else (if x12 ≤ ((rd_L4 x7 x11).length : Int) then ((laws_b10Has.f k ((rd_L4 x7 x11).take (x12 : Int).toNat) (rd (rd_L4 x7 x11) x12)).bind fun t311 => (laws_FnGuessed.j4 k x6 x7 x9 x11 x12 (rd (rd_L4 x7 x11) x12) t311 x288000 x288001 x288002 x288003)) else (none)))) else (none)) else (laws_FnGuessed.l0 k x6 x7 x9 (wrap64 (x11 + 1)) x288000 x288001 x288002 x288003)) else (none)) else (none)
def laws_FnGuessed.j4 : Nat → List (S81) → List (List Int) → List Int → Int → Int → Int → Bool → Int → Int → Int → Int → Option (Bool)
  | 0, _, _, _, _, _, _, _, _, _, _, _ => none
  | k + 1, x6, x7, x9, x11, x12, x13, x112, x288000, x288001, x288002, x288003 => if x112 = true then (some false) else (if x288000 = 1 then (if 0 ≤ x11 then (if x11 < (x9.length : Int) then (if (rd x9 x11) = 0 then (laws_FnGuessed.j5 k x6 x7 x9 x11 x12 x13 true x288000 x288001 x288002 x288003) else (if x11 < (x6.length : Int) then (laws_FnGuessed.j5 k x6 x7 x9 x11 x12 x13 (x13 != (wrap64 (((rd_T81 x6 x11).f1) + (wrap64 ((wrap64 (x12 + 1)) * (rd x9 x11)))))) x288000 x288001 x288002 x288003) else (none))) else (none)) else (none)) else (laws_FnGuessed.j5 k x6 x7 x9 x11 x12 x13 false x288000 x288001 x288002 x288003))
def laws_FnGuessed.j5 : Nat → List (S81) → List (List Int) → List Int → Int → Int → Int → Bool → Int → Int → Int → Int → Option (Bool)
  | 0, _, _, _, _, _, _, _, _, _, _, _ => none
  | k + 1, x6, x7, x9, x11, x12, x13, x139, x288000, x288001, x288002, x288003 => if x139 = true then (some false) else (if x288000 = 0 then (if 0 ≤ x11 then (if x11 < (x6.length : Int) then (if x13 = (wrap64 (((rd_T81 x6 x11).f1) + (wrap64 (x12 + 1)))) then (laws_FnGuessed.l1 k x6 x7 x9 x11 (wrap64 (x12 + 1)) x288000 x288001 x288002 x288003) else (some false)) else (none)) else (none)) else (laws_FnGuessed.l1 k x6 x7 x9 x11 (wrap64 (x12 + 1)) x288000 x288001 x288002 x288003))
def laws_FnGuessed.l2 : Nat → List (List Int) → Int → Option (Bool)
  | 0, _, _ => none
  | k + 1, x14, x16 => if x16 < (x14.length : Int) then (if 0 ≤ x16 then (if ((rd_L4 x14 x16).length : Int) = 2 then (if x16 > 0 then (if 0 ≤ (wrap64 (x16 - 1)) then (if (wrap64 (x16 - 1)) < (x14.length : Int) then (if 0 < ((rd_L4 x14 (wrap64 (x16 - 1))).length : Int) then (if 0 < ((rd_L4 x14 x16).length : Int) then (if (rd (rd_L4 x14 (wrap64 (x16 - 1))) 0) ≥ (rd (rd_L4 x14 x16) 0) then (some false) else (laws_FnGuessed.l2 k x14 (wrap64 (x16 + 1)))) else (none)) else (none)) else (none)) else (none)) else (laws_FnGuessed.l2 k x14 (wrap64 (x16 + 1)))) else (some false)) else (none)) else (some true)
end
def laws_FnGuessed.f (k : Nat) (l0 : List Int) (l1 : List Int) : Option (Bool) := (laws_b10Long.f l0 l1).bind fun t282 => (if t282 = true then (some true) else ((spec_B10Prefetcher.f l0).bind fun bt283 => ((spec_B10Loads.f k l1).bind fun t288 => ((impl_GuessesOf.f k bt283.1 bt283.2.1 bt283.2.2.1 bt283.2.2.2 t288).bind fun bt291 => ((impl_StridesOf.f k t288).bind fun bt295 => (if bt291.2 = true then (if bt295.2 = true then (if (bt291.1.length : Int) = (t288.length : Int) then (laws_FnGuessed.j0 k t288 bt291.1 bt295.1 ((bt295.1.length : Int) != (t288.length : Int)) bt283.1 bt283.2.1 bt283.2.2.1 bt283.2.2.2) else (laws_FnGuessed.j0 k t288 bt291.1 bt295.1 true bt283.1 bt283.2.1 bt283.2.2.1 bt283.2.2.2)) else (laws_FnGuessed.j0 k t288 bt291.1 bt295.1 true bt283.1 bt283.2.1 bt283.2.2.1 bt283.2.2.2)) else (laws_FnGuessed.j0 k t288 bt291.1 bt295.1 true bt283.1 bt283.2.1 bt283.2.2.1 bt283.2.2.2)))))))
theorem laws_FnGuessed.mono_l : ∀ k, (∀ y0 y1 y2 y3 y4 y5 y6 y7, LeO (laws_FnGuessed.j0 k y0 y1 y2 y3 y4 y5 y6 y7) (laws_FnGuessed.j0 (k + 1) y0 y1 y2 y3 y4 y5 y6 y7)) ∧ (∀ y0 y1 y2 y3 y4 y5 y6 y7, LeO (laws_FnGuessed.l0 k y0 y1 y2 y3 y4 y5 y6 y7) (laws_FnGuessed.l0 (k + 1) y0 y1 y2 y3 y4 y5 y6 y7)) ∧ (∀ y0 y1 y2 y3 y4 y5 y6 y7 y8, LeO (laws_FnGuessed.j2 k y0 y1 y2 y3 y4 y5 y6 y7 y8) (laws_FnGuessed.j2 (k + 1) y0 y1 y2 y3 y4 y5 y6 y7 y8)) ∧ (∀ y0 y1 y2 y3 y4 y5 y6 y7 y8, LeO (laws_FnGuessed.l1 k y0 y1 y2 y3 y4 y5 y6 y7 y8) (laws_FnGuessed.l1 (k + 1) y0 y1 y2 y3 y4 y5 y6 y7 y8)) ∧ (∀ y0 y1 y2 y3 y4 y5 y6 y7 y8 y9 y10, LeO (laws_FnGuessed.j4 k y0 y1 y2 y3 y4 y5 y6 y7 y8 y9 y10) (laws_FnGuessed.j4 (k + 1) y0 y1 y2 y3 y4 y5 y6 y7 y8 y9 y10)) ∧ (∀ y0 y1 y2 y3 y4 y5 y6 y7 y8 y9 y10, LeO (laws_FnGuessed.j5 k y0 y1 y2 y3 y4 y5 y6 y7 y8 y9 y10) (laws_FnGuessed.j5 (k + 1) y0 y1 y2 y3 y4 y5 y6 y7 y8 y9 y10)) ∧ (∀ y0 y1, LeO (laws_FnGuessed.l2 k y0 y1) (laws_FnGuessed.l2 (k + 1) y0 y1))
  | 0 => ⟨fun _ _ _ _ _ _ _ _ r h => by simp [laws_FnGuessed.j0] at h, fun _ _ _ _ _ _ _ _ r h => by simp [laws_FnGuessed.l0] at h, fun _ _ _ _ _ _ _ _ _ r h => by simp [laws_FnGuessed.j2] at h, fun _ _ _ _ _ _ _ _ _ r h => by simp [laws_FnGuessed.l1] at h, fun _ _ _ _ _ _ _ _ _ _ _ r h => by simp [laws_FnGuessed.j4] at h, fun _ _ _ _ _ _ _ _ _ _ _ r h => by simp [laws_FnGuessed.j5] at h, fun _ _ r h => by simp [laws_FnGuessed.l2] at h⟩
  | k + 1 => by
    obtain ⟨ih0, ih1, ih2, ih3, ih4, ih5, ih6⟩ := laws_FnGuessed.mono_l k
    refine ⟨?_, ?_, ?_, ?_, ?_, ?_, ?_⟩
    · intro y0 y1 y2 y3 y4 y5 y6 y7
      unfold laws_FnGuessed.j0
      repeat' first
      | (with_reducible exact ih0 _ _ _ _ _ _ _ _)
      | (with_reducible exact ih1 _ _ _ _ _ _ _ _)
      | (with_reducible exact ih2 _ _ _ _ _ _ _ _ _)
      | (with_reducible exact ih3 _ _ _ _ _ _ _ _ _)
      | (with_reducible exact ih4 _ _ _ _ _ _ _ _ _ _ _)
      | (with_reducible exact ih5 _ _ _ _ _ _ _ _ _ _ _)
      | (with_reducible exact ih6 _ _)
      | (with_reducible exact impl_GuessesOf.mono _ _ _ _ _ _)
      | (with_reducible exact impl_PairsOf.mono _ _ _)
      | (with_reducible exact impl_StridesOf.mono _ _)
      | (with_reducible exact laws_b10Has.mono _ _ _)
      | (with_reducible exact spec_B10Loads.mono _ _)
      | (with_reducible exact LeO.refl _)
      | (with_reducible exact LeO.none _)
      | (with_reducible refine LeO.ite ?_ ?_)
      | (with_reducible refine LeO.bind ?_ (fun _ => ?_))
      | exact ih0 _ _ _ _ _ _ _ _
      | exact ih1 _ _ _ _ _ _ _ _
      | exact ih2 _ _ _ _ _ _ _ _ _
      | exact ih3 _ _ _ _ _ _ _ _ _
      | exact ih4 _ _ _ _ _ _ _ _ _ _ _
      | exact ih5 _ _ _ _ _ _ _ _ _ _ _
      | exact ih6 _ _
      | exact impl_GuessesOf.mono _ _ _ _ _ _
      | exact impl_PairsOf.mono _ _ _
      | exact impl_StridesOf.mono _ _
      | exact laws_b10Has.mono _ _ _
      | exact spec_B10Loads.mono _ _
      | exact LeO.none _
      | refine LeO.ite ?_ ?_
      | refine LeO.bind ?_ (fun _ => ?_)
    · intro y0 y1 y2 y3 y4 y5 y6 y7
      unfold laws_FnGuessed.l0
      repeat' first
      | (with_reducible exact ih0 _ _ _ _ _ _ _ _)
      | (with_reducible exact ih1 _ _ _ _ _ _ _ _)
      | (with_reducible exact ih2 _ _ _ _ _ _ _ _ _)
      | (with_reducible exact ih3 _ _ _ _ _ _ _ _ _)
      | (with_reducible exact ih4 _ _ _ _ _ _ _ _ _ _ _)
      | (with_reducible exact ih5 _ _ _ _ _ _ _ _ _ _ _)
      | (with_reducible exact ih6 _ _)
      | (with_reducible exact impl_GuessesOf.mono _ _ _ _ _ _)
      | (with_reducible exact impl_PairsOf.mono _ _ _)
      | (with_reducible exact impl_StridesOf.mono _ _)
      | (with_reducible exact laws_b10Has.mono _ _ _)
      | (with_reducible exact spec_B10Loads.mono _ _)
      | (with_reducible exact LeO.refl _)
      | (with_reducible exact LeO.none _)
      | (with_reducible refine LeO.ite ?_ ?_)
      | (with_reducible refine LeO.bind ?_ (fun _ => ?_))
      | exact ih0 _ _ _ _ _ _ _ _
      | exact ih1 _ _ _ _ _ _ _ _
      | exact ih2 _ _ _ _ _ _ _ _ _
      | exact ih3 _ _ _ _ _ _ _ _ _
      | exact ih4 _ _ _ _ _ _ _ _ _ _ _
      | exact ih5 _ _ _ _ _ _ _ _ _ _ _
      | exact ih6 _ _
      | exact impl_GuessesOf.mono _ _ _ _ _ _
      | exact impl_PairsOf.mono _ _ _
      | exact impl_StridesOf.mono _ _
      | exact laws_b10Has.mono _ _ _
      | exact spec_B10Loads.mono _ _
      | exact LeO.none _
      | refine LeO.ite ?_ ?_
      | refine LeO.bind ?_ (fun _ => ?_)
    · intro y0 y1 y2 y3 y4 y5 y6 y7 y8
      unfold laws_FnGuessed.j2
      repeat' first
      | (with_reducible exact ih0 _ _ _ _ _ _ _ _)
      | (with_reducible exact ih1 _ _ _ _ _ _ _ _)
      | (with_reducible exact ih2 _ _ _ _ _ _ _ _ _)
      | (with_reducible exact ih3 _ _ _ _ _ _ _ _ _)
      | (with_reducible exact ih4 _ _ _ _ _ _ _ _ _ _ _)
      | (with_reducible exact ih5 _ _ _ _ _ _ _ _ _ _ _)
      | (with_reducible exact ih6 _ _)
      | (with_reducible exact impl_GuessesOf.mono _ _ _ _ _ _)
      | (with_reducible exact impl_PairsOf.mono _ _ _)
      | (with_reducible exact impl_StridesOf.mono _ _)
      | (with_reducible exact laws_b10Has.mono _ _ _)
      | (with_reducible exact spec_B10Loads.mono _ _)
      | (with_reducible exact LeO.refl _)
      | (with_reducible exact LeO.none _)
      | (with_reducible refine LeO.ite ?_ ?_)
      | (with_reducible refine LeO.bind ?_ (fun _ => ?_))
      | exact ih0 _ _ _ _ _ _ _ _
      | exact ih1 _ _ _ _ _ _ _ _
      | exact ih2 _ _ _ _ _ _ _ _ _
      | exact ih3 _ _ _ _ _ _ _ _ _
      | exact ih4 _ _ _ _ _ _ _ _ _ _ _
      | exact ih5 _ _ _ _ _ _ _ _ _ _ _
      | exact ih6 _ _
      | exact impl_GuessesOf.mono _ _ _ _ _ _
      | exact impl_PairsOf.mono _ _ _
      | exact impl_StridesOf.mono _ _
      | exact laws_b10Has.mono _ _ _
      | exact spec_B10Loads.mono _ _
      | exact LeO.none _
      | refine LeO.ite ?_ ?_
      | refine LeO.bind ?_ (fun _ => ?_)
    · intro y0 y1 y2 y3 y4 y5 y6 y7 y8
      unfold laws_FnGuessed.l1
      repeat' first
      | (with_reducible exact ih0 _ _ _ _ _ _ _ _)
      | (with_reducible exact ih1 _ _ _ _ _ _ _ _)
      | (with_reducible exact ih2 _ _ _ _ _ _ _ _ _)
      | (with_reducible exact ih3 _ _ _ _ _ _ _ _ _)
      | (with_reducible exact ih4 _ _ _ _ _ _ _ _ _ _ _)
      | (with_reducible exact ih5 _ _ _ _ _ _ _ _ _ _ _)
      | (with_reducible exact ih6 _ _)
      | (with_reducible exact impl_GuessesOf.mono _ _ _ _ _ _)
      | (with_reducible exact impl_PairsOf.mono _ _ _)
      | (with_reducible exact impl_StridesOf.mono _ _)
      | (with_reducible exact laws_b10Has.mono _ _ _)
      | (with_reducible exact spec_B10Loads.mono _ _)
      | (with_reducible exact LeO.refl _)
      | (with_reducible exact LeO.none _)
      | (with_reducible refine LeO.ite ?_ ?_)
      | (with_reducible refine LeO.bind ?_ (fun _ => ?_))
      | exact ih0 _ _ _ _ _ _ _ _
      | exact ih1 _ _ _ _ _ _ _ _
      | exact ih2 _ _ _ _ _ _ _ _ _
      | exact ih3 _ _ _ _ _ _ _ _ _
      | exact ih4 _ _ _ _ _ _ _ _ _ _ _
      | exact ih5 _ _ _ _ _ _ _ _ _ _ _
      | exact ih6 _ _
      | exact impl_GuessesOf.mono _ _ _ _ _ _
      | exact impl_PairsOf.mono _ _ _
      | exact impl_StridesOf.mono _ _
      | exact laws_b10Has.mono _ _ _
      | exact spec_B10Loads.mono _ _
      | exact LeO.none _
      | refine LeO.ite ?_ ?_
      | refine LeO.bind ?_ (fun _ => ?_)
    · intro y0 y1 y2 y3 y4 y5 y6 y7 y8 y9 y10
      unfold laws_FnGuessed.j4
      repeat' first
      | (with_reducible exact ih0 _ _ _ _ _ _ _ _)
      | (with_reducible exact ih1 _ _ _ _ _ _ _ _)
      | (with_reducible exact ih2 _ _ _ _ _ _ _ _ _)
      | (with_reducible exact ih3 _ _ _ _ _ _ _ _ _)
      | (with_reducible exact ih4 _ _ _ _ _ _ _ _ _ _ _)
      | (with_reducible exact ih5 _ _ _ _ _ _ _ _ _ _ _)
      | (with_reducible exact ih6 _ _)
      | (with_reducible exact impl_GuessesOf.mono _ _ _ _ _ _)
      | (with_reducible exact impl_PairsOf.mono _ _ _)
      | (with_reducible exact impl_StridesOf.mono _ _)
      | (with_reducible exact laws_b10Has.mono _ _ _)
      | (with_reducible exact spec_B10Loads.mono _ _)
      | (with_reducible exact LeO.refl _)
      | (with_reducible exact LeO.none _)
      | (with_reducible refine LeO.ite ?_ ?_)
      | (with_reducible refine LeO.bind ?_ (fun _ => ?_))
      | exact ih0 _ _ _ _ _ _ _ _
      | exact ih1 _ _ _ _ _ _ _ _
      | exact ih2 _ _ _ _ _ _ _ _ _
      | exact ih3 _ _ _ _ _ _ _ _ _
      | exact ih4 _ _ _ _ _ _ _ _ _ _ _
      | exact ih5 _ _ _ _ _ _ _ _ _ _ _
      | exact ih6 _ _
      | exact impl_GuessesOf.mono _ _ _ _ _ _
      | exact impl_PairsOf.mono _ _ _
      | exact impl_StridesOf.mono _ _
      | exact laws_b10Has.mono _ _ _
      | exact spec_B10Loads.mono _ _
      | exact LeO.none _
      | refine LeO.ite ?_ ?_
      | refine LeO.bind ?_ (fun _ => ?_)
    · intro y0 y1 y2 y3 y4 y5 y6 y7 y8 y9 y10
      unfold laws_FnGuessed.j5
      repeat' first
      | (with_reducible exact ih0 _ _ _ _ _ _ _ _)
      | (with_reducible exact ih1 _ _ _ _ _ _ _ _)
      | (with_reducible exact ih2 _ _ _ _ _ _ _ _ _)
      | (with_reducible exact ih3 _ _ _ _ _ _ _ _ _)
      | (with_reducible exact ih4 _ _ _ _ _ _ _ _ _ _ _)
      | (with_reducible exact ih5 _ _ _ _ _ _ _ _ _ _ _)
      | (with_reducible exact ih6 _ _)
      | (with_reducible exact impl_GuessesOf.mono _ _ _ _ _ _)
      | (with_reducible exact impl_PairsOf.mono _ _ _)
      | (with_reducible exact impl_StridesOf.mono _ _)
      | (with_reducible exact laws_b10Has.mono _ _ _)
      | (with_reducible exact spec_B10Loads.mono _ _)
      | (with_reducible exact LeO.refl _)
      | (with_reducible exact LeO.none _)
      | (with_reducible refine LeO.ite ?_ ?_)
      | (with_reducible refine LeO.bind ?_ (fun _ => ?_))
      | exact ih0 _ _ _ _ _ _ _ _
      | exact ih1 _ _ _ _ _ _ _ _
      | exact ih2 _ _ _ _ _ _ _ _ _
      | exact ih3 _ _ _ _ _ _ _ _ _
      | exact ih4 _ _ _ _ _ _ _ _ _ _ _
      | exact ih5 _ _ _ _ _ _ _ _ _ _ _
      | exact ih6 _ _
      | exact impl_GuessesOf.mono _ _ _ _ _ _
      | exact impl_PairsOf.mono _ _ _
      | exact impl_StridesOf.mono _ _
      | exact laws_b10Has.mono _ _ _
      | exact spec_B10Loads.mono _ _
      | exact LeO.none _
      | refine LeO.ite ?_ ?_
      | refine LeO.bind ?_ (fun _ => ?_)
    · intro y0 y1
      unfold laws_FnGuessed.l2
      repeat' first
      | (with_reducible exact ih0 _ _ _ _ _ _ _ _)
      | (with_reducible exact ih1 _ _ _ _ _ _ _ _)
      | (with_reducible exact ih2 _ _ _ _ _ _ _ _ _)
      | (with_reducible exact ih3 _ _ _ _ _ _ _ _ _)
      | (with_reducible exact ih4 _ _ _ _ _ _ _ _ _ _ _)
      | (with_reducible exact ih5 _ _ _ _ _ _ _ _ _ _ _)
      | (with_reducible exact ih6 _ _)
      | (with_reducible exact impl_GuessesOf.mono _ _ _ _ _ _)
      | (with_reducible exact impl_PairsOf.mono _ _ _)
      | (with_reducible exact impl_StridesOf.mono _ _)
      | (with_reducible exact laws_b10Has.mono _ _ _)
      | (with_reducible exact spec_B10Loads.mono _ _)
      | (with_reducible exact LeO.refl _)
      | (with_reducible exact LeO.none _)
      | (with_reducible refine LeO.ite ?_ ?_)
      | (with_reducible refine LeO.bind ?_ (fun _ => ?_))
      | exact ih0 _ _ _ _ _ _ _ _
      | exact ih1 _ _ _ _ _ _ _ _
      | exact ih2 _ _ _ _ _ _ _ _ _
      | exact ih3 _ _ _ _ _ _ _ _ _
      | exact ih4 _ _ _ _ _ _ _ _ _ _ _
      | exact ih5 _ _ _ _ _ _ _ _ _ _ _
      | exact ih6 _ _
      | exact impl_GuessesOf.mono _ _ _ _ _ _
      | exact impl_PairsOf.mono _ _ _
      | exact impl_StridesOf.mono _ _
      | exact laws_b10Has.mono _ _ _
      | exact spec_B10Loads.mono _ _
      | exact LeO.none _
      | refine LeO.ite ?_ ?_
      | refine LeO.bind ?_ (fun _ => ?_)
theorem laws_FnGuessed.mono : ∀ a0 a1 k, LeO (laws_FnGuessed.f k a0 a1) (laws_FnGuessed.f (k + 1) a0 a1) := by
  intro a0 a1 k
  obtain ⟨ih0, ih1, ih2, ih3, ih4, ih5, ih6⟩ := laws_FnGuessed.mono_l k
  unfold laws_FnGuessed.f
  repeat' first
      | (with_reducible exact ih0 _ _ _ _ _ _ _ _)
      | (with_reducible exact ih1 _ _ _ _ _ _ _ _)
      | (with_reducible exact ih2 _ _ _ _ _ _ _ _ _)
      | (with_reducible exact ih3 _ _ _ _ _ _ _ _ _)
      | (with_reducible exact ih4 _ _ _ _ _ _ _ _ _ _ _)
      | (with_reducible exact ih5 _ _ _ _ _ _ _ _ _ _ _)
      | (with_reducible exact ih6 _ _)
      | (with_reducible exact impl_GuessesOf.mono _ _ _ _ _ _)
      | (with_reducible exact impl_PairsOf.mono _ _ _)
      | (with_reducible exact impl_StridesOf.mono _ _)
      | (with_reducible exact laws_b10Has.mono _ _ _)
      | (with_reducible exact spec_B10Loads.mono _ _)
      | (with_reducible exact LeO.refl _)
      | (with_reducible exact LeO.none _)
      | (with_reducible refine LeO.ite ?_ ?_)
      | (with_reducible refine LeO.bind ?_ (fun _ => ?_))
      | exact ih0 _ _ _ _ _ _ _ _
      | exact ih1 _ _ _ _ _ _ _ _
      | exact ih2 _ _ _ _ _ _ _ _ _
      | exact ih3 _ _ _ _ _ _ _ _ _
      | exact ih4 _ _ _ _ _ _ _ _ _ _ _
      | exact ih5 _ _ _ _ _ _ _ _ _ _ _
      | exact ih6 _ _
      | exact impl_GuessesOf.mono _ _ _ _ _ _
      | exact impl_PairsOf.mono _ _ _
      | exact impl_StridesOf.mono _ _
      | exact laws_b10Has.mono _ _ _
      | exact spec_B10Loads.mono _ _
      | exact LeO.none _
      | refine LeO.ite ?_ ?_
      | refine LeO.bind ?_ (fun _ => ?_)
set_option maxHeartbeats 8000000 in
set_option maxRecDepth 100000 in
theorem laws_FnGuessed.calls (k : Nat) (A0 : Option Addr) (c0 : Nat) (l0 : List Int) (A1 : Option Addr) (c1 : Nat) (l1 : List Int) (r : Bool) (w : World) (hr0 : Kd.C (Kd.int .u8) w A0 l0.length l0) (hc0 : l0.length ≤ c0) (hr1 : Kd.C (Kd.int .u8) w A1 l1.length l1) (hc1 : l1.length ≤ c1) (h : laws_FnGuessed.f k l0 l1 = some r) :
    Calls Try.prog 11 #[.slice A0 l0.length c0, .slice A1 l1.length c1] w fun e w' => e = .returned (.bool r) ∧ Below w.heap.size w w' := by
  have hu62 := Try.underlying62
  have HR0 := Aside0.mk hr0
  have HC0 := Aside0.mk hc0
  clear hr0 hc0
  have HR1 := Aside0.mk hr1
  have HC1 := Aside0.mk hc1
  clear hr1 hc1
  have HB := Aside0.mk (Below.refl w.heap.size w)
  have H : ((laws_b10Long.f l0 l1).bind fun t282 => (if t282 = true then (some true) else ((spec_B10Prefetcher.f l0).bind fun bt283 => ((spec_B10Loads.f k l1).bind fun t288 => ((impl_GuessesOf.f k bt283.1 bt283.2.1 bt283.2.2.1 bt283.2.2.2 t288).bind fun bt291 => ((impl_StridesOf.f k t288).bind fun bt295 => (if bt291.2 = true then (if bt295.2 = true then (if (bt291.1.length : Int) = (t288.length : Int) then (laws_FnGuessed.j0 k t288 bt291.1 bt295.1 ((bt295.1.length : Int) != (t288.length : Int)) bt283.1 bt283.2.1 bt283.2.2.1 bt283.2.2.2) else (laws_FnGuessed.j0 k t288 bt291.1 bt295.1 true bt283.1 bt283.2.1 bt283.2.2.1 bt283.2.2.2)) else (laws_FnGuessed.j0 k t288 bt291.1 bt295.1 true bt283.1 bt283.2.1 bt283.2.2.1 bt283.2.2.2)) else (laws_FnGuessed.j0 k t288 bt291.1 bt295.1 true bt283.1 bt283.2.1 bt283.2.2.1 bt283.2.2.2)))))))) = some r := h
  clear h
  replace H := Option.bind_eq_some_iff.mp H
  obtain ⟨t282, A30, H⟩ := H
  replace H : (if t282 = true then (some true) else ((spec_B10Prefetcher.f l0).bind fun bt283 => ((spec_B10Loads.f k l1).bind fun t288 => ((impl_GuessesOf.f k bt283.1 bt283.2.1 bt283.2.2.1 bt283.2.2.2 t288).bind fun bt291 => ((impl_StridesOf.f k t288).bind fun bt295 => (if bt291.2 = true then (if bt295.2 = true then (if (bt291.1.length : Int) = (t288.length : Int) then (laws_FnGuessed.j0 k t288 bt291.1 bt295.1 ((bt295.1.length : Int) != (t288.length : Int)) bt283.1 bt283.2.1 bt283.2.2.1 bt283.2.2.2) else (laws_FnGuessed.j0 k t288 bt291.1 bt295.1 true bt283.1 bt283.2.1 bt283.2.2.1 bt283.2.2.2)) else (laws_FnGuessed.j0 k t288 bt291.1 bt295.1 true bt283.1 bt283.2.1 bt283.2.2.1 bt283.2.2.2)) else (laws_FnGuessed.j0 k t288 bt291.1 bt295.1 true bt283.1 bt283.2.1 bt283.2.2.1 bt283.2.2.2))))))) = some r := H
  have A3 := Aside0.mk A30
  clear A30
  by_cases c4 : t282 = true
  · subst c4
    have H1 : (some true) = some r := by rw [if_pos rfl] at H; exact H
    clear H
    have H := H1
    clear H1
    obtain rfl := Option.some.inj H
    go_enter Try.func11, Try.ntmps11
    go_wp2_with (first | (go_at_call 45; (with_reducible refine (laws_b10Long.calls _ _ l0 _ _ l1 true _ ?side1 ?side2 ?side3 ?side4 A3.out).mono ?_); (case side1 => repeat (first | exact HR0.out | (with_reducible refine Kd.C_alloc ?_ _) | (with_reducible refine Kd.C_drewN ?_ _) | (with_reducible refine Kd.C_drew ?_))); (case side2 => exact HC0.out); (case side3 => repeat (first | exact HR1.out | (with_reducible refine Kd.C_alloc ?_ _) | (with_reducible refine Kd.C_drewN ?_ _) | (with_reducible refine Kd.C_drew ?_))); (case side4 => exact HC1.out); rintro e w' ⟨rfl, ⟨nd, rfl⟩⟩; (try first | exact ⟨rfl, _, World.drewN_drewN _ _ _⟩ | exact ⟨rfl, _, Eq.trans (World.drewN_drewN _ _ _) (congrArg (World.drewN _) (Nat.add_assoc _ _ _))⟩)))
    repeat (go_quiet (first | (go_at_call 45; (with_reducible refine (laws_b10Long.calls _ _ l0 _ _ l1 true _ ?side1 ?side2 ?side3 ?side4 A3.out).mono ?_); (case side1 => repeat (first | exact HR0.out | (with_reducible refine Kd.C_alloc ?_ _) | (with_reducible refine Kd.C_drewN ?_ _) | (with_reducible refine Kd.C_drew ?_))); (case side2 => exact HC0.out); (case side3 => repeat (first | exact HR1.out | (with_reducible refine Kd.C_alloc ?_ _) | (with_reducible refine Kd.C_drewN ?_ _) | (with_reducible refine Kd.C_drew ?_))); (case side4 => exact HC1.out); rintro e w' ⟨rfl, ⟨nd, rfl⟩⟩; (try first | exact ⟨rfl, _, World.drewN_drewN _ _ _⟩ | exact ⟨rfl, _, Eq.trans (World.drewN_drewN _ _ _) (congrArg (World.drewN _) (Nat.add_assoc _ _ _))⟩))); try go_wp2_with (first | (go_at_call 45; (with_reducible refine (laws_b10Long.calls _ _ l0 _ _ l1 true _ ?side1 ?side2 ?side3 ?side4 A3.out).mono ?_); (case side1 => repeat (first | exact HR0.out | (with_reducible refine Kd.C_alloc ?_ _) | (with_reducible refine Kd.C_drewN ?_ _) | (with_reducible refine Kd.C_drew ?_))); (case side2 => exact HC0.out); (case side3 => repeat (first | exact HR1.out | (with_reducible refine Kd.C_alloc ?_ _) | (with_reducible refine Kd.C_drewN ?_ _) | (with_reducible refine Kd.C_drew ?_))); (case side4 => exact HC1.out); rintro e w' ⟨rfl, ⟨nd, rfl⟩⟩; (try first | exact ⟨rfl, _, World.drewN_drewN _ _ _⟩ | exact ⟨rfl, _, Eq.trans (World.drewN_drewN _ _ _) (congrArg (World.drewN _) (Nat.add_assoc _ _ _))⟩))))
    go_ret
    exact ⟨by first | rfl | (simp [errW_none, errW_some] <;> rfl) | (simp [*, errW_none, errW_some] <;> rfl), by repeat (first | (with_reducible first | exact HB.out | apply below_alloc | apply pw_below_drewN | apply below_drew1) | exact HB.out)⟩
  · replace c4 := Bool.eq_false_iff.mpr c4
    subst c4
    have H1 : ((spec_B10Prefetcher.f l0).bind fun bt283 => ((spec_B10Loads.f k l1).bind fun t288 => ((impl_GuessesOf.f k bt283.1 bt283.2.1 bt283.2.2.1 bt283.2.2.2 t288).bind fun bt291 => ((impl_StridesOf.f k t288).bind fun bt295 => (if bt291.2 = true then (if bt295.2 = true then (if (bt291.1.length : Int) = (t288.length : Int) then (laws_FnGuessed.j0 k t288 bt291.1 bt295.1 ((bt295.1.length : Int) != (t288.length : Int)) bt283.1 bt283.2.1 bt283.2.2.1 bt283.2.2.2) else (laws_FnGuessed.j0 k t288 bt291.1 bt295.1 true bt283.1 bt283.2.1 bt283.2.2.1 bt283.2.2.2)) else (laws_FnGuessed.j0 k t288 bt291.1 bt295.1 true bt283.1 bt283.2.1 bt283.2.2.1 bt283.2.2.2)) else (laws_FnGuessed.j0 k t288 bt291.1 bt295.1 true bt283.1 bt283.2.1 bt283.2.2.1 bt283.2.2.2)))))) = some r := by rw [if_neg (show ¬ (false = true) by decide)] at H; exact H
    clear H
    have H := H1
    clear H1
    replace H := Option.bind_eq_some_iff.mp H
    obtain ⟨⟨t283, t284, t285, t286⟩, A50, H⟩ := H
    replace H : ((spec_B10Loads.f k l1).bind fun t288 => ((impl_GuessesOf.f k t283 t284 t285 t286 t288).bind fun bt291 => ((impl_StridesOf.f k t288).bind fun bt295 => (if bt291.2 = true then (if bt295.2 = true then (if (bt291.1.length : Int) = (t288.length : Int) then (laws_FnGuessed.j0 k t288 bt291.1 bt295.1 ((bt295.1.length : Int) != (t288.length : Int)) t283 t284 t285 t286) else (laws_FnGuessed.j0 k t288 bt291.1 bt295.1 true t283 t284 t285 t286)) else (laws_FnGuessed.j0 k t288 bt291.1 bt295.1 true t283 t284 t285 t286)) else (laws_FnGuessed.j0 k t288 bt291.1 bt295.1 true t283 t284 t285 t286))))) = some r := H
    have A5 := Aside0.mk A50
    clear A50
    replace H := Option.bind_eq_some_iff.mp H
    obtain ⟨t288, A60, H⟩ := H
    replace H : ((impl_GuessesOf.f k t283 t284 t285 t286 t288).bind fun bt291 => ((impl_StridesOf.f k t288).bind fun bt295 => (if bt291.2 = true then (if bt295.2 = true then (if (bt291.1.length : Int) = (t288.length : Int) then (laws_FnGuessed.j0 k t288 bt291.1 bt295.1 ((bt295.1.length : Int) != (t288.length : Int)) t283 t284 t285 t286) else (laws_FnGuessed.j0 k t288 bt291.1 bt295.1 true t283 t284 t285 t286)) else (laws_FnGuessed.j0 k t288 bt291.1 bt295.1 true t283 t284 t285 t286)) else (laws_FnGuessed.j0 k t288 bt291.1 bt295.1 true t283 t284 t285 t286)))) = some r := H
    have A6 := Aside0.mk A60
    clear A60
    replace H := Option.bind_eq_some_iff.mp H
    obtain ⟨⟨t291, t294⟩, A70, H⟩ := H
    replace H : ((impl_StridesOf.f k t288).bind fun bt295 => (if t294 = true then (if bt295.2 = true then (if (t291.length : Int) = (t288.length : Int) then (laws_FnGuessed.j0 k t288 t291 bt295.1 ((bt295.1.length : Int) != (t288.length : Int)) t283 t284 t285 t286) else (laws_FnGuessed.j0 k t288 t291 bt295.1 true t283 t284 t285 t286)) else (laws_FnGuessed.j0 k t288 t291 bt295.1 true t283 t284 t285 t286)) else (laws_FnGuessed.j0 k t288 t291 bt295.1 true t283 t284 t285 t286))) = some r := H
    have A7 := Aside0.mk A70
    clear A70
    replace H := Option.bind_eq_some_iff.mp H
    obtain ⟨⟨t295, t296⟩, A80, H⟩ := H
    replace H : (if t294 = true then (if t296 = true then (if (t291.length : Int) = (t288.length : Int) then (laws_FnGuessed.j0 k t288 t291 t295 ((t295.length : Int) != (t288.length : Int)) t283 t284 t285 t286) else (laws_FnGuessed.j0 k t288 t291 t295 true t283 t284 t285 t286)) else (laws_FnGuessed.j0 k t288 t291 t295 true t283 t284 t285 t286)) else (laws_FnGuessed.j0 k t288 t291 t295 true t283 t284 t285 t286)) = some r := H
    have A8 := Aside0.mk A80
    clear A80
    have HC9 := Aside0.mk H
    clear H
    go_enter Try.func11, Try.ntmps11
    go_upto_region 7 with (first | (go_at_call 45; (with_reducible refine (laws_b10Long.calls _ _ l0 _ _ l1 false _ ?side1 ?side2 ?side3 ?side4 A3.out).mono ?_); (case side1 => repeat (first | exact HR0.out | (with_reducible refine Kd.C_alloc ?_ _) | (with_reducible refine Kd.C_drewN ?_ _) | (with_reducible refine Kd.C_drew ?_))); (case side2 => exact HC0.out); (case side3 => repeat (first | exact HR1.out | (with_reducible refine Kd.C_alloc ?_ _) | (with_reducible refine Kd.C_drewN ?_ _) | (with_reducible refine Kd.C_drew ?_))); (case side4 => exact HC1.out); rintro e w' ⟨rfl, ⟨nd, rfl⟩⟩; (try first | exact ⟨rfl, _, World.drewN_drewN _ _ _⟩ | exact ⟨rfl, _, Eq.trans (World.drewN_drewN _ _ _) (congrArg (World.drewN _) (Nat.add_assoc _ _ _))⟩)) | (go_at_call 49; (with_reducible refine (spec_B10Prefetcher.calls _ _ l0 t283 t284 t285 t286 _ ?side1 ?side2 A5.out).mono ?_); (case side1 => repeat (first | exact HR0.out | (with_reducible refine Kd.C_alloc ?_ _) | (with_reducible refine Kd.C_drewN ?_ _) | (with_reducible refine Kd.C_drew ?_))); (case side2 => exact HC0.out); rintro e w10 ⟨rfl, hb⟩; have n0_ := Aside0.mk (below_step (by repeat (first | (with_reducible first | exact HB.out | apply below_alloc | apply pw_below_drewN | apply below_drew1) | exact HB.out)) hb); clear HB; have HB := n0_; clear n0_; (try clear hb); (try clear hb2); (try clear hk); (try clear hi)) | ((with_reducible refine gate_dst (N := 5) rfl ?_); (try (refine gate_guard (by rfl) ?_; dsimp only)); refine box_event ?hg (N := 5) ?hd (cs := #[.int .i64 0, .int .i64 0, .int .i64 0, .int .i64 0]) (t := 62) ?hr ?_; (case hd => rfl); (case hg => rfl); (case hr => first | (go_simp; done) | (go_simp; rfl)); intro gb287 hg w11 hbox hb; have n0_ := Aside0.mk (below_step (by repeat (first | (with_reducible first | exact HB.out | apply below_alloc | apply pw_below_drewN | apply below_drew1) | exact HB.out)) hb); have n1_ := Aside0.mk (hbox); have n2_ := Aside0.mk ((by rw [hg]; exact (below_size (by repeat (first | (with_reducible first | exact HB.out | apply below_alloc | apply pw_below_drewN | apply below_drew1) | exact HB.out))) : w.heap.size ≤ gb287)); have n3_ := Aside0.mk ((by rw [hg]; exact (below_size (by repeat (first | (with_reducible first | exact HB.out | apply below_alloc | apply pw_below_drewN | apply below_drew1) | exact HB.out))) : w.heap.size ≤ gb287)); clear HB; have HB := n0_; have BK287 := n1_; have GW287 := n2_; have GE287 := n3_; clear n0_ n1_ n2_ n3_; clear hb hbox hg; have hcz12_0 : w11.cell? ⟨gb287, 0, none⟩ = some (.int .i64 0) := (blk_cell BK287.out 0).trans rfl; have hcz12_1 : w11.cell? ⟨gb287, 1, none⟩ = some (.int .i64 0) := (blk_cell BK287.out 1).trans rfl; have hcz12_2 : w11.cell? ⟨gb287, 2, none⟩ = some (.int .i64 0) := (blk_cell BK287.out 2).trans rfl; have hcz12_3 : w11.cell? ⟨gb287, 3, none⟩ = some (.int .i64 0) := (blk_cell BK287.out 3).trans rfl; have hfz12_0 := blk_frozen BK287.out 0; have hfz12_1 := blk_frozen BK287.out 1; have hfz12_2 := blk_frozen BK287.out 2; have hfz12_3 := blk_frozen BK287.out 3) | (go_at_call 50; (with_reducible refine (spec_B10Loads.calls k _ _ l1 t288 _ ?side1 ?side2 A6.out).mono ?_); (case side1 => exact Kd.C_below HR1.out (by repeat (first | (with_reducible first | exact HB.out | apply below_alloc | apply pw_below_drewN | apply below_drew1 | refine below_set ?_ GE287.out) | exact HB.out))); (case side2 => exact HC1.out); rintro e w13 ⟨v289, rfl, ho0, hb⟩; have n0_ := Aside0.mk (Kd.R_lower ho0 (below_size (by repeat (first | (with_reducible first | exact HB.out | apply below_alloc | apply pw_below_drewN | apply below_drew1 | refine below_set ?_ GE287.out) | exact HB.out)))); have n1_ := Aside0.mk (blk_below (g := gb287) (o := .cells #[.int .i64 t283, .int .i64 t284, .int .i64 t285, .int .i64 t286] 62 (0, 0)) (by (with_reducible repeat (first | refine blk_drewN ?_ _ | refine blk_drew ?_ | refine blk_alloc ?_ _)); refine blk_put (cs := #[.int .i64 t283, .int .i64 t284, .int .i64 t285, .int .i64 0]) ?_ 3 _ rfl; (with_reducible repeat (first | refine blk_drewN ?_ _ | refine blk_drew ?_ | refine blk_alloc ?_ _)); refine blk_put (cs := #[.int .i64 t283, .int .i64 t284, .int .i64 0, .int .i64 0]) ?_ 2 _ rfl; (with_reducible repeat (first | refine blk_drewN ?_ _ | refine blk_drew ?_ | refine blk_alloc ?_ _)); refine blk_put (cs := #[.int .i64 t283, .int .i64 0, .int .i64 0, .int .i64 0]) ?_ 1 _ rfl; (with_reducible repeat (first | refine blk_drewN ?_ _ | refine blk_drew ?_ | refine blk_alloc ?_ _)); refine blk_put (cs := #[.int .i64 0, .int .i64 0, .int .i64 0, .int .i64 0]) ?_ 0 _ rfl; (with_reducible repeat (first | refine blk_drewN ?_ _ | refine blk_drew ?_ | refine blk_alloc ?_ _)); exact BK287.out) hb); have n2_ := Aside0.mk (below_step (by repeat (first | (with_reducible first | exact HB.out | apply below_alloc | apply pw_below_drewN | apply below_drew1 | refine below_set ?_ GE287.out) | exact HB.out)) hb); clear BK287; clear HB; have HO290 := n0_; have BK287 := n1_; have HB := n2_; clear n0_ n1_ n2_; (try clear hb); (try clear hb2); (try clear hk); (try clear hi); (try clear ho0); have hcz14_0 : w13.cell? ⟨gb287, 0, none⟩ = some (.int .i64 t283) := (blk_cell BK287.out 0).trans rfl; have hcz14_1 : w13.cell? ⟨gb287, 1, none⟩ = some (.int .i64 t284) := (blk_cell BK287.out 1).trans rfl; have hcz14_2 : w13.cell? ⟨gb287, 2, none⟩ = some (.int .i64 t285) := (blk_cell BK287.out 2).trans rfl; have hcz14_3 : w13.cell? ⟨gb287, 3, none⟩ = some (.int .i64 t286) := (blk_cell BK287.out 3).trans rfl; have hfz14_0 := blk_frozen BK287.out 0; have hfz14_1 := blk_frozen BK287.out 1; have hfz14_2 := blk_frozen BK287.out 2; have hfz14_3 := blk_frozen BK287.out 3; obtain ⟨Ao15, co15, eo15⟩ := Kd.R_slice HO290.out; subst eo15) | (go_at_call 34; (with_reducible refine (impl_GuessesOf.calls k t283 t284 t285 t286 _ _ t288 t291 t294 _ ?side1 ?side2 A7.out).mono ?_); (case side1 => repeat (first | exact (Kd.R_reads' HO290.out).2.2 | (with_reducible refine Kd.C_alloc ?_ _) | (with_reducible refine Kd.C_drewN ?_ _) | (with_reducible refine Kd.C_drew ?_))); (case side2 => exact (Kd.R_reads' HO290.out).2.1); rintro e w16 ⟨v292, rfl, ho0, hb⟩; have n0_ := Aside0.mk (Kd.R_below (by (with_reducible repeat (first | apply Kd.R_alloc | apply Kd.R_drewN | apply Kd.R_drew)); exact HO290.out) hb); have n1_ := Aside0.mk (Kd.S_lower ho0 (below_size (by repeat (first | (with_reducible first | exact HB.out | apply below_alloc | apply pw_below_drewN | apply below_drew1 | refine below_set ?_ GE287.out) | exact HB.out)))); have n2_ := Aside0.mk (blk_below (g := gb287) (o := .cells #[.int .i64 t283, .int .i64 t284, .int .i64 t285, .int .i64 t286] 62 (0, 0)) (by (with_reducible repeat (first | refine blk_drewN ?_ _ | refine blk_drew ?_ | refine blk_alloc ?_ _)); exact BK287.out) hb); have n3_ := Aside0.mk (below_step (by repeat (first | (with_reducible first | exact HB.out | apply below_alloc | apply pw_below_drewN | apply below_drew1 | refine below_set ?_ GE287.out) | exact HB.out)) hb); clear HO290; clear BK287; clear HB; have HO290 := n0_; have HO293 := n1_; have BK287 := n2_; have HB := n3_; clear n0_ n1_ n2_ n3_; (try clear hb); (try clear hb2); (try clear hk); (try clear hi); (try clear ho0)) | (go_at_call 67; (with_reducible refine (impl_StridesOf.calls k _ _ t288 t295 t296 _ ?side1 ?side2 A8.out).mono ?_); (case side1 => repeat (first | exact (Kd.R_reads' HO290.out).2.2 | (with_reducible refine Kd.C_alloc ?_ _) | (with_reducible refine Kd.C_drewN ?_ _) | (with_reducible refine Kd.C_drew ?_))); (case side2 => exact (Kd.R_reads' HO290.out).2.1); rintro e w17 ⟨v297, rfl, ho0, hb⟩; have n0_ := Aside0.mk (Kd.R_below (by (with_reducible repeat (first | apply Kd.R_alloc | apply Kd.R_drewN | apply Kd.R_drew)); exact HO290.out) hb); have n1_ := Aside0.mk (Kd.S_elder' (by (with_reducible repeat (first | apply Kd.S_alloc | apply Kd.S_drewN | apply Kd.S_drew)); exact HO293.out) (Kd.R_base ho0) hb); have n2_ := Aside0.mk (Kd.R_lower ho0 (below_size (by repeat (first | (with_reducible first | exact HB.out | apply below_alloc | apply pw_below_drewN | apply below_drew1 | refine below_set ?_ GE287.out) | exact HB.out)))); have n3_ := Aside0.mk (blk_below (g := gb287) (o := .cells #[.int .i64 t283, .int .i64 t284, .int .i64 t285, .int .i64 t286] 62 (0, 0)) (by (with_reducible repeat (first | refine blk_drewN ?_ _ | refine blk_drew ?_ | refine blk_alloc ?_ _)); exact BK287.out) hb); have n4_ := Aside0.mk (below_step (by repeat (first | (with_reducible first | exact HB.out | apply below_alloc | apply pw_below_drewN | apply below_drew1 | refine below_set ?_ GE287.out) | exact HB.out)) hb); clear HO290; clear HO293; clear BK287; clear HB; have HO290 := n0_; have HO293 := n1_; have HO298 := n2_; have BK287 := n3_; have HB := n4_; clear n0_ n1_ n2_ n3_ n4_; (try clear hb); (try clear hb2); (try clear hk); (try clear hi); (try clear ho0)))
    repeat (go_quiet (first | (go_at_call 45; (with_reducible refine (laws_b10Long.calls _ _ l0 _ _ l1 false _ ?side1 ?side2 ?side3 ?side4 A3.out).mono ?_); (case side1 => repeat (first | exact HR0.out | (with_reducible refine Kd.C_alloc ?_ _) | (with_reducible refine Kd.C_drewN ?_ _) | (with_reducible refine Kd.C_drew ?_))); (case side2 => exact HC0.out); (case side3 => repeat (first | exact HR1.out | (with_reducible refine Kd.C_alloc ?_ _) | (with_reducible refine Kd.C_drewN ?_ _) | (with_reducible refine Kd.C_drew ?_))); (case side4 => exact HC1.out); rintro e w' ⟨rfl, ⟨nd, rfl⟩⟩; (try first | exact ⟨rfl, _, World.drewN_drewN _ _ _⟩ | exact ⟨rfl, _, Eq.trans (World.drewN_drewN _ _ _) (congrArg (World.drewN _) (Nat.add_assoc _ _ _))⟩)) | (go_at_call 49; (with_reducible refine (spec_B10Prefetcher.calls _ _ l0 t283 t284 t285 t286 _ ?side1 ?side2 A5.out).mono ?_); (case side1 => repeat (first | exact HR0.out | (with_reducible refine Kd.C_alloc ?_ _) | (with_reducible refine Kd.C_drewN ?_ _) | (with_reducible refine Kd.C_drew ?_))); (case side2 => exact HC0.out); rintro e w10 ⟨rfl, hb⟩; have n0_ := Aside0.mk (below_step (by repeat (first | (with_reducible first | exact HB.out | apply below_alloc | apply pw_below_drewN | apply below_drew1) | exact HB.out)) hb); clear HB; have HB := n0_; clear n0_; (try clear hb); (try clear hb2); (try clear hk); (try clear hi)) | ((with_reducible refine gate_dst (N := 5) rfl ?_); (try (refine gate_guard (by rfl) ?_; dsimp only)); refine box_event ?hg (N := 5) ?hd (cs := #[.int .i64 0, .int .i64 0, .int .i64 0, .int .i64 0]) (t := 62) ?hr ?_; (case hd => rfl); (case hg => rfl); (case hr => first | (go_simp; done) | (go_simp; rfl)); intro gb287 hg w11 hbox hb; have n0_ := Aside0.mk (below_step (by repeat (first | (with_reducible first | exact HB.out | apply below_alloc | apply pw_below_drewN | apply below_drew1) | exact HB.out)) hb); have n1_ := Aside0.mk (hbox); have n2_ := Aside0.mk ((by rw [hg]; exact (below_size (by repeat (first | (with_reducible first | exact HB.out | apply below_alloc | apply pw_below_drewN | apply below_drew1) | exact HB.out))) : w.heap.size ≤ gb287)); have n3_ := Aside0.mk ((by rw [hg]; exact (below_size (by repeat (first | (with_reducible first | exact HB.out | apply below_alloc | apply pw_below_drewN | apply below_drew1) | exact HB.out))) : w.heap.size ≤ gb287)); clear HB; have HB := n0_; have BK287 := n1_; have GW287 := n2_; have GE287 := n3_; clear n0_ n1_ n2_ n3_; clear hb hbox hg; have hcz12_0 : w11.cell? ⟨gb287, 0, none⟩ = some (.int .i64 0) := (blk_cell BK287.out 0).trans rfl; have hcz12_1 : w11.cell? ⟨gb287, 1, none⟩ = some (.int .i64 0) := (blk_cell BK287.out 1).trans rfl; have hcz12_2 : w11.cell? ⟨gb287, 2, none⟩ = some (.int .i64 0) := (blk_cell BK287.out 2).trans rfl; have hcz12_3 : w11.cell? ⟨gb287, 3, none⟩ = some (.int .i64 0) := (blk_cell BK287.out 3).trans rfl; have hfz12_0 := blk_frozen BK287.out 0; have hfz12_1 := blk_frozen BK287.out 1; have hfz12_2 := blk_frozen BK287.out 2; have hfz12_3 := blk_frozen BK287.out 3) | (go_at_call 50; (with_reducible refine (spec_B10Loads.calls k _ _ l1 t288 _ ?side1 ?side2 A6.out).mono ?_); (case side1 => exact Kd.C_below HR1.out (by repeat (first | (with_reducible first | exact HB.out | apply below_alloc | apply pw_below_drewN | apply below_drew1 | refine below_set ?_ GE287.out) | exact HB.out))); (case side2 => exact HC1.out); rintro e w13 ⟨v289, rfl, ho0, hb⟩; have n0_ := Aside0.mk (Kd.R_lower ho0 (below_size (by repeat (first | (with_reducible first | exact HB.out | apply below_alloc | apply pw_below_drewN | apply below_drew1 | refine below_set ?_ GE287.out) | exact HB.out)))); have n1_ := Aside0.mk (blk_below (g := gb287) (o := .cells #[.int .i64 t283, .int .i64 t284, .int .i64 t285, .int .i64 t286] 62 (0, 0)) (by (with_reducible repeat (first | refine blk_drewN ?_ _ | refine blk_drew ?_ | refine blk_alloc ?_ _)); refine blk_put (cs := #[.int .i64 t283, .int .i64 t284, .int .i64 t285, .int .i64 0]) ?_ 3 _ rfl; (with_reducible repeat (first | refine blk_drewN ?_ _ | refine blk_drew ?_ | refine blk_alloc ?_ _)); refine blk_put (cs := #[.int .i64 t283, .int .i64 t284, .int .i64 0, .int .i64 0]) ?_ 2 _ rfl; (with_reducible repeat (first | refine blk_drewN ?_ _ | refine blk_drew ?_ | refine blk_alloc ?_ _)); refine blk_put (cs := #[.int .i64 t283, .int .i64 0, .int .i64 0, .int .i64 0]) ?_ 1 _ rfl; (with_reducible repeat (first | refine blk_drewN ?_ _ | refine blk_drew ?_ | refine blk_alloc ?_ _)); refine blk_put (cs := #[.int .i64 0, .int .i64 0, .int .i64 0, .int .i64 0]) ?_ 0 _ rfl; (with_reducible repeat (first | refine blk_drewN ?_ _ | refine blk_drew ?_ | refine blk_alloc ?_ _)); exact BK287.out) hb); have n2_ := Aside0.mk (below_step (by repeat (first | (with_reducible first | exact HB.out | apply below_alloc | apply pw_below_drewN | apply below_drew1 | refine below_set ?_ GE287.out) | exact HB.out)) hb); clear BK287; clear HB; have HO290 := n0_; have BK287 := n1_; have HB := n2_; clear n0_ n1_ n2_; (try clear hb); (try clear hb2); (try clear hk); (try clear hi); (try clear ho0); have hcz14_0 : w13.cell? ⟨gb287, 0, none⟩ = some (.int .i64 t283) := (blk_cell BK287.out 0).trans rfl; have hcz14_1 : w13.cell? ⟨gb287, 1, none⟩ = some (.int .i64 t284) := (blk_cell BK287.out 1).trans rfl; have hcz14_2 : w13.cell? ⟨gb287, 2, none⟩ = some (.int .i64 t285) := (blk_cell BK287.out 2).trans rfl; have hcz14_3 : w13.cell? ⟨gb287, 3, none⟩ = some (.int .i64 t286) := (blk_cell BK287.out 3).trans rfl; have hfz14_0 := blk_frozen BK287.out 0; have hfz14_1 := blk_frozen BK287.out 1; have hfz14_2 := blk_frozen BK287.out 2; have hfz14_3 := blk_frozen BK287.out 3; obtain ⟨Ao15, co15, eo15⟩ := Kd.R_slice HO290.out; subst eo15) | (go_at_call 34; (with_reducible refine (impl_GuessesOf.calls k t283 t284 t285 t286 _ _ t288 t291 t294 _ ?side1 ?side2 A7.out).mono ?_); (case side1 => repeat (first | exact (Kd.R_reads' HO290.out).2.2 | (with_reducible refine Kd.C_alloc ?_ _) | (with_reducible refine Kd.C_drewN ?_ _) | (with_reducible refine Kd.C_drew ?_))); (case side2 => exact (Kd.R_reads' HO290.out).2.1); rintro e w16 ⟨v292, rfl, ho0, hb⟩; have n0_ := Aside0.mk (Kd.R_below (by (with_reducible repeat (first | apply Kd.R_alloc | apply Kd.R_drewN | apply Kd.R_drew)); exact HO290.out) hb); have n1_ := Aside0.mk (Kd.S_lower ho0 (below_size (by repeat (first | (with_reducible first | exact HB.out | apply below_alloc | apply pw_below_drewN | apply below_drew1 | refine below_set ?_ GE287.out) | exact HB.out)))); have n2_ := Aside0.mk (blk_below (g := gb287) (o := .cells #[.int .i64 t283, .int .i64 t284, .int .i64 t285, .int .i64 t286] 62 (0, 0)) (by (with_reducible repeat (first | refine blk_drewN ?_ _ | refine blk_drew ?_ | refine blk_alloc ?_ _)); exact BK287.out) hb); have n3_ := Aside0.mk (below_step (by repeat (first | (with_reducible first | exact HB.out | apply below_alloc | apply pw_below_drewN | apply below_drew1 | refine below_set ?_ GE287.out) | exact HB.out)) hb); clear HO290; clear BK287; clear HB; have HO290 := n0_; have HO293 := n1_; have BK287 := n2_; have HB := n3_; clear n0_ n1_ n2_ n3_; (try clear hb); (try clear hb2); (try clear hk); (try clear hi); (try clear ho0)) | (go_at_call 67; (with_reducible refine (impl_StridesOf.calls k _ _ t288 t295 t296 _ ?side1 ?side2 A8.out).mono ?_); (case side1 => repeat (first | exact (Kd.R_reads' HO290.out).2.2 | (with_reducible refine Kd.C_alloc ?_ _) | (with_reducible refine Kd.C_drewN ?_ _) | (with_reducible refine Kd.C_drew ?_))); (case side2 => exact (Kd.R_reads' HO290.out).2.1); rintro e w17 ⟨v297, rfl, ho0, hb⟩; have n0_ := Aside0.mk (Kd.R_below (by (with_reducible repeat (first | apply Kd.R_alloc | apply Kd.R_drewN | apply Kd.R_drew)); exact HO290.out) hb); have n1_ := Aside0.mk (Kd.S_elder' (by (with_reducible repeat (first | apply Kd.S_alloc | apply Kd.S_drewN | apply Kd.S_drew)); exact HO293.out) (Kd.R_base ho0) hb); have n2_ := Aside0.mk (Kd.R_lower ho0 (below_size (by repeat (first | (with_reducible first | exact HB.out | apply below_alloc | apply pw_below_drewN | apply below_drew1 | refine below_set ?_ GE287.out) | exact HB.out)))); have n3_ := Aside0.mk (blk_below (g := gb287) (o := .cells #[.int .i64 t283, .int .i64 t284, .int .i64 t285, .int .i64 t286] 62 (0, 0)) (by (with_reducible repeat (first | refine blk_drewN ?_ _ | refine blk_drew ?_ | refine blk_alloc ?_ _)); exact BK287.out) hb); have n4_ := Aside0.mk (below_step (by repeat (first | (with_reducible first | exact HB.out | apply below_alloc | apply pw_below_drewN | apply below_drew1 | refine below_set ?_ GE287.out) | exact HB.out)) hb); clear HO290; clear HO293; clear BK287; clear HB; have HO290 := n0_; have HO293 := n1_; have HO298 := n2_; have BK287 := n3_; have HB := n4_; clear n0_ n1_ n2_ n3_ n4_; (try clear hb); (try clear hb2); (try clear hk); (try clear hi); (try clear ho0))); go_upto_region 7 with (first | (go_at_call 45; (with_reducible refine (laws_b10Long.calls _ _ l0 _ _ l1 false _ ?side1 ?side2 ?side3 ?side4 A3.out).mono ?_); (case side1 => repeat (first | exact HR0.out | (with_reducible refine Kd.C_alloc ?_ _) | (with_reducible refine Kd.C_drewN ?_ _) | (with_reducible refine Kd.C_drew ?_))); (case side2 => exact HC0.out); (case side3 => repeat (first | exact HR1.out | (with_reducible refine Kd.C_alloc ?_ _) | (with_reducible refine Kd.C_drewN ?_ _) | (with_reducible refine Kd.C_drew ?_))); (case side4 => exact HC1.out); rintro e w' ⟨rfl, ⟨nd, rfl⟩⟩; (try first | exact ⟨rfl, _, World.drewN_drewN _ _ _⟩ | exact ⟨rfl, _, Eq.trans (World.drewN_drewN _ _ _) (congrArg (World.drewN _) (Nat.add_assoc _ _ _))⟩)) | (go_at_call 49; (with_reducible refine (spec_B10Prefetcher.calls _ _ l0 t283 t284 t285 t286 _ ?side1 ?side2 A5.out).mono ?_); (case side1 => repeat (first | exact HR0.out | (with_reducible refine Kd.C_alloc ?_ _) | (with_reducible refine Kd.C_drewN ?_ _) | (with_reducible refine Kd.C_drew ?_))); (case side2 => exact HC0.out); rintro e w10 ⟨rfl, hb⟩; have n0_ := Aside0.mk (below_step (by repeat (first | (with_reducible first | exact HB.out | apply below_alloc | apply pw_below_drewN | apply below_drew1) | exact HB.out)) hb); clear HB; have HB := n0_; clear n0_; (try clear hb); (try clear hb2); (try clear hk); (try clear hi)) | ((with_reducible refine gate_dst (N := 5) rfl ?_); (try (refine gate_guard (by rfl) ?_; dsimp only)); refine box_event ?hg (N := 5) ?hd (cs := #[.int .i64 0, .int .i64 0, .int .i64 0, .int .i64 0]) (t := 62) ?hr ?_; (case hd => rfl); (case hg => rfl); (case hr => first | (go_simp; done) | (go_simp; rfl)); intro gb287 hg w11 hbox hb; have n0_ := Aside0.mk (below_step (by repeat (first | (with_reducible first | exact HB.out | apply below_alloc | apply pw_below_drewN | apply below_drew1) | exact HB.out)) hb); have n1_ := Aside0.mk (hbox); have n2_ := Aside0.mk ((by rw [hg]; exact (below_size (by repeat (first | (with_reducible first | exact HB.out | apply below_alloc | apply pw_below_drewN | apply below_drew1) | exact HB.out))) : w.heap.size ≤ gb287)); have n3_ := Aside0.mk ((by rw [hg]; exact (below_size (by repeat (first | (with_reducible first | exact HB.out | apply below_alloc | apply pw_below_drewN | apply below_drew1) | exact HB.out))) : w.heap.size ≤ gb287)); clear HB; have HB := n0_; have BK287 := n1_; have GW287 := n2_; have GE287 := n3_; clear n0_ n1_ n2_ n3_; clear hb hbox hg; have hcz12_0 : w11.cell? ⟨gb287, 0, none⟩ = some (.int .i64 0) := (blk_cell BK287.out 0).trans rfl; have hcz12_1 : w11.cell? ⟨gb287, 1, none⟩ = some (.int .i64 0) := (blk_cell BK287.out 1).trans rfl; have hcz12_2 : w11.cell? ⟨gb287, 2, none⟩ = some (.int .i64 0) := (blk_cell BK287.out 2).trans rfl; have hcz12_3 : w11.cell? ⟨gb287, 3, none⟩ = some (.int .i64 0) := (blk_cell BK287.out 3).trans rfl; have hfz12_0 := blk_frozen BK287.out 0; have hfz12_1 := blk_frozen BK287.out 1; have hfz12_2 := blk_frozen BK287.out 2; have hfz12_3 := blk_frozen BK287.out 3) | (go_at_call 50; (with_reducible refine (spec_B10Loads.calls k _ _ l1 t288 _ ?side1 ?side2 A6.out).mono ?_); (case side1 => exact Kd.C_below HR1.out (by repeat (first | (with_reducible first | exact HB.out | apply below_alloc | apply pw_below_drewN | apply below_drew1 | refine below_set ?_ GE287.out) | exact HB.out))); (case side2 => exact HC1.out); rintro e w13 ⟨v289, rfl, ho0, hb⟩; have n0_ := Aside0.mk (Kd.R_lower ho0 (below_size (by repeat (first | (with_reducible first | exact HB.out | apply below_alloc | apply pw_below_drewN | apply below_drew1 | refine below_set ?_ GE287.out) | exact HB.out)))); have n1_ := Aside0.mk (blk_below (g := gb287) (o := .cells #[.int .i64 t283, .int .i64 t284, .int .i64 t285, .int .i64 t286] 62 (0, 0)) (by (with_reducible repeat (first | refine blk_drewN ?_ _ | refine blk_drew ?_ | refine blk_alloc ?_ _)); refine blk_put (cs := #[.int .i64 t283, .int .i64 t284, .int .i64 t285, .int .i64 0]) ?_ 3 _ rfl; (with_reducible repeat (first | refine blk_drewN ?_ _ | refine blk_drew ?_ | refine blk_alloc ?_ _)); refine blk_put (cs := #[.int .i64 t283, .int .i64 t284, .int .i64 0, .int .i64 0]) ?_ 2 _ rfl; (with_reducible repeat (first | refine blk_drewN ?_ _ | refine blk_drew ?_ | refine blk_alloc ?_ _)); refine blk_put (cs := #[.int .i64 t283, .int .i64 0, .int .i64 0, .int .i64 0]) ?_ 1 _ rfl; (with_reducible repeat (first | refine blk_drewN ?_ _ | refine blk_drew ?_ | refine blk_alloc ?_ _)); refine blk_put (cs := #[.int .i64 0, .int .i64 0, .int .i64 0, .int .i64 0]) ?_ 0 _ rfl; (with_reducible repeat (first | refine blk_drewN ?_ _ | refine blk_drew ?_ | refine blk_alloc ?_ _)); exact BK287.out) hb); have n2_ := Aside0.mk (below_step (by repeat (first | (with_reducible first | exact HB.out | apply below_alloc | apply pw_below_drewN | apply below_drew1 | refine below_set ?_ GE287.out) | exact HB.out)) hb); clear BK287; clear HB; have HO290 := n0_; have BK287 := n1_; have HB := n2_; clear n0_ n1_ n2_; (try clear hb); (try clear hb2); (try clear hk); (try clear hi); (try clear ho0); have hcz14_0 : w13.cell? ⟨gb287, 0, none⟩ = some (.int .i64 t283) := (blk_cell BK287.out 0).trans rfl; have hcz14_1 : w13.cell? ⟨gb287, 1, none⟩ = some (.int .i64 t284) := (blk_cell BK287.out 1).trans rfl; have hcz14_2 : w13.cell? ⟨gb287, 2, none⟩ = some (.int .i64 t285) := (blk_cell BK287.out 2).trans rfl; have hcz14_3 : w13.cell? ⟨gb287, 3, none⟩ = some (.int .i64 t286) := (blk_cell BK287.out 3).trans rfl; have hfz14_0 := blk_frozen BK287.out 0; have hfz14_1 := blk_frozen BK287.out 1; have hfz14_2 := blk_frozen BK287.out 2; have hfz14_3 := blk_frozen BK287.out 3; obtain ⟨Ao15, co15, eo15⟩ := Kd.R_slice HO290.out; subst eo15) | (go_at_call 34; (with_reducible refine (impl_GuessesOf.calls k t283 t284 t285 t286 _ _ t288 t291 t294 _ ?side1 ?side2 A7.out).mono ?_); (case side1 => repeat (first | exact (Kd.R_reads' HO290.out).2.2 | (with_reducible refine Kd.C_alloc ?_ _) | (with_reducible refine Kd.C_drewN ?_ _) | (with_reducible refine Kd.C_drew ?_))); (case side2 => exact (Kd.R_reads' HO290.out).2.1); rintro e w16 ⟨v292, rfl, ho0, hb⟩; have n0_ := Aside0.mk (Kd.R_below (by (with_reducible repeat (first | apply Kd.R_alloc | apply Kd.R_drewN | apply Kd.R_drew)); exact HO290.out) hb); have n1_ := Aside0.mk (Kd.S_lower ho0 (below_size (by repeat (first | (with_reducible first | exact HB.out | apply below_alloc | apply pw_below_drewN | apply below_drew1 | refine below_set ?_ GE287.out) | exact HB.out)))); have n2_ := Aside0.mk (blk_below (g := gb287) (o := .cells #[.int .i64 t283, .int .i64 t284, .int .i64 t285, .int .i64 t286] 62 (0, 0)) (by (with_reducible repeat (first | refine blk_drewN ?_ _ | refine blk_drew ?_ | refine blk_alloc ?_ _)); exact BK287.out) hb); have n3_ := Aside0.mk (below_step (by repeat (first | (with_reducible first | exact HB.out | apply below_alloc | apply pw_below_drewN | apply below_drew1 | refine below_set ?_ GE287.out) | exact HB.out)) hb); clear HO290; clear BK287; clear HB; have HO290 := n0_; have HO293 := n1_; have BK287 := n2_; have HB := n3_; clear n0_ n1_ n2_ n3_; (try clear hb); (try clear hb2); (try clear hk); (try clear hi); (try clear ho0)) | (go_at_call 67; (with_reducible refine (impl_StridesOf.calls k _ _ t288 t295 t296 _ ?side1 ?side2 A8.out).mono ?_); (case side1 => repeat (first | exact (Kd.R_reads' HO290.out).2.2 | (with_reducible refine Kd.C_alloc ?_ _) | (with_reducible refine Kd.C_drewN ?_ _) | (with_reducible refine Kd.C_drew ?_))); (case side2 => exact (Kd.R_reads' HO290.out).2.1); rintro e w17 ⟨v297, rfl, ho0, hb⟩; have n0_ := Aside0.mk (Kd.R_below (by (with_reducible repeat (first | apply Kd.R_alloc | apply Kd.R_drewN | apply Kd.R_drew)); exact HO290.out) hb); have n1_ := Aside0.mk (Kd.S_elder' (by (with_reducible repeat (first | apply Kd.S_alloc | apply Kd.S_drewN | apply Kd.S_drew)); exact HO293.out) (Kd.R_base ho0) hb); have n2_ := Aside0.mk (Kd.R_lower ho0 (below_size (by repeat (first | (with_reducible first | exact HB.out | apply below_alloc | apply pw_below_drewN | apply below_drew1 | refine below_set ?_ GE287.out) | exact HB.out)))); have n3_ := Aside0.mk (blk_below (g := gb287) (o := .cells #[.int .i64 t283, .int .i64 t284, .int .i64 t285, .int .i64 t286] 62 (0, 0)) (by (with_reducible repeat (first | refine blk_drewN ?_ _ | refine blk_drew ?_ | refine blk_alloc ?_ _)); exact BK287.out) hb); have n4_ := Aside0.mk (below_step (by repeat (first | (with_reducible first | exact HB.out | apply below_alloc | apply pw_below_drewN | apply below_drew1 | refine below_set ?_ GE287.out) | exact HB.out)) hb); clear HO290; clear HO293; clear BK287; clear HB; have HO290 := n0_; have HO293 := n1_; have HO298 := n2_; have BK287 := n3_; have HB := n4_; clear n0_ n1_ n2_ n3_ n4_; (try clear hb); (try clear hb2); (try clear hk); (try clear hi); (try clear ho0))))
    (try simp only [Act.put, List.setIfInBounds_toArray, List.set_cons_zero, List.set_cons_succ])
    go_cut [54] (fun v54 wc => ∃ (kq : Nat) (x54_8 : Bool), v54 = .bool x54_8 ∧ Aside0 (laws_FnGuessed.j0 kq t288 t291 t295 x54_8 t283 t284 t285 t286 = some r) ∧ Aside0 (kq ≤ k) ∧ Aside0 (Kd.R k81 81 wc w.heap.size (fun _ => True) (.slice Ao15 t288.length co15) t288) ∧ Aside0 (Kd.S (Kd.slice 2 (Kd.int .i64)) 25 wc w.heap.size (fun k_ => some k_ ≠ (v297 : Value).ownBlock) v292 t291) ∧ Aside0 (Kd.R (Kd.int .i64) 2 wc w.heap.size (fun _ => True) v297 t295) ∧ Aside0 (wc.heap[gb287]? = some (.cells #[.int .i64 t283, .int .i64 t284, .int .i64 t285, .int .i64 t286] 62 (0, 0))) ∧ Aside0 (Below w.heap.size w wc))
    case first =>
      have H := HC9.out
      clear HC9
      by_cases c18 : t294 = true
      · subst c18
        have H1 : (if t296 = true then (if (t291.length : Int) = (t288.length : Int) then (laws_FnGuessed.j0 k t288 t291 t295 ((t295.length : Int) != (t288.length : Int)) t283 t284 t285 t286) else (laws_FnGuessed.j0 k t288 t291 t295 true t283 t284 t285 t286)) else (laws_FnGuessed.j0 k t288 t291 t295 true t283 t284 t285 t286)) = some r := by rw [if_pos rfl] at H; exact H
        clear H
        have H := H1
        clear H1
        by_cases c19 : t296 = true
        · subst c19
          have H1 : (if (t291.length : Int) = (t288.length : Int) then (laws_FnGuessed.j0 k t288 t291 t295 ((t295.length : Int) != (t288.length : Int)) t283 t284 t285 t286) else (laws_FnGuessed.j0 k t288 t291 t295 true t283 t284 t285 t286)) = some r := by rw [if_pos rfl] at H; exact H
          clear H
          have H := H1
          clear H1
          by_cases c20 : (t291.length : Int) = (t288.length : Int)
          · rw [if_pos c20] at H
            have c20b0 : ((t291.length : Int) == (t288.length : Int)) = true := beq_iff_eq.mpr c20
            have c20b1 : ((t291.length : Int) != (t288.length : Int)) = false := bne_eq_false_iff_eq.mpr c20
            have c20b2 : (t291.length == t288.length) = true := by first | simpa using c20 | (simp at c20 ⊢; omega)
            clear c20
            (first | rw [c20b0] | (simp only [i64_w, i32_w]; rw [c20b0]) | skip)
            have H' := Aside0.mk H
            clear H
            obtain ⟨Ao21, co21, eo21⟩ := Kd.S_slice HO293.out
            subst eo21
            obtain ⟨Ao22, co22, eo22⟩ := Kd.R_slice HO298.out
            subst eo22
            go_wp2
            repeat (go_quiet (fail); try go_wp2)
            go_meet
            case rel => exact ⟨_, (((t295.length : Int) != (t288.length : Int))), (by first | rfl | (simp; done) | (simp [*]; done)), H', ⟨by first | omega | exact Nat.le_refl _⟩, ⟨by (with_reducible repeat (first | apply Kd.R_alloc | apply Kd.R_drewN | apply Kd.R_drew)); exact HO290.out⟩, ⟨by (with_reducible repeat (first | apply Kd.S_alloc | apply Kd.S_drewN | apply Kd.S_drew)); exact Kd.S_mono HO293.out (fun _ hk => hk.2)⟩, ⟨by (with_reducible repeat (first | apply Kd.R_alloc | apply Kd.R_drewN | apply Kd.R_drew)); exact HO298.out⟩, ⟨by (with_reducible repeat (first | refine blk_drewN ?_ _ | refine blk_drew ?_ | refine blk_alloc ?_ _)); exact BK287.out⟩, ⟨by repeat (first | (with_reducible first | exact HB.out | apply below_alloc | apply pw_below_drewN | apply below_drew1 | refine below_set ?_ GE287.out) | exact HB.out)⟩⟩
          · rw [if_neg c20] at H
            have c20b0 : ((t291.length : Int) == (t288.length : Int)) = false := beq_eq_false_iff_ne.mpr c20
            have c20b1 : ((t291.length : Int) != (t288.length : Int)) = true := bne_iff_ne.mpr c20
            have c20b2 : (t291.length == t288.length) = false := by first | simpa using c20 | (simp at c20 ⊢; omega)
            (first | rw [c20b0] | (simp only [i64_w, i32_w]; rw [c20b0]) | skip)
            have H' := Aside0.mk H
            clear H
            obtain ⟨Ao23, co23, eo23⟩ := Kd.S_slice HO293.out
            subst eo23
            go_wp2
            repeat (go_quiet (fail); try go_wp2)
            go_meet
            case rel => exact ⟨_, (true), (by first | rfl | (simp; done) | (simp [*]; done)), H', ⟨by first | omega | exact Nat.le_refl _⟩, ⟨by (with_reducible repeat (first | apply Kd.R_alloc | apply Kd.R_drewN | apply Kd.R_drew)); exact HO290.out⟩, ⟨by (with_reducible repeat (first | apply Kd.S_alloc | apply Kd.S_drewN | apply Kd.S_drew)); exact Kd.S_mono HO293.out (fun _ hk => hk.2)⟩, ⟨by (with_reducible repeat (first | apply Kd.R_alloc | apply Kd.R_drewN | apply Kd.R_drew)); exact HO298.out⟩, ⟨by (with_reducible repeat (first | refine blk_drewN ?_ _ | refine blk_drew ?_ | refine blk_alloc ?_ _)); exact BK287.out⟩, ⟨by repeat (first | (with_reducible first | exact HB.out | apply below_alloc | apply pw_below_drewN | apply below_drew1 | refine below_set ?_ GE287.out) | exact HB.out)⟩⟩
        · replace c19 := Bool.eq_false_iff.mpr c19
          subst c19
          have H1 : (laws_FnGuessed.j0 k t288 t291 t295 true t283 t284 t285 t286) = some r := by rw [if_neg (show ¬ (false = true) by decide)] at H; exact H
          clear H
          have H := H1
          clear H1
          have H' := Aside0.mk H
          clear H
          go_wp2
          repeat (go_quiet (fail); try go_wp2)
          go_meet
          case rel => exact ⟨_, (true), (by first | rfl | (simp; done) | (simp [*]; done)), H', ⟨by first | omega | exact Nat.le_refl _⟩, ⟨by (with_reducible repeat (first | apply Kd.R_alloc | apply Kd.R_drewN | apply Kd.R_drew)); exact HO290.out⟩, ⟨by (with_reducible repeat (first | apply Kd.S_alloc | apply Kd.S_drewN | apply Kd.S_drew)); exact Kd.S_mono HO293.out (fun _ hk => hk.2)⟩, ⟨by (with_reducible repeat (first | apply Kd.R_alloc | apply Kd.R_drewN | apply Kd.R_drew)); exact HO298.out⟩, ⟨by (with_reducible repeat (first | refine blk_drewN ?_ _ | refine blk_drew ?_ | refine blk_alloc ?_ _)); exact BK287.out⟩, ⟨by repeat (first | (with_reducible first | exact HB.out | apply below_alloc | apply pw_below_drewN | apply below_drew1 | refine below_set ?_ GE287.out) | exact HB.out)⟩⟩
      · replace c18 := Bool.eq_false_iff.mpr c18
        subst c18
        have H1 : (laws_FnGuessed.j0 k t288 t291 t295 true t283 t284 t285 t286) = some r := by rw [if_neg (show ¬ (false = true) by decide)] at H; exact H
        clear H
        have H := H1
        clear H1
        have H' := Aside0.mk H
        clear H
        go_wp2
        repeat (go_quiet (fail); try go_wp2)
        go_meet
        case rel => exact ⟨_, (true), (by first | rfl | (simp; done) | (simp [*]; done)), H', ⟨by first | omega | exact Nat.le_refl _⟩, ⟨by (with_reducible repeat (first | apply Kd.R_alloc | apply Kd.R_drewN | apply Kd.R_drew)); exact HO290.out⟩, ⟨by (with_reducible repeat (first | apply Kd.S_alloc | apply Kd.S_drewN | apply Kd.S_drew)); exact Kd.S_mono HO293.out (fun _ hk => hk.2)⟩, ⟨by (with_reducible repeat (first | apply Kd.R_alloc | apply Kd.R_drewN | apply Kd.R_drew)); exact HO298.out⟩, ⟨by (with_reducible repeat (first | refine blk_drewN ?_ _ | refine blk_drew ?_ | refine blk_alloc ?_ _)); exact BK287.out⟩, ⟨by repeat (first | (with_reducible first | exact HB.out | apply below_alloc | apply pw_below_drewN | apply below_drew1 | refine below_set ?_ GE287.out) | exact HB.out)⟩⟩
    case rest =>
      clear HC9
      try clear c1
      try clear c2
      try clear p2
      try clear c4
      try clear c11
      try clear c18
      try clear c19
      try clear c20
      try clear c20b0
      try clear c20b1
      try clear c20b2
      try clear hcz12_0
      try clear hcz12_1
      try clear hcz12_2
      try clear hcz12_3
      try clear hcz14_0
      try clear hcz14_1
      try clear hcz14_2
      try clear hcz14_3
      try clear hfz12_0
      try clear hfz12_1
      try clear hfz12_2
      try clear hfz12_3
      try clear hfz14_0
      try clear hfz14_1
      try clear hfz14_2
      try clear hfz14_3
      obtain ⟨kq, x54_8, rfl, HA, HJ8, HO_6, HO_7, HO_9, BK287, HB⟩ := hcut
      cases kq with
      | zero => exact absurd HA.out (by simp [laws_FnGuessed.j0])
      | succ kj8 =>
        have H := HA.out
        clear HA
        simp only [laws_FnGuessed.j0] at H
        by_cases c24 : x54_8 = true
        · subst c24
          have H1 : (some false) = some r := by rw [if_pos rfl] at H; exact H
          clear H
          have H := H1
          clear H1
          obtain rfl := Option.some.inj H
          go_wp2
          repeat (go_quiet (fail); try go_wp2)
          go_ret
          exact ⟨by first | rfl | (simp [errW_none, errW_some] <;> rfl) | (simp [*, errW_none, errW_some] <;> rfl), by repeat (first | (with_reducible first | exact HB.out | apply below_alloc | apply pw_below_drewN | apply below_drew1 | refine below_set ?_ GE287.out) | exact HB.out)⟩
        · replace c24 := Bool.eq_false_iff.mpr c24
          subst c24
          have H1 : (laws_FnGuessed.l0 kj8 t288 t291 t295 0 t283 t284 t285 t286) = some r := by rw [if_neg (show ¬ (false = true) by decide)] at H; exact H
          clear H
          have H := H1
          clear H1
          have H' := Aside0.mk H
          clear H
          go_wp2
          repeat (go_quiet (fail); try go_wp2)
          go_loopg [11] kj8 (fun kq v11 w' => ∃ (x11_2 : Int), v11 = .int .i64 x11_2 ∧ Aside0 (laws_FnGuessed.l0 kq t288 t291 t295 x11_2 t283 t284 t285 t286 = some r) ∧ Aside0 (kq ≤ kj8) ∧ Aside0 (Kd.R k81 81 w' w.heap.size (fun _ => True) (.slice Ao15 t288.length co15) t288) ∧ Aside0 (Kd.S (Kd.slice 2 (Kd.int .i64)) 25 w' w.heap.size (fun k_ => some k_ ≠ (v297 : Value).ownBlock) v292 t291) ∧ Aside0 (Kd.R (Kd.int .i64) 2 w' w.heap.size (fun _ => True) v297 t295) ∧ Aside0 (w'.heap[gb287]? = some (.cells #[.int .i64 t283, .int .i64 t284, .int .i64 t285, .int .i64 t286] 62 (0, 0))) ∧ Aside0 (Below w.heap.size w w'))
          case atStart => exact ⟨(0), (by first | rfl | (simp; done) | (simp [*]; done)), H', ⟨Nat.le_refl _⟩, ⟨by (with_reducible repeat (first | apply Kd.R_alloc | apply Kd.R_drewN | apply Kd.R_drew)); exact HO_6.out⟩, ⟨by (with_reducible repeat (first | apply Kd.S_alloc | apply Kd.S_drewN | apply Kd.S_drew)); exact HO_7.out⟩, ⟨by (with_reducible repeat (first | apply Kd.R_alloc | apply Kd.R_drewN | apply Kd.R_drew)); exact HO_9.out⟩, ⟨by (with_reducible repeat (first | refine blk_drewN ?_ _ | refine blk_drew ?_ | refine blk_alloc ?_ _)); exact BK287.out⟩, ⟨by repeat (first | (with_reducible first | exact HB.out | apply below_alloc | apply pw_below_drewN | apply below_drew1 | refine below_set ?_ GE287.out) | exact HB.out)⟩⟩
          case round =>
            clear H'
            try clear c1
            try clear c2
            try clear p2
            try clear c4
            try clear c11
            try clear c18
            try clear c19
            try clear c20
            try clear c20b0
            try clear c20b1
            try clear c20b2
            try clear c24
            try clear hcz12_0
            try clear hcz12_1
            try clear hcz12_2
            try clear hcz12_3
            try clear hcz14_0
            try clear hcz14_1
            try clear hcz14_2
            try clear hcz14_3
            try clear hfz12_0
            try clear hfz12_1
            try clear hfz12_2
            try clear hfz12_3
            try clear hfz14_0
            try clear hfz14_1
            try clear hfz14_2
            try clear hfz14_3
            try clear p2
            obtain ⟨x11_2, rfl, HA, HK2, HO_6, HO_7, HO_9, BK287, HB⟩ := hrel
            cases gk with
            | zero => exact absurd HA.out (by simp [laws_FnGuessed.l0])
            | succ k2 =>
              have H := HA.out
              clear HA
              simp only [laws_FnGuessed.l0] at H
              by_cases c25 : x11_2 < (t291.length : Int)
              · rw [if_pos c25] at H
                have c25b0 : decide (x11_2 < (t291.length : Int)) = true := decide_eq_true c25
                clear c25
                have HC26 := Aside0.mk H
                clear H
                obtain ⟨Ao27, co27, eo27⟩ := Kd.S_slice HO_7.out
                subst eo27
                go_upto_region 12 with (fail)
                repeat (go_quiet (fail); go_upto_region 12 with (fail))
                go_cut [80] (fun v80 wc => ∃ (kq : Nat) (x80_25 : Bool), v80 = .bool x80_25 ∧ Aside0 (laws_FnGuessed.j2 kq t288 t291 t295 x11_2 x80_25 t283 t284 t285 t286 = some r) ∧ Aside0 (kq ≤ k2) ∧ Aside0 (Kd.R k81 81 wc w.heap.size (fun _ => True) (.slice Ao15 t288.length co15) t288) ∧ Aside0 (Kd.S (Kd.slice 2 (Kd.int .i64)) 25 wc w.heap.size (fun k_ => some k_ ≠ (v297 : Value).ownBlock) (.slice Ao27 t291.length co27) t291) ∧ Aside0 (Kd.R (Kd.int .i64) 2 wc w.heap.size (fun _ => True) v297 t295) ∧ Aside0 (wc.heap[gb287]? = some (.cells #[.int .i64 t283, .int .i64 t284, .int .i64 t285, .int .i64 t286] 62 (0, 0))) ∧ Aside0 (Below w.heap.size w wc))
                case first =>
                  have H := HC26.out
                  clear HC26
                  by_cases c28 : 0 ≤ x11_2
                  · rw [if_pos c28] at H
                    have c28b0 : decide (0 ≤ x11_2) = true := decide_eq_true c28
                    clear c28
                    (first | rw [c28b0] | (simp only [i64_w, i32_w]; rw [c28b0]) | skip)
                    by_cases c29 : ((rd_L4 t291 x11_2).length : Int) > t284
                    · rw [if_pos c29] at H
                      have c29b0 : decide (t284 < ((rd_L4 t291 x11_2).length : Int)) = true := decide_eq_true c29
                      clear c29
                      have H' := Aside0.mk H
                      clear H
                      have p299 : 0 ≤ (x11_2 : Int) := of_decide_eq_true (by first | (with_reducible assumption) | assumption)
                      have q299 : x11_2 < (t291.length : Int) := of_decide_eq_true (by first | (with_reducible assumption) | assumption)
                      obtain ⟨ad299, A299_0, c299_0, e299, hx299_0, hl299_0, hi299_0⟩ := at_L4 (Kd.S_reads' HO_7.out).2.2 x11_2 p299 q299
                      cases e299
                      obtain ⟨ce299, hce299, hMe299, hcc299⟩ := Kd.S_get HO_7.out [] x11_2 p299 (by first | exact q299 | exact of_decide_eq_true (by first | (with_reducible assumption) | assumption) | (have e_ := (Kd.S_reads' HO_7.out).1; omega))
                      obtain ⟨ve299_0, rfl, ge299_0⟩ := hMe299
                      have hv299_0 := hcc299 0 _ rfl
                      rw [Nat.add_zero, show ((Kd.slice 2 (Kd.int .i64))).sz = 1 from rfl, Nat.mul_one] at hv299_0
                      replace hv299_0 := Option.some.inj (hv299_0.symm.trans hx299_0)
                      rw [hv299_0] at ge299_0
                      have HL299_0 := Aside0.mk (show Kd.R (Kd.int .i64) 2 _ _ _ _ (rd_L4 t291 x11_2) from ge299_0)
                      clear hv299_0 ge299_0
                      clear hcc299 hce299
                      have HR299_0 := Aside0.mk hi299_0
                      have HC299_0 := Aside0.mk hl299_0
                      clear hi299_0 hl299_0
                      replace p299 := eq_true p299
                      replace q299 := eq_true q299
                      have hcz30_0 : wr.cell? ⟨gb287, 0, none⟩ = some (.int .i64 t283) := (blk_cell BK287.out 0).trans rfl
                      have hcz30_1 : wr.cell? ⟨gb287, 1, none⟩ = some (.int .i64 t284) := (blk_cell BK287.out 1).trans rfl
                      have hcz30_2 : wr.cell? ⟨gb287, 2, none⟩ = some (.int .i64 t285) := (blk_cell BK287.out 2).trans rfl
                      have hcz30_3 : wr.cell? ⟨gb287, 3, none⟩ = some (.int .i64 t286) := (blk_cell BK287.out 3).trans rfl
                      have hfz30_0 := blk_frozen BK287.out 0
                      have hfz30_1 := blk_frozen BK287.out 1
                      have hfz30_2 := blk_frozen BK287.out 2
                      have hfz30_3 := blk_frozen BK287.out 3
                      go_wp2
                      repeat (go_quiet (fail); try go_wp2)
                      go_meet
                      case rel => exact ⟨_, (true), (by first | rfl | (simp; done) | (simp [*]; done)), H', ⟨by have := HJ8.out; have := HK2.out; first | omega | exact Nat.le_refl _⟩, ⟨by (with_reducible repeat (first | apply Kd.R_alloc | apply Kd.R_drewN | apply Kd.R_drew)); exact HO_6.out⟩, ⟨by (with_reducible repeat (first | apply Kd.S_alloc | apply Kd.S_drewN | apply Kd.S_drew)); exact HO_7.out⟩, ⟨by (with_reducible repeat (first | apply Kd.R_alloc | apply Kd.R_drewN | apply Kd.R_drew)); exact HO_9.out⟩, ⟨by (with_reducible repeat (first | refine blk_drewN ?_ _ | refine blk_drew ?_ | refine blk_alloc ?_ _)); exact BK287.out⟩, ⟨by repeat (first | (with_reducible first | exact HB.out | apply below_alloc | apply pw_below_drewN | apply below_drew1 | refine below_set ?_ GE287.out) | exact HB.out)⟩⟩
                    · rw [if_neg c29] at H
                      have c29b0 : decide (t284 < ((rd_L4 t291 x11_2).length : Int)) = false := decide_eq_false c29
                      clear c29
                      by_cases c31 : x11_2 < (t288.length : Int)
                      · rw [if_pos c31] at H
                        have c31b0 : decide (x11_2 < (t288.length : Int)) = true := decide_eq_true c31
                        clear c31
                        replace H := Option.bind_eq_some_iff.mp H
                        obtain ⟨t302, A320, H⟩ := H
                        replace H : (laws_FnGuessed.j2 k2 t288 t291 t295 x11_2 t302 t283 t284 t285 t286) = some r := H
                        have A32 := Aside0.mk A320
                        clear A320
                        have H' := Aside0.mk H
                        clear H
                        have p299 : 0 ≤ (x11_2 : Int) := of_decide_eq_true (by first | (with_reducible assumption) | assumption)
                        have q299 : x11_2 < (t291.length : Int) := of_decide_eq_true (by first | (with_reducible assumption) | assumption)
                        obtain ⟨ad299, A299_0, c299_0, e299, hx299_0, hl299_0, hi299_0⟩ := at_L4 (Kd.S_reads' HO_7.out).2.2 x11_2 p299 q299
                        cases e299
                        obtain ⟨ce299, hce299, hMe299, hcc299⟩ := Kd.S_get HO_7.out [] x11_2 p299 (by first | exact q299 | exact of_decide_eq_true (by first | (with_reducible assumption) | assumption) | (have e_ := (Kd.S_reads' HO_7.out).1; omega))
                        obtain ⟨ve299_0, rfl, ge299_0⟩ := hMe299
                        have hv299_0 := hcc299 0 _ rfl
                        rw [Nat.add_zero, show ((Kd.slice 2 (Kd.int .i64))).sz = 1 from rfl, Nat.mul_one] at hv299_0
                        replace hv299_0 := Option.some.inj (hv299_0.symm.trans hx299_0)
                        rw [hv299_0] at ge299_0
                        have HL299_0 := Aside0.mk (show Kd.R (Kd.int .i64) 2 _ _ _ _ (rd_L4 t291 x11_2) from ge299_0)
                        clear hv299_0 ge299_0
                        clear hcc299 hce299
                        have HR299_0 := Aside0.mk hi299_0
                        have HC299_0 := Aside0.mk hl299_0
                        clear hi299_0 hl299_0
                        replace p299 := eq_true p299
                        replace q299 := eq_true q299
                        have hcz33_0 : wr.cell? ⟨gb287, 0, none⟩ = some (.int .i64 t283) := (blk_cell BK287.out 0).trans rfl
                        have hcz33_1 : wr.cell? ⟨gb287, 1, none⟩ = some (.int .i64 t284) := (blk_cell BK287.out 1).trans rfl
                        have hcz33_2 : wr.cell? ⟨gb287, 2, none⟩ = some (.int .i64 t285) := (blk_cell BK287.out 2).trans rfl
                        have hcz33_3 : wr.cell? ⟨gb287, 3, none⟩ = some (.int .i64 t286) := (blk_cell BK287.out 3).trans rfl
                        have hfz33_0 := blk_frozen BK287.out 0
                        have hfz33_1 := blk_frozen BK287.out 1
                        have hfz33_2 := blk_frozen BK287.out 2
                        have hfz33_3 := blk_frozen BK287.out 3
                        have p300 : 0 ≤ (x11_2 : Int) := of_decide_eq_true (by first | (with_reducible assumption) | assumption)
                        have q300 : x11_2 < (t291.length : Int) := of_decide_eq_true (by first | (with_reducible assumption) | assumption)
                        obtain ⟨ad300, A300_0, c300_0, e300, hx300_0, hl300_0, hi300_0⟩ := at_L4 (Kd.S_reads' HO_7.out).2.2 x11_2 p300 q300
                        obtain rfl : ad299 = ad300 := (by injection e300)
                        obtain ⟨ce300, hce300, hMe300, hcc300⟩ := Kd.S_get HO_7.out [] x11_2 p300 (by first | exact q300 | exact of_decide_eq_true (by first | (with_reducible assumption) | assumption) | (have e_ := (Kd.S_reads' HO_7.out).1; omega))
                        obtain ⟨ve300_0, rfl, ge300_0⟩ := hMe300
                        have hv300_0 := hcc300 0 _ rfl
                        rw [Nat.add_zero, show ((Kd.slice 2 (Kd.int .i64))).sz = 1 from rfl, Nat.mul_one] at hv300_0
                        replace hv300_0 := Option.some.inj (hv300_0.symm.trans hx300_0)
                        rw [hv300_0] at ge300_0
                        have HL300_0 := Aside0.mk (show Kd.R (Kd.int .i64) 2 _ _ _ _ (rd_L4 t291 x11_2) from ge300_0)
                        clear hv300_0 ge300_0
                        clear hcc300 hce300
                        have HR300_0 := Aside0.mk hi300_0
                        have HC300_0 := Aside0.mk hl300_0
                        clear hi300_0 hl300_0
                        replace p300 := eq_true p300
                        replace q300 := eq_true q300
                        have ea_ := Option.some.inj (hx299_0.symm.trans hx300_0)
                        injection ea_ with ea_ en_ ec_
                        subst ea_
                        subst ec_
                        clear en_
                        have p301 : 0 ≤ (x11_2 : Int) := of_decide_eq_true (by first | (with_reducible assumption) | assumption)
                        have q301 : x11_2 < (t288.length : Int) := of_decide_eq_true (by first | (with_reducible assumption) | assumption)
                        obtain ⟨ad301, e301, hx301_0, hx301_1⟩ := at_T81 (Kd.R_reads' HO_6.out).2.2 x11_2 p301 q301
                        cases e301
                        replace p301 := eq_true p301
                        replace q301 := eq_true q301
                        go_wp2_with (first | (go_at_call 68; (with_reducible refine (laws_b10Has.calls k2 _ _ (rd_L4 t291 x11_2) ((rd_T81 t288 x11_2).f1) t302 _ ?side1 ?side2 A32.out).mono ?_); (case side1 => repeat (first | exact (by repeat (first | (with_reducible exact HR300_0.out) | (with_reducible refine Kd.C_alloc ?_ _) | (with_reducible refine Kd.C_drewN ?_ _) | (with_reducible refine Kd.C_drew ?_) | exact HR300_0.out)) | (with_reducible refine Kd.C_alloc ?_ _) | (with_reducible refine Kd.C_drewN ?_ _) | (with_reducible refine Kd.C_drew ?_))); (case side2 => exact HC300_0.out); rintro e w' ⟨rfl, ⟨nd, rfl⟩⟩; (try first | exact ⟨rfl, _, World.drewN_drewN _ _ _⟩ | exact ⟨rfl, _, Eq.trans (World.drewN_drewN _ _ _) (congrArg (World.drewN _) (Nat.add_assoc _ _ _))⟩)))
                        repeat (go_quiet (first | (go_at_call 68; (with_reducible refine (laws_b10Has.calls k2 _ _ (rd_L4 t291 x11_2) ((rd_T81 t288 x11_2).f1) t302 _ ?side1 ?side2 A32.out).mono ?_); (case side1 => repeat (first | exact (by repeat (first | (with_reducible exact HR300_0.out) | (with_reducible refine Kd.C_alloc ?_ _) | (with_reducible refine Kd.C_drewN ?_ _) | (with_reducible refine Kd.C_drew ?_) | exact HR300_0.out)) | (with_reducible refine Kd.C_alloc ?_ _) | (with_reducible refine Kd.C_drewN ?_ _) | (with_reducible refine Kd.C_drew ?_))); (case side2 => exact HC300_0.out); rintro e w' ⟨rfl, ⟨nd, rfl⟩⟩; (try first | exact ⟨rfl, _, World.drewN_drewN _ _ _⟩ | exact ⟨rfl, _, Eq.trans (World.drewN_drewN _ _ _) (congrArg (World.drewN _) (Nat.add_assoc _ _ _))⟩))); try go_wp2_with (first | (go_at_call 68; (with_reducible refine (laws_b10Has.calls k2 _ _ (rd_L4 t291 x11_2) ((rd_T81 t288 x11_2).f1) t302 _ ?side1 ?side2 A32.out).mono ?_); (case side1 => repeat (first | exact (by repeat (first | (with_reducible exact HR300_0.out) | (with_reducible refine Kd.C_alloc ?_ _) | (with_reducible refine Kd.C_drewN ?_ _) | (with_reducible refine Kd.C_drew ?_) | exact HR300_0.out)) | (with_reducible refine Kd.C_alloc ?_ _) | (with_reducible refine Kd.C_drewN ?_ _) | (with_reducible refine Kd.C_drew ?_))); (case side2 => exact HC300_0.out); rintro e w' ⟨rfl, ⟨nd, rfl⟩⟩; (try first | exact ⟨rfl, _, World.drewN_drewN _ _ _⟩ | exact ⟨rfl, _, Eq.trans (World.drewN_drewN _ _ _) (congrArg (World.drewN _) (Nat.add_assoc _ _ _))⟩))))
                        go_meet
                        case rel => exact ⟨_, (t302), (by first | rfl | (simp; done) | (simp [*]; done)), H', ⟨by have := HJ8.out; have := HK2.out; first | omega | exact Nat.le_refl _⟩, ⟨by (with_reducible repeat (first | apply Kd.R_alloc | apply Kd.R_drewN | apply Kd.R_drew)); exact HO_6.out⟩, ⟨by (with_reducible repeat (first | apply Kd.S_alloc | apply Kd.S_drewN | apply Kd.S_drew)); exact HO_7.out⟩, ⟨by (with_reducible repeat (first | apply Kd.R_alloc | apply Kd.R_drewN | apply Kd.R_drew)); exact HO_9.out⟩, ⟨by (with_reducible repeat (first | refine blk_drewN ?_ _ | refine blk_drew ?_ | refine blk_alloc ?_ _)); exact BK287.out⟩, ⟨by repeat (first | (with_reducible first | exact HB.out | apply below_alloc | apply pw_below_drewN | apply below_drew1 | refine below_set ?_ GE287.out) | exact HB.out)⟩⟩
                      · rw [if_neg c31] at H
                        exact absurd H (by simp)
                  · rw [if_neg c28] at H
                    exact absurd H (by simp)
                case rest =>
                  clear HC26
                  try clear c1
                  try clear c2
                  try clear p2
                  try clear q2
                  try clear hx2
                  try clear c3
                  try clear p3
                  try clear q3
                  try clear hx3
                  try clear c4
                  try clear c11
                  try clear c18
                  try clear c19
                  try clear c20
                  try clear c20b0
                  try clear c20b1
                  try clear c20b2
                  try clear c24
                  try clear c25
                  try clear c25b0
                  try clear c28
                  try clear c28b0
                  try clear c29
                  try clear c29b0
                  try clear p29
                  try clear q29
                  try clear hx29
                  try clear c30
                  try clear p30
                  try clear q30
                  try clear hx30
                  try clear c31
                  try clear c31b0
                  try clear hcz12_0
                  try clear hcz12_1
                  try clear hcz12_2
                  try clear hcz12_3
                  try clear hcz14_0
                  try clear hcz14_1
                  try clear hcz14_2
                  try clear hcz14_3
                  try clear hcz30_0
                  try clear hcz30_1
                  try clear hcz30_2
                  try clear hcz30_3
                  try clear hcz33_0
                  try clear hcz33_1
                  try clear hcz33_2
                  try clear hcz33_3
                  try clear hfz12_0
                  try clear hfz12_1
                  try clear hfz12_2
                  try clear hfz12_3
                  try clear hfz14_0
                  try clear hfz14_1
                  try clear hfz14_2
                  try clear hfz14_3
                  try clear hfz30_0
                  try clear hfz30_1
                  try clear hfz30_2
                  try clear hfz30_3
                  try clear hfz33_0
                  try clear hfz33_1
                  try clear hfz33_2
                  try clear hfz33_3
                  try clear hx299_0
                  try clear hx300_0
                  try clear hx301_0
                  try clear hx301_1
                  try clear p2
                  try clear p299
                  try clear p300
                  try clear p301
                  try clear q299
                  try clear q300
                  try clear q301
                  obtain ⟨kq, x80_25, rfl, HA, HJ25, HO_6, HO_7, HO_9, BK287, HB⟩ := hcut
                  cases kq with
                  | zero => exact absurd HA.out (by simp [laws_FnGuessed.j2])
                  | succ kj25 =>
                    have H := HA.out
                    clear HA
                    simp only [laws_FnGuessed.j2] at H
                    by_cases c34 : x80_25 = true
                    · subst c34
                      have H1 : (some false) = some r := by rw [if_pos rfl] at H; exact H
                      clear H
                      have H := H1
                      clear H1
                      obtain rfl := Option.some.inj H
                      go_wp2
                      repeat (go_quiet (fail); try go_wp2)
                      go_ret
                      exact ⟨by first | rfl | (simp [errW_none, errW_some] <;> rfl) | (simp [*, errW_none, errW_some] <;> rfl), by repeat (first | (with_reducible first | exact HB.out | apply below_alloc | apply pw_below_drewN | apply below_drew1 | refine below_set ?_ GE287.out) | exact HB.out)⟩
                    · replace c34 := Bool.eq_false_iff.mpr c34
                      subst c34
                      have H1 : (laws_FnGuessed.l1 kj25 t288 t291 t295 x11_2 0 t283 t284 t285 t286) = some r := by rw [if_neg (show ¬ (false = true) by decide)] at H; exact H
                      clear H
                      have H := H1
                      clear H1
                      have H' := Aside0.mk H
                      clear H
                      go_wp2
                      repeat (go_quiet (fail); try go_wp2)
                      go_loopg [12] kj25 (fun kq v12 w' => ∃ (x12_4 : Int), v12 = .int .i64 x12_4 ∧ Aside0 (laws_FnGuessed.l1 kq t288 t291 t295 x11_2 x12_4 t283 t284 t285 t286 = some r) ∧ Aside0 (kq ≤ kj25) ∧ Aside0 (Kd.R k81 81 w' w.heap.size (fun _ => True) (.slice Ao15 t288.length co15) t288) ∧ Aside0 (Kd.S (Kd.slice 2 (Kd.int .i64)) 25 w' w.heap.size (fun k_ => some k_ ≠ (v297 : Value).ownBlock) (.slice Ao27 t291.length co27) t291) ∧ Aside0 (Kd.R (Kd.int .i64) 2 w' w.heap.size (fun _ => True) v297 t295) ∧ Aside0 (w'.heap[gb287]? = some (.cells #[.int .i64 t283, .int .i64 t284, .int .i64 t285, .int .i64 t286] 62 (0, 0))) ∧ Aside0 (Below w.heap.size w w'))
                      case atStart => exact ⟨(0), (by first | rfl | (simp; done) | (simp [*]; done)), H', ⟨Nat.le_refl _⟩, ⟨by (with_reducible repeat (first | apply Kd.R_alloc | apply Kd.R_drewN | apply Kd.R_drew)); exact HO_6.out⟩, ⟨by (with_reducible repeat (first | apply Kd.S_alloc | apply Kd.S_drewN | apply Kd.S_drew)); exact HO_7.out⟩, ⟨by (with_reducible repeat (first | apply Kd.R_alloc | apply Kd.R_drewN | apply Kd.R_drew)); exact HO_9.out⟩, ⟨by (with_reducible repeat (first | refine blk_drewN ?_ _ | refine blk_drew ?_ | refine blk_alloc ?_ _)); exact BK287.out⟩, ⟨by repeat (first | (with_reducible first | exact HB.out | apply below_alloc | apply pw_below_drewN | apply below_drew1 | refine below_set ?_ GE287.out) | exact HB.out)⟩⟩
                      case round =>
                        clear H'
                        try clear c1
                        try clear c2
                        try clear p2
                        try clear q2
                        try clear hx2
                        try clear c3
                        try clear p3
                        try clear q3
                        try clear hx3
                        try clear c4
                        try clear c11
                        try clear c18
                        try clear c19
                        try clear c20
                        try clear c20b0
                        try clear c20b1
                        try clear c20b2
                        try clear c24
                        try clear c25
                        try clear c25b0
                        try clear c28
                        try clear c28b0
                        try clear c29
                        try clear c29b0
                        try clear p29
                        try clear q29
                        try clear hx29
                        try clear c30
                        try clear p30
                        try clear q30
                        try clear hx30
                        try clear c31
                        try clear c31b0
                        try clear c34
                        try clear hcz12_0
                        try clear hcz12_1
                        try clear hcz12_2
                        try clear hcz12_3
                        try clear hcz14_0
                        try clear hcz14_1
                        try clear hcz14_2
                        try clear hcz14_3
                        try clear hcz30_0
                        try clear hcz30_1
                        try clear hcz30_2
                        try clear hcz30_3
                        try clear hcz33_0
                        try clear hcz33_1
                        try clear hcz33_2
                        try clear hcz33_3
                        try clear hfz12_0
                        try clear hfz12_1
                        try clear hfz12_2
                        try clear hfz12_3
                        try clear hfz14_0
                        try clear hfz14_1
                        try clear hfz14_2
                        try clear hfz14_3
                        try clear hfz30_0
                        try clear hfz30_1
                        try clear hfz30_2
                        try clear hfz30_3
                        try clear hfz33_0
                        try clear hfz33_1
                        try clear hfz33_2
                        try clear hfz33_3
                        try clear hx299_0
                        try clear hx300_0
                        try clear hx301_0
                        try clear hx301_1
                        try clear p2
                        try clear p29
                        try clear p299
                        try clear p3
                        try clear p30
                        try clear p300
                        try clear p301
                        try clear q2
                        try clear q29
                        try clear q299
                        try clear q3
                        try clear q30
                        try clear q300
                        try clear q301
                        obtain ⟨x12_4, rfl, HA, HK4, HO_6, HO_7, HO_9, BK287, HB⟩ := hrel
                        cases gk with
                        | zero => exact absurd HA.out (by simp [laws_FnGuessed.l1])
                        | succ k4 =>
                          have H := HA.out
                          clear HA
                          simp only [laws_FnGuessed.l1] at H
                          by_cases c35 : 0 ≤ x11_2
                          · rw [if_pos c35] at H
                            have c35b0 : decide (0 ≤ x11_2) = true := decide_eq_true c35
                            clear c35
                            by_cases c36 : x11_2 < (t291.length : Int)
                            · rw [if_pos c36] at H
                              have c36b0 : decide (x11_2 < (t291.length : Int)) = true := decide_eq_true c36
                              clear c36
                              by_cases c37 : x12_4 < ((rd_L4 t291 x11_2).length : Int)
                              · rw [if_pos c37] at H
                                have c37b0 : decide (x12_4 < ((rd_L4 t291 x11_2).length : Int)) = true := decide_eq_true c37
                                clear c37
                                by_cases c38 : 0 ≤ x12_4
                                · rw [if_pos c38] at H
                                  have c38b0 : decide (0 ≤ x12_4) = true := decide_eq_true c38
                                  clear c38
                                  have HC39 := Aside0.mk H
                                  clear H
                                  have p303 : 0 ≤ (x11_2 : Int) := of_decide_eq_true (by first | (with_reducible assumption) | assumption)
                                  have q303 : x11_2 < (t291.length : Int) := of_decide_eq_true (by first | (with_reducible assumption) | assumption)
                                  obtain ⟨ad303, A303_0, c303_0, e303, hx303_0, hl303_0, hi303_0⟩ := at_L4 (Kd.S_reads' HO_7.out).2.2 x11_2 p303 q303
                                  cases e303
                                  obtain ⟨ce303, hce303, hMe303, hcc303⟩ := Kd.S_get HO_7.out [] x11_2 p303 (by first | exact q303 | exact of_decide_eq_true (by first | (with_reducible assumption) | assumption) | (have e_ := (Kd.S_reads' HO_7.out).1; omega))
                                  obtain ⟨ve303_0, rfl, ge303_0⟩ := hMe303
                                  have hv303_0 := hcc303 0 _ rfl
                                  rw [Nat.add_zero, show ((Kd.slice 2 (Kd.int .i64))).sz = 1 from rfl, Nat.mul_one] at hv303_0
                                  replace hv303_0 := Option.some.inj (hv303_0.symm.trans hx303_0)
                                  rw [hv303_0] at ge303_0
                                  have HL303_0 := Aside0.mk (show Kd.R (Kd.int .i64) 2 _ _ _ _ (rd_L4 t291 x11_2) from ge303_0)
                                  clear hv303_0 ge303_0
                                  clear hcc303 hce303
                                  have HR303_0 := Aside0.mk hi303_0
                                  have HC303_0 := Aside0.mk hl303_0
                                  clear hi303_0 hl303_0
                                  replace p303 := eq_true p303
                                  replace q303 := eq_true q303
                                  have p304 : 0 ≤ (x11_2 : Int) := of_decide_eq_true (by first | (with_reducible assumption) | assumption)
                                  have q304 : x11_2 < (t291.length : Int) := of_decide_eq_true (by first | (with_reducible assumption) | assumption)
                                  obtain ⟨ad304, A304_0, c304_0, e304, hx304_0, hl304_0, hi304_0⟩ := at_L4 (Kd.S_reads' HO_7.out).2.2 x11_2 p304 q304
                                  obtain rfl : ad303 = ad304 := (by injection e304)
                                  obtain ⟨ce304, hce304, hMe304, hcc304⟩ := Kd.S_get HO_7.out [] x11_2 p304 (by first | exact q304 | exact of_decide_eq_true (by first | (with_reducible assumption) | assumption) | (have e_ := (Kd.S_reads' HO_7.out).1; omega))
                                  obtain ⟨ve304_0, rfl, ge304_0⟩ := hMe304
                                  have hv304_0 := hcc304 0 _ rfl
                                  rw [Nat.add_zero, show ((Kd.slice 2 (Kd.int .i64))).sz = 1 from rfl, Nat.mul_one] at hv304_0
                                  replace hv304_0 := Option.some.inj (hv304_0.symm.trans hx304_0)
                                  rw [hv304_0] at ge304_0
                                  have HL304_0 := Aside0.mk (show Kd.R (Kd.int .i64) 2 _ _ _ _ (rd_L4 t291 x11_2) from ge304_0)
                                  clear hv304_0 ge304_0
                                  clear hcc304 hce304
                                  have HR304_0 := Aside0.mk hi304_0
                                  have HC304_0 := Aside0.mk hl304_0
                                  clear hi304_0 hl304_0
                                  replace p304 := eq_true p304
                                  replace q304 := eq_true q304
                                  have ea_ := Option.some.inj (hx303_0.symm.trans hx304_0)
                                  injection ea_ with ea_ en_ ec_
                                  subst ea_
                                  subst ec_
                                  clear en_
                                  have p305 : 0 ≤ (x12_4 : Int) := of_decide_eq_true (by first | (with_reducible assumption) | assumption)
                                  have q305 : x12_4 < ((rd_L4 t291 x11_2).length : Int) := of_decide_eq_true (by first | (with_reducible assumption) | assumption)
                                  obtain ⟨ad305, e305, hx305_0⟩ := Kd.at_int (by repeat (first | (with_reducible exact HR304_0.out) | (with_reducible refine Kd.C_alloc ?_ _) | (with_reducible refine Kd.C_drewN ?_ _) | (with_reducible refine Kd.C_drew ?_) | exact HR304_0.out)) x12_4 p305 q305
                                  cases e305
                                  replace p305 := eq_true p305
                                  replace q305 := eq_true q305
                                  go_upto_region 18 with (fail)
                                  repeat (go_quiet (fail); go_upto_region 18 with (fail))
                                  go_cut [112] (fun v112 wc => ∃ (kq : Nat) (x112_38 : Bool), v112 = .bool x112_38 ∧ Aside0 (laws_FnGuessed.j4 kq t288 t291 t295 x11_2 x12_4 (rd (rd_L4 t291 x11_2) x12_4) x112_38 t283 t284 t285 t286 = some r) ∧ Aside0 (kq ≤ k4) ∧ Aside0 (Kd.R k81 81 wc w.heap.size (fun _ => True) (.slice Ao15 t288.length co15) t288) ∧ Aside0 (Kd.S (Kd.slice 2 (Kd.int .i64)) 25 wc w.heap.size (fun k_ => some k_ ≠ (v297 : Value).ownBlock) (.slice (some ad303) t291.length co27) t291) ∧ Aside0 (Kd.R (Kd.int .i64) 2 wc w.heap.size (fun _ => True) v297 t295) ∧ Aside0 (wc.heap[gb287]? = some (.cells #[.int .i64 t283, .int .i64 t284, .int .i64 t285, .int .i64 t286] 62 (0, 0))) ∧ Aside0 (Kd.C (Kd.int .i64) wc (some ad305) (rd_L4 t291 x11_2).length (rd_L4 t291 x11_2)) ∧ Aside0 (Kd.C (Kd.int .i64) wc (some ad305) (rd_L4 t291 x11_2).length (rd_L4 t291 x11_2)) ∧ Aside0 (Below w.heap.size w wc))
                                  case first =>
                                    have H := HC39.out
                                    clear HC39
                                    by_cases c40 : (rd (rd_L4 t291 x11_2) x12_4) < 0
                                    · rw [if_pos c40] at H
                                      have c40b0 : decide ((rd (rd_L4 t291 x11_2) x12_4) < 0) = true := decide_eq_true c40
                                      clear c40
                                      (first | rw [c40b0] | (simp only [i64_w, i32_w]; rw [c40b0]) | skip)
                                      have H' := Aside0.mk H
                                      clear H
                                      go_wp2
                                      repeat (go_quiet (fail); try go_wp2)
                                      go_meet
                                      case rel => exact ⟨_, (true), (by first | rfl | (simp; done) | (simp [*]; done)), H', ⟨by have := HJ8.out; have := HK2.out; have := HJ25.out; have := HK4.out; first | omega | exact Nat.le_refl _⟩, ⟨by (with_reducible repeat (first | apply Kd.R_alloc | apply Kd.R_drewN | apply Kd.R_drew)); exact HO_6.out⟩, ⟨by (with_reducible repeat (first | apply Kd.S_alloc | apply Kd.S_drewN | apply Kd.S_drew)); exact HO_7.out⟩, ⟨by (with_reducible repeat (first | apply Kd.R_alloc | apply Kd.R_drewN | apply Kd.R_drew)); exact HO_9.out⟩, ⟨by (with_reducible repeat (first | refine blk_drewN ?_ _ | refine blk_drew ?_ | refine blk_alloc ?_ _)); exact BK287.out⟩, ⟨by repeat (first | (with_reducible exact HR303_0.out) | (with_reducible refine Kd.C_alloc ?_ _) | (with_reducible refine Kd.C_drewN ?_ _) | (with_reducible refine Kd.C_drew ?_) | exact HR303_0.out)⟩, ⟨by repeat (first | (with_reducible exact HR304_0.out) | (with_reducible refine Kd.C_alloc ?_ _) | (with_reducible refine Kd.C_drewN ?_ _) | (with_reducible refine Kd.C_drew ?_) | exact HR304_0.out)⟩, ⟨by repeat (first | (with_reducible first | exact HB.out | apply below_alloc | apply pw_below_drewN | apply below_drew1 | refine below_set ?_ GE287.out) | exact HB.out)⟩⟩
                                    · rw [if_neg c40] at H
                                      have c40b0 : decide ((rd (rd_L4 t291 x11_2) x12_4) < 0) = false := decide_eq_false c40
                                      clear c40
                                      (first | rw [c40b0] | (simp only [i64_w, i32_w]; rw [c40b0]) | skip)
                                      by_cases c41 : (rd (rd_L4 t291 x11_2) x12_4) ≥ 64
                                      · rw [if_pos c41] at H
                                        have c41b0 : decide (64 ≤ (rd (rd_L4 t291 x11_2) x12_4)) = true := decide_eq_true c41
                                        clear c41
                                        have H' := Aside0.mk H
                                        clear H
                                        go_wp2
                                        repeat (go_quiet (fail); try go_wp2)
                                        go_meet
                                        case rel => exact ⟨_, (true), (by first | rfl | (simp; done) | (simp [*]; done)), H', ⟨by have := HJ8.out; have := HK2.out; have := HJ25.out; have := HK4.out; first | omega | exact Nat.le_refl _⟩, ⟨by (with_reducible repeat (first | apply Kd.R_alloc | apply Kd.R_drewN | apply Kd.R_drew)); exact HO_6.out⟩, ⟨by (with_reducible repeat (first | apply Kd.S_alloc | apply Kd.S_drewN | apply Kd.S_drew)); exact HO_7.out⟩, ⟨by (with_reducible repeat (first | apply Kd.R_alloc | apply Kd.R_drewN | apply Kd.R_drew)); exact HO_9.out⟩, ⟨by (with_reducible repeat (first | refine blk_drewN ?_ _ | refine blk_drew ?_ | refine blk_alloc ?_ _)); exact BK287.out⟩, ⟨by repeat (first | (with_reducible exact HR303_0.out) | (with_reducible refine Kd.C_alloc ?_ _) | (with_reducible refine Kd.C_drewN ?_ _) | (with_reducible refine Kd.C_drew ?_) | exact HR303_0.out)⟩, ⟨by repeat (first | (with_reducible exact HR304_0.out) | (with_reducible refine Kd.C_alloc ?_ _) | (with_reducible refine Kd.C_drewN ?_ _) | (with_reducible refine Kd.C_drew ?_) | exact HR304_0.out)⟩, ⟨by repeat (first | (with_reducible first | exact HB.out | apply below_alloc | apply pw_below_drewN | apply below_drew1 | refine below_set ?_ GE287.out) | exact HB.out)⟩⟩
                                      · rw [if_neg c41] at H
                                        have c41b0 : decide (64 ≤ (rd (rd_L4 t291 x11_2) x12_4)) = false := decide_eq_false c41
                                        clear c41
                                        have c42b0 := eq_true (of_decide_eq_true (by first | (with_reducible assumption) | assumption) : 0 ≤ x12_4)
                                        by_cases c43 : x12_4 ≤ ((rd_L4 t291 x11_2).length : Int)
                                        · rw [if_pos c43] at H
                                          have c43b0 := eq_true c43
                                          have c43b1 : decide (x12_4 ≤ ((rd_L4 t291 x11_2).length : Int)) = true := decide_eq_true c43
                                          clear c43
                                          obtain ⟨y307, hy307⟩ : ∃ y_ : List Int, y_ = ((rd_L4 t291 x11_2).take (x12_4 : Int).toNat) := ⟨_, rfl⟩
                                          replace H : ((laws_b10Has.f k4 y307 (rd (rd_L4 t291 x11_2) x12_4)).bind fun t311 => (laws_FnGuessed.j4 k4 t288 t291 t295 x11_2 x12_4 (rd (rd_L4 t291 x11_2) x12_4) t311 t283 t284 t285 t286)) = some r := by first | (rw [hy307]; with_reducible exact H) | (have H2_ := (Option.bind_some _ _).symm.trans H; rw [hy307]; with_reducible exact H2_) | (have H2_ := (Option.bind_some _ _).symm.trans H; with_reducible exact H2_) | with_reducible exact H | (rw [hy307]; exact H) | exact H
                                          have Ny307 := Aside0.mk hy307
                                          clear hy307
                                          replace H := Option.bind_eq_some_iff.mp H
                                          obtain ⟨t311, A440, H⟩ := H
                                          replace H : (laws_FnGuessed.j4 k4 t288 t291 t295 x11_2 x12_4 (rd (rd_L4 t291 x11_2) x12_4) t311 t283 t284 t285 t286) = some r := H
                                          have A44 := Aside0.mk A440
                                          clear A440
                                          have H' := Aside0.mk H
                                          clear H
                                          have p306 : 0 ≤ (x11_2 : Int) := of_decide_eq_true (by first | (with_reducible assumption) | assumption)
                                          have q306 : x11_2 < (t291.length : Int) := of_decide_eq_true (by first | (with_reducible assumption) | assumption)
                                          obtain ⟨ad306, A306_0, c306_0, e306, hx306_0, hl306_0, hi306_0⟩ := at_L4 (Kd.S_reads' HO_7.out).2.2 x11_2 p306 q306
                                          obtain rfl : ad303 = ad306 := (by injection e306)
                                          obtain ⟨ce306, hce306, hMe306, hcc306⟩ := Kd.S_get HO_7.out [] x11_2 p306 (by first | exact q306 | exact of_decide_eq_true (by first | (with_reducible assumption) | assumption) | (have e_ := (Kd.S_reads' HO_7.out).1; omega))
                                          obtain ⟨ve306_0, rfl, ge306_0⟩ := hMe306
                                          have hv306_0 := hcc306 0 _ rfl
                                          rw [Nat.add_zero, show ((Kd.slice 2 (Kd.int .i64))).sz = 1 from rfl, Nat.mul_one] at hv306_0
                                          replace hv306_0 := Option.some.inj (hv306_0.symm.trans hx306_0)
                                          rw [hv306_0] at ge306_0
                                          have HL306_0 := Aside0.mk (show Kd.R (Kd.int .i64) 2 _ _ _ _ (rd_L4 t291 x11_2) from ge306_0)
                                          clear hv306_0 ge306_0
                                          clear hcc306 hce306
                                          have HR306_0 := Aside0.mk hi306_0
                                          have HC306_0 := Aside0.mk hl306_0
                                          clear hi306_0 hl306_0
                                          replace p306 := eq_true p306
                                          replace q306 := eq_true q306
                                          (try (have ea_ := Option.some.inj (hx303_0.symm.trans hx306_0); injection ea_ with ea_ en_ ec_; subst ea_; subst ec_; clear en_))
                                          have q45 : (x12_4 : Int) ≤ (((rd_L4 t291 x11_2).length : Int) : Int) := of_decide_eq_true (by first | (with_reducible assumption) | assumption)
                                          obtain ⟨i045, hi045, _, hsz45, _⟩ := info_parts info2
                                          have hroom45 : (rd_L4 t291 x11_2).length ≤ c303_0 := HC306_0.out
                                          have hC45 : Kd.C (Kd.int .i64) _ (some ad305) (rd_L4 t291 x11_2).length (rd_L4 t291 x11_2) := (by repeat (first | (with_reducible exact HR306_0.out) | (with_reducible refine Kd.C_alloc ?_ _) | (with_reducible refine Kd.C_drewN ?_ _) | (with_reducible refine Kd.C_drew ?_) | exact HR306_0.out))
                                          have hcut45 := cut_to (P := Try.prog) 25 2 .i64 Try.underlying25 hi045 (some ad305) (rd_L4 t291 x11_2).length c303_0 x12_4 (of_decide_eq_true (by first | (with_reducible assumption) | assumption)) q45 hroom45
                                          have hr45 := Kd.C_take (m := (x12_4 : Int).toNat) hC45 (by omega)
                                          have hy45 : y307.length = (x12_4 : Int).toNat := (by rw [Ny307.out, List.length_take]; omega)
                                          rw [← Ny307.out] at hr45
                                          rw [← hy45] at hcut45
                                          have HR310 := Aside0.mk hr45
                                          have HC310 := Aside0.mk (show y307.length ≤ c303_0 from by omega)
                                          clear hr45 hC45 hroom45 hi045 hsz45
                                          have KY45 := Aside0.mk hy45
                                          clear hy45
                                          replace q45 := eq_true q45
                                          go_wp2_with (first | (go_at_call 68; (with_reducible refine (laws_b10Has.calls k4 _ _ y307 (rd (rd_L4 t291 x11_2) x12_4) t311 _ ?side1 ?side2 A44.out).mono ?_); (case side1 => repeat (first | exact (by repeat (first | (with_reducible exact HR310.out) | (with_reducible refine Kd.C_alloc ?_ _) | (with_reducible refine Kd.C_drewN ?_ _) | (with_reducible refine Kd.C_drew ?_) | exact HR310.out)) | (with_reducible refine Kd.C_alloc ?_ _) | (with_reducible refine Kd.C_drewN ?_ _) | (with_reducible refine Kd.C_drew ?_))); (case side2 => exact HC310.out); rintro e w' ⟨rfl, ⟨nd, rfl⟩⟩; (try first | exact ⟨rfl, _, World.drewN_drewN _ _ _⟩ | exact ⟨rfl, _, Eq.trans (World.drewN_drewN _ _ _) (congrArg (World.drewN _) (Nat.add_assoc _ _ _))⟩)))
                                          repeat (go_quiet (first | (go_at_call 68; (with_reducible refine (laws_b10Has.calls k4 _ _ y307 (rd (rd_L4 t291 x11_2) x12_4) t311 _ ?side1 ?side2 A44.out).mono ?_); (case side1 => repeat (first | exact (by repeat (first | (with_reducible exact HR310.out) | (with_reducible refine Kd.C_alloc ?_ _) | (with_reducible refine Kd.C_drewN ?_ _) | (with_reducible refine Kd.C_drew ?_) | exact HR310.out)) | (with_reducible refine Kd.C_alloc ?_ _) | (with_reducible refine Kd.C_drewN ?_ _) | (with_reducible refine Kd.C_drew ?_))); (case side2 => exact HC310.out); rintro e w' ⟨rfl, ⟨nd, rfl⟩⟩; (try first | exact ⟨rfl, _, World.drewN_drewN _ _ _⟩ | exact ⟨rfl, _, Eq.trans (World.drewN_drewN _ _ _) (congrArg (World.drewN _) (Nat.add_assoc _ _ _))⟩))); try go_wp2_with (first | (go_at_call 68; (with_reducible refine (laws_b10Has.calls k4 _ _ y307 (rd (rd_L4 t291 x11_2) x12_4) t311 _ ?side1 ?side2 A44.out).mono ?_); (case side1 => repeat (first | exact (by repeat (first | (with_reducible exact HR310.out) | (with_reducible refine Kd.C_alloc ?_ _) | (with_reducible refine Kd.C_drewN ?_ _) | (with_reducible refine Kd.C_drew ?_) | exact HR310.out)) | (with_reducible refine Kd.C_alloc ?_ _) | (with_reducible refine Kd.C_drewN ?_ _) | (with_reducible refine Kd.C_drew ?_))); (case side2 => exact HC310.out); rintro e w' ⟨rfl, ⟨nd, rfl⟩⟩; (try first | exact ⟨rfl, _, World.drewN_drewN _ _ _⟩ | exact ⟨rfl, _, Eq.trans (World.drewN_drewN _ _ _) (congrArg (World.drewN _) (Nat.add_assoc _ _ _))⟩))))
                                          go_meet
                                          case rel => exact ⟨_, (t311), (by first | rfl | (simp; done) | (simp [*]; done)), H', ⟨by have := HJ8.out; have := HK2.out; have := HJ25.out; have := HK4.out; first | omega | exact Nat.le_refl _⟩, ⟨by (with_reducible repeat (first | apply Kd.R_alloc | apply Kd.R_drewN | apply Kd.R_drew)); exact HO_6.out⟩, ⟨by (with_reducible repeat (first | apply Kd.S_alloc | apply Kd.S_drewN | apply Kd.S_drew)); exact HO_7.out⟩, ⟨by (with_reducible repeat (first | apply Kd.R_alloc | apply Kd.R_drewN | apply Kd.R_drew)); exact HO_9.out⟩, ⟨by (with_reducible repeat (first | refine blk_drewN ?_ _ | refine blk_drew ?_ | refine blk_alloc ?_ _)); exact BK287.out⟩, ⟨by repeat (first | (with_reducible exact HR303_0.out) | (with_reducible refine Kd.C_alloc ?_ _) | (with_reducible refine Kd.C_drewN ?_ _) | (with_reducible refine Kd.C_drew ?_) | exact HR303_0.out)⟩, ⟨by repeat (first | (with_reducible exact HR304_0.out) | (with_reducible refine Kd.C_alloc ?_ _) | (with_reducible refine Kd.C_drewN ?_ _) | (with_reducible refine Kd.C_drew ?_) | exact HR304_0.out)⟩, ⟨by repeat (first | (with_reducible first | exact HB.out | apply below_alloc | apply pw_below_drewN | apply below_drew1 | refine below_set ?_ GE287.out) | exact HB.out)⟩⟩
                                        · rw [if_neg c43] at H
                                          exact absurd H (by simp)
                                  case rest =>
                                    clear HC39
                                    try clear c1
                                    try clear c2
                                    try clear p2
                                    try clear q2
                                    try clear hx2
                                    try clear c3
                                    try clear p3
                                    try clear q3
                                    try clear hx3
                                    try clear c4
                                    try clear q4
                                    try clear c11
                                    try clear c18
                                    try clear c19
                                    try clear c20
                                    try clear c20b0
                                    try clear c20b1
                                    try clear c20b2
                                    try clear c24
                                    try clear c25
                                    try clear c25b0
                                    try clear c28
                                    try clear c28b0
                                    try clear c29
                                    try clear c29b0
                                    try clear p29
                                    try clear q29
                                    try clear hx29
                                    try clear c30
                                    try clear p30
                                    try clear q30
                                    try clear hx30
                                    try clear c31
                                    try clear c31b0
                                    try clear c34
                                    try clear c35
                                    try clear c35b0
                                    try clear c36
                                    try clear c36b0
                                    try clear c37
                                    try clear c37b0
                                    try clear c38
                                    try clear c38b0
                                    try clear c40
                                    try clear c40b0
                                    try clear c41
                                    try clear c41b0
                                    try clear c42
                                    try clear c42b0
                                    try clear c43
                                    try clear c43b0
                                    try clear c43b1
                                    try clear q45
                                    try clear hcz12_0
                                    try clear hcz12_1
                                    try clear hcz12_2
                                    try clear hcz12_3
                                    try clear hcz14_0
                                    try clear hcz14_1
                                    try clear hcz14_2
                                    try clear hcz14_3
                                    try clear hcz30_0
                                    try clear hcz30_1
                                    try clear hcz30_2
                                    try clear hcz30_3
                                    try clear hcz33_0
                                    try clear hcz33_1
                                    try clear hcz33_2
                                    try clear hcz33_3
                                    try clear hfz12_0
                                    try clear hfz12_1
                                    try clear hfz12_2
                                    try clear hfz12_3
                                    try clear hfz14_0
                                    try clear hfz14_1
                                    try clear hfz14_2
                                    try clear hfz14_3
                                    try clear hfz30_0
                                    try clear hfz30_1
                                    try clear hfz30_2
                                    try clear hfz30_3
                                    try clear hfz33_0
                                    try clear hfz33_1
                                    try clear hfz33_2
                                    try clear hfz33_3
                                    try clear hx299_0
                                    try clear hx300_0
                                    try clear hx301_0
                                    try clear hx301_1
                                    try clear hx303_0
                                    try clear hx304_0
                                    try clear hx305_0
                                    try clear hx306_0
                                    try clear p2
                                    try clear p29
                                    try clear p299
                                    try clear p3
                                    try clear p30
                                    try clear p300
                                    try clear p301
                                    try clear p303
                                    try clear p304
                                    try clear p305
                                    try clear p306
                                    try clear q2
                                    try clear q29
                                    try clear q299
                                    try clear q3
                                    try clear q30
                                    try clear q300
                                    try clear q301
                                    try clear q303
                                    try clear q304
                                    try clear q305
                                    try clear q306
                                    try clear q45
                                    obtain ⟨kq, x112_38, rfl, HA, HJ38, HO_6, HO_7, HO_9, BK287, HR303_0, HR304_0, HB⟩ := hcut
                                    cases kq with
                                    | zero => exact absurd HA.out (by simp [laws_FnGuessed.j4])
                                    | succ kj38 =>
                                      have H := HA.out
                                      clear HA
                                      simp only [laws_FnGuessed.j4] at H
                                      by_cases c46 : x112_38 = true
                                      · subst c46
                                        have H1 : (some false) = some r := by rw [if_pos rfl] at H; exact H
                                        clear H
                                        have H := H1
                                        clear H1
                                        obtain rfl := Option.some.inj H
                                        go_wp2
                                        repeat (go_quiet (fail); try go_wp2)
                                        go_ret
                                        exact ⟨by first | rfl | (simp [errW_none, errW_some] <;> rfl) | (simp [*, errW_none, errW_some] <;> rfl), by repeat (first | (with_reducible first | exact HB.out | apply below_alloc | apply pw_below_drewN | apply below_drew1 | refine below_set ?_ GE287.out) | exact HB.out)⟩
                                      · replace c46 := Bool.eq_false_iff.mpr c46
                                        subst c46
                                        have H1 : (if t283 = 1 then (if 0 ≤ x11_2 then (if x11_2 < (t295.length : Int) then (if (rd t295 x11_2) = 0 then (laws_FnGuessed.j5 kj38 t288 t291 t295 x11_2 x12_4 (rd (rd_L4 t291 x11_2) x12_4) true t283 t284 t285 t286) else (if x11_2 < (t288.length : Int) then (laws_FnGuessed.j5 kj38 t288 t291 t295 x11_2 x12_4 (rd (rd_L4 t291 x11_2) x12_4) ((rd (rd_L4 t291 x11_2) x12_4) != (wrap64 (((rd_T81 t288 x11_2).f1) + (wrap64 ((wrap64 (x12_4 + 1)) * (rd t295 x11_2)))))) t283 t284 t285 t286) else (none))) else (none)) else (none)) else (laws_FnGuessed.j5 kj38 t288 t291 t295 x11_2 x12_4 (rd (rd_L4 t291 x11_2) x12_4) false t283 t284 t285 t286)) = some r := by rw [if_neg (show ¬ (false = true) by decide)] at H; exact H
                                        clear H
                                        have H := H1
                                        clear H1
                                        have HC47 := Aside0.mk H
                                        clear H
                                        go_upto_region 20 with (fail)
                                        repeat (go_quiet (fail); go_upto_region 20 with (fail))
                                        go_cut [139] (fun v139 wc => ∃ (kq : Nat) (x139_46 : Bool), v139 = .bool x139_46 ∧ Aside0 (laws_FnGuessed.j5 kq t288 t291 t295 x11_2 x12_4 (rd (rd_L4 t291 x11_2) x12_4) x139_46 t283 t284 t285 t286 = some r) ∧ Aside0 (kq ≤ kj38) ∧ Aside0 (Kd.R k81 81 wc w.heap.size (fun _ => True) (.slice Ao15 t288.length co15) t288) ∧ Aside0 (Kd.S (Kd.slice 2 (Kd.int .i64)) 25 wc w.heap.size (fun k_ => some k_ ≠ (v297 : Value).ownBlock) (.slice (some ad303) t291.length co27) t291) ∧ Aside0 (Kd.R (Kd.int .i64) 2 wc w.heap.size (fun _ => True) v297 t295) ∧ Aside0 (wc.heap[gb287]? = some (.cells #[.int .i64 t283, .int .i64 t284, .int .i64 t285, .int .i64 t286] 62 (0, 0))) ∧ Aside0 (Kd.C (Kd.int .i64) wc (some ad305) (rd_L4 t291 x11_2).length (rd_L4 t291 x11_2)) ∧ Aside0 (Kd.C (Kd.int .i64) wc (some ad305) (rd_L4 t291 x11_2).length (rd_L4 t291 x11_2)) ∧ Aside0 (Below w.heap.size w wc))
                                        case first =>
                                          have H := HC47.out
                                          clear HC47
                                          by_cases c48 : t283 = 1
                                          · rw [if_pos c48] at H
                                            have c48b0 : (t283 == 1) = true := beq_iff_eq.mpr c48
                                            have c48b1 : (t283 != 1) = false := bne_eq_false_iff_eq.mpr c48
                                            clear c48
                                            (first | rw [c48b0] | (simp only [i64_w, i32_w]; rw [c48b0]) | skip)
                                            by_cases c49 : 0 ≤ x11_2
                                            · rw [if_pos c49] at H
                                              have c49b0 : decide (0 ≤ x11_2) = true := decide_eq_true c49
                                              clear c49
                                              by_cases c50 : x11_2 < (t295.length : Int)
                                              · rw [if_pos c50] at H
                                                have c50b0 : decide (x11_2 < (t295.length : Int)) = true := decide_eq_true c50
                                                clear c50
                                                by_cases c51 : (rd t295 x11_2) = 0
                                                · rw [if_pos c51] at H
                                                  have c51b0 : ((rd t295 x11_2) == 0) = true := beq_iff_eq.mpr c51
                                                  have c51b1 : ((rd t295 x11_2) != 0) = false := bne_eq_false_iff_eq.mpr c51
                                                  clear c51
                                                  have H' := Aside0.mk H
                                                  clear H
                                                  have hcz52_0 : wc.cell? ⟨gb287, 0, none⟩ = some (.int .i64 t283) := (blk_cell BK287.out 0).trans rfl
                                                  have hcz52_1 : wc.cell? ⟨gb287, 1, none⟩ = some (.int .i64 t284) := (blk_cell BK287.out 1).trans rfl
                                                  have hcz52_2 : wc.cell? ⟨gb287, 2, none⟩ = some (.int .i64 t285) := (blk_cell BK287.out 2).trans rfl
                                                  have hcz52_3 : wc.cell? ⟨gb287, 3, none⟩ = some (.int .i64 t286) := (blk_cell BK287.out 3).trans rfl
                                                  have hfz52_0 := blk_frozen BK287.out 0
                                                  have hfz52_1 := blk_frozen BK287.out 1
                                                  have hfz52_2 := blk_frozen BK287.out 2
                                                  have hfz52_3 := blk_frozen BK287.out 3
                                                  obtain ⟨Ao53, co53, eo53⟩ := Kd.R_slice HO_9.out
                                                  subst eo53
                                                  have p312 : 0 ≤ (x11_2 : Int) := of_decide_eq_true (by first | (with_reducible assumption) | assumption)
                                                  have q312 : x11_2 < (t295.length : Int) := of_decide_eq_true (by first | (with_reducible assumption) | assumption)
                                                  obtain ⟨ad312, e312, hx312_0⟩ := Kd.at_int (Kd.R_reads' HO_9.out).2.2 x11_2 p312 q312
                                                  cases e312
                                                  replace p312 := eq_true p312
                                                  replace q312 := eq_true q312
                                                  go_wp2
                                                  repeat (go_quiet (fail); try go_wp2)
                                                  go_meet
                                                  case rel => exact ⟨_, (true), (by first | rfl | (simp; done) | (simp [*]; done)), H', ⟨by have := HJ8.out; have := HK2.out; have := HJ25.out; have := HK4.out; have := HJ38.out; first | omega | exact Nat.le_refl _⟩, ⟨by (with_reducible repeat (first | apply Kd.R_alloc | apply Kd.R_drewN | apply Kd.R_drew)); exact HO_6.out⟩, ⟨by (with_reducible repeat (first | apply Kd.S_alloc | apply Kd.S_drewN | apply Kd.S_drew)); exact HO_7.out⟩, ⟨by (with_reducible repeat (first | apply Kd.R_alloc | apply Kd.R_drewN | apply Kd.R_drew)); exact HO_9.out⟩, ⟨by (with_reducible repeat (first | refine blk_drewN ?_ _ | refine blk_drew ?_ | refine blk_alloc ?_ _)); exact BK287.out⟩, ⟨by repeat (first | (with_reducible exact HR303_0.out) | (with_reducible refine Kd.C_alloc ?_ _) | (with_reducible refine Kd.C_drewN ?_ _) | (with_reducible refine Kd.C_drew ?_) | exact HR303_0.out)⟩, ⟨by repeat (first | (with_reducible exact HR304_0.out) | (with_reducible refine Kd.C_alloc ?_ _) | (with_reducible refine Kd.C_drewN ?_ _) | (with_reducible refine Kd.C_drew ?_) | exact HR304_0.out)⟩, ⟨by repeat (first | (with_reducible first | exact HB.out | apply below_alloc | apply pw_below_drewN | apply below_drew1 | refine below_set ?_ GE287.out) | exact HB.out)⟩⟩
                                                · rw [if_neg c51] at H
                                                  have c51b0 : ((rd t295 x11_2) == 0) = false := beq_eq_false_iff_ne.mpr c51
                                                  have c51b1 : ((rd t295 x11_2) != 0) = true := bne_iff_ne.mpr c51
                                                  by_cases c54 : x11_2 < (t288.length : Int)
                                                  · rw [if_pos c54] at H
                                                    have c54b0 : decide (x11_2 < (t288.length : Int)) = true := decide_eq_true c54
                                                    clear c54
                                                    have H' := Aside0.mk H
                                                    clear H
                                                    have hcz55_0 : wc.cell? ⟨gb287, 0, none⟩ = some (.int .i64 t283) := (blk_cell BK287.out 0).trans rfl
                                                    have hcz55_1 : wc.cell? ⟨gb287, 1, none⟩ = some (.int .i64 t284) := (blk_cell BK287.out 1).trans rfl
                                                    have hcz55_2 : wc.cell? ⟨gb287, 2, none⟩ = some (.int .i64 t285) := (blk_cell BK287.out 2).trans rfl
                                                    have hcz55_3 : wc.cell? ⟨gb287, 3, none⟩ = some (.int .i64 t286) := (blk_cell BK287.out 3).trans rfl
                                                    have hfz55_0 := blk_frozen BK287.out 0
                                                    have hfz55_1 := blk_frozen BK287.out 1
                                                    have hfz55_2 := blk_frozen BK287.out 2
                                                    have hfz55_3 := blk_frozen BK287.out 3
                                                    obtain ⟨Ao56, co56, eo56⟩ := Kd.R_slice HO_9.out
                                                    subst eo56
                                                    have p312 : 0 ≤ (x11_2 : Int) := of_decide_eq_true (by first | (with_reducible assumption) | assumption)
                                                    have q312 : x11_2 < (t295.length : Int) := of_decide_eq_true (by first | (with_reducible assumption) | assumption)
                                                    obtain ⟨ad312, e312, hx312_0⟩ := Kd.at_int (Kd.R_reads' HO_9.out).2.2 x11_2 p312 q312
                                                    cases e312
                                                    replace p312 := eq_true p312
                                                    replace q312 := eq_true q312
                                                    have p313 : 0 ≤ (x11_2 : Int) := of_decide_eq_true (by first | (with_reducible assumption) | assumption)
                                                    have q313 : x11_2 < (t288.length : Int) := of_decide_eq_true (by first | (with_reducible assumption) | assumption)
                                                    obtain ⟨ad313, e313, hx313_0, hx313_1⟩ := at_T81 (Kd.R_reads' HO_6.out).2.2 x11_2 p313 q313
                                                    cases e313
                                                    replace p313 := eq_true p313
                                                    replace q313 := eq_true q313
                                                    have p314 : 0 ≤ (x11_2 : Int) := of_decide_eq_true (by first | (with_reducible assumption) | assumption)
                                                    have q314 : x11_2 < (t295.length : Int) := of_decide_eq_true (by first | (with_reducible assumption) | assumption)
                                                    obtain ⟨ad314, e314, hx314_0⟩ := Kd.at_int (Kd.R_reads' HO_9.out).2.2 x11_2 p314 q314
                                                    obtain rfl : ad312 = ad314 := (by injection e314)
                                                    replace p314 := eq_true p314
                                                    replace q314 := eq_true q314
                                                    go_wp2
                                                    repeat (go_quiet (fail); try go_wp2)
                                                    go_meet
                                                    case rel => exact ⟨_, (((rd (rd_L4 t291 x11_2) x12_4) != (wrap64 (((rd_T81 t288 x11_2).f1) + (wrap64 ((wrap64 (x12_4 + 1)) * (rd t295 x11_2))))))), (by first | rfl | (simp; done) | (simp [*]; done)), H', ⟨by have := HJ8.out; have := HK2.out; have := HJ25.out; have := HK4.out; have := HJ38.out; first | omega | exact Nat.le_refl _⟩, ⟨by (with_reducible repeat (first | apply Kd.R_alloc | apply Kd.R_drewN | apply Kd.R_drew)); exact HO_6.out⟩, ⟨by (with_reducible repeat (first | apply Kd.S_alloc | apply Kd.S_drewN | apply Kd.S_drew)); exact HO_7.out⟩, ⟨by (with_reducible repeat (first | apply Kd.R_alloc | apply Kd.R_drewN | apply Kd.R_drew)); exact HO_9.out⟩, ⟨by (with_reducible repeat (first | refine blk_drewN ?_ _ | refine blk_drew ?_ | refine blk_alloc ?_ _)); exact BK287.out⟩, ⟨by repeat (first | (with_reducible exact HR303_0.out) | (with_reducible refine Kd.C_alloc ?_ _) | (with_reducible refine Kd.C_drewN ?_ _) | (with_reducible refine Kd.C_drew ?_) | exact HR303_0.out)⟩, ⟨by repeat (first | (with_reducible exact HR304_0.out) | (with_reducible refine Kd.C_alloc ?_ _) | (with_reducible refine Kd.C_drewN ?_ _) | (with_reducible refine Kd.C_drew ?_) | exact HR304_0.out)⟩, ⟨by repeat (first | (with_reducible first | exact HB.out | apply below_alloc | apply pw_below_drewN | apply below_drew1 | refine below_set ?_ GE287.out) | exact HB.out)⟩⟩
                                                  · rw [if_neg c54] at H
                                                    exact absurd H (by simp)
                                              · rw [if_neg c50] at H
                                                exact absurd H (by simp)
                                            · rw [if_neg c49] at H
                                              exact absurd H (by simp)
                                          · rw [if_neg c48] at H
                                            have c48b0 : (t283 == 1) = false := beq_eq_false_iff_ne.mpr c48
                                            have c48b1 : (t283 != 1) = true := bne_iff_ne.mpr c48
                                            (first | rw [c48b0] | (simp only [i64_w, i32_w]; rw [c48b0]) | skip)
                                            have H' := Aside0.mk H
                                            clear H
                                            have hcz57_0 : wc.cell? ⟨gb287, 0, none⟩ = some (.int .i64 t283) := (blk_cell BK287.out 0).trans rfl
                                            have hcz57_1 : wc.cell? ⟨gb287, 1, none⟩ = some (.int .i64 t284) := (blk_cell BK287.out 1).trans rfl
                                            have hcz57_2 : wc.cell? ⟨gb287, 2, none⟩ = some (.int .i64 t285) := (blk_cell BK287.out 2).trans rfl
                                            have hcz57_3 : wc.cell? ⟨gb287, 3, none⟩ = some (.int .i64 t286) := (blk_cell BK287.out 3).trans rfl
                                            have hfz57_0 := blk_frozen BK287.out 0
                                            have hfz57_1 := blk_frozen BK287.out 1
                                            have hfz57_2 := blk_frozen BK287.out 2
                                            have hfz57_3 := blk_frozen BK287.out 3
                                            go_wp2
                                            repeat (go_quiet (fail); try go_wp2)
                                            go_meet
                                            case rel => exact ⟨_, (false), (by first | rfl | (simp; done) | (simp [*]; done)), H', ⟨by have := HJ8.out; have := HK2.out; have := HJ25.out; have := HK4.out; have := HJ38.out; first | omega | exact Nat.le_refl _⟩, ⟨by (with_reducible repeat (first | apply Kd.R_alloc | apply Kd.R_drewN | apply Kd.R_drew)); exact HO_6.out⟩, ⟨by (with_reducible repeat (first | apply Kd.S_alloc | apply Kd.S_drewN | apply Kd.S_drew)); exact HO_7.out⟩, ⟨by (with_reducible repeat (first | apply Kd.R_alloc | apply Kd.R_drewN | apply Kd.R_drew)); exact HO_9.out⟩, ⟨by (with_reducible repeat (first | refine blk_drewN ?_ _ | refine blk_drew ?_ | refine blk_alloc ?_ _)); exact BK287.out⟩, ⟨by repeat (first | (with_reducible exact HR303_0.out) | (with_reducible refine Kd.C_alloc ?_ _) | (with_reducible refine Kd.C_drewN ?_ _) | (with_reducible refine Kd.C_drew ?_) | exact HR303_0.out)⟩, ⟨by repeat (first | (with_reducible exact HR304_0.out) | (with_reducible refine Kd.C_alloc ?_ _) | (with_reducible refine Kd.C_drewN ?_ _) | (with_reducible refine Kd.C_drew ?_) | exact HR304_0.out)⟩, ⟨by repeat (first | (with_reducible first | exact HB.out | apply below_alloc | apply pw_below_drewN | apply below_drew1 | refine below_set ?_ GE287.out) | exact HB.out)⟩⟩
                                        case rest =>
                                          clear HC47
                                          try clear c1
                                          try clear c2
                                          try clear p2
                                          try clear q2
                                          try clear hx2
                                          try clear c3
                                          try clear p3
                                          try clear q3
                                          try clear hx3
                                          try clear c4
                                          try clear q4
                                          try clear c5
                                          try clear p6
                                          try clear c11
                                          try clear c18
                                          try clear c19
                                          try clear c20
                                          try clear c20b0
                                          try clear c20b1
                                          try clear c20b2
                                          try clear c24
                                          try clear c25
                                          try clear c25b0
                                          try clear c28
                                          try clear c28b0
                                          try clear c29
                                          try clear c29b0
                                          try clear p29
                                          try clear q29
                                          try clear hx29
                                          try clear c30
                                          try clear p30
                                          try clear q30
                                          try clear hx30
                                          try clear c31
                                          try clear c31b0
                                          try clear p31
                                          try clear q31
                                          try clear hx31
                                          try clear c34
                                          try clear c35
                                          try clear c35b0
                                          try clear c36
                                          try clear c36b0
                                          try clear c37
                                          try clear c37b0
                                          try clear c38
                                          try clear c38b0
                                          try clear c40
                                          try clear c40b0
                                          try clear c41
                                          try clear c41b0
                                          try clear c42
                                          try clear c42b0
                                          try clear c43
                                          try clear c43b0
                                          try clear c43b1
                                          try clear q45
                                          try clear c46
                                          try clear c48
                                          try clear c48b0
                                          try clear c48b1
                                          try clear c49
                                          try clear c49b0
                                          try clear c50
                                          try clear c50b0
                                          try clear c51
                                          try clear c51b0
                                          try clear c51b1
                                          try clear c54
                                          try clear c54b0
                                          try clear hcz12_0
                                          try clear hcz12_1
                                          try clear hcz12_2
                                          try clear hcz12_3
                                          try clear hcz14_0
                                          try clear hcz14_1
                                          try clear hcz14_2
                                          try clear hcz14_3
                                          try clear hcz30_0
                                          try clear hcz30_1
                                          try clear hcz30_2
                                          try clear hcz30_3
                                          try clear hcz33_0
                                          try clear hcz33_1
                                          try clear hcz33_2
                                          try clear hcz33_3
                                          try clear hcz52_0
                                          try clear hcz52_1
                                          try clear hcz52_2
                                          try clear hcz52_3
                                          try clear hcz55_0
                                          try clear hcz55_1
                                          try clear hcz55_2
                                          try clear hcz55_3
                                          try clear hcz57_0
                                          try clear hcz57_1
                                          try clear hcz57_2
                                          try clear hcz57_3
                                          try clear hfz12_0
                                          try clear hfz12_1
                                          try clear hfz12_2
                                          try clear hfz12_3
                                          try clear hfz14_0
                                          try clear hfz14_1
                                          try clear hfz14_2
                                          try clear hfz14_3
                                          try clear hfz30_0
                                          try clear hfz30_1
                                          try clear hfz30_2
                                          try clear hfz30_3
                                          try clear hfz33_0
                                          try clear hfz33_1
                                          try clear hfz33_2
                                          try clear hfz33_3
                                          try clear hfz52_0
                                          try clear hfz52_1
                                          try clear hfz52_2
                                          try clear hfz52_3
                                          try clear hfz55_0
                                          try clear hfz55_1
                                          try clear hfz55_2
                                          try clear hfz55_3
                                          try clear hfz57_0
                                          try clear hfz57_1
                                          try clear hfz57_2
                                          try clear hfz57_3
                                          try clear hx299_0
                                          try clear hx300_0
                                          try clear hx301_0
                                          try clear hx301_1
                                          try clear hx303_0
                                          try clear hx304_0
                                          try clear hx305_0
                                          try clear hx306_0
                                          try clear hx312_0
                                          try clear hx313_0
                                          try clear hx313_1
                                          try clear hx314_0
                                          try clear p2
                                          try clear p29
                                          try clear p299
                                          try clear p3
                                          try clear p30
                                          try clear p300
                                          try clear p301
                                          try clear p303
                                          try clear p304
                                          try clear p305
                                          try clear p306
                                          try clear p312
                                          try clear p313
                                          try clear p314
                                          try clear q2
                                          try clear q29
                                          try clear q299
                                          try clear q3
                                          try clear q30
                                          try clear q300
                                          try clear q301
                                          try clear q303
                                          try clear q304
                                          try clear q305
                                          try clear q306
                                          try clear q312
                                          try clear q313
                                          try clear q314
                                          try clear q4
                                          try clear q45
                                          obtain ⟨kq, x139_46, rfl, HA, HJ46, HO_6, HO_7, HO_9, BK287, HR303_0, HR304_0, HB⟩ := hcut
                                          cases kq with
                                          | zero => exact absurd HA.out (by simp [laws_FnGuessed.j5])
                                          | succ kj46 =>
                                            have H := HA.out
                                            clear HA
                                            simp only [laws_FnGuessed.j5] at H
                                            by_cases c58 : x139_46 = true
                                            · subst c58
                                              have H1 : (some false) = some r := by rw [if_pos rfl] at H; exact H
                                              clear H
                                              have H := H1
                                              clear H1
                                              obtain rfl := Option.some.inj H
                                              go_wp2
                                              repeat (go_quiet (fail); try go_wp2)
                                              go_ret
                                              exact ⟨by first | rfl | (simp [errW_none, errW_some] <;> rfl) | (simp [*, errW_none, errW_some] <;> rfl), by repeat (first | (with_reducible first | exact HB.out | apply below_alloc | apply pw_below_drewN | apply below_drew1 | refine below_set ?_ GE287.out) | exact HB.out)⟩
                                            · replace c58 := Bool.eq_false_iff.mpr c58
                                              subst c58
                                              have H1 : (if t283 = 0 then (if 0 ≤ x11_2 then (if x11_2 < (t288.length : Int) then (if (rd (rd_L4 t291 x11_2) x12_4) = (wrap64 (((rd_T81 t288 x11_2).f1) + (wrap64 (x12_4 + 1)))) then (laws_FnGuessed.l1 kj46 t288 t291 t295 x11_2 (wrap64 (x12_4 + 1)) t283 t284 t285 t286) else (some false)) else (none)) else (none)) else (laws_FnGuessed.l1 kj46 t288 t291 t295 x11_2 (wrap64 (x12_4 + 1)) t283 t284 t285 t286)) = some r := by rw [if_neg (show ¬ (false = true) by decide)] at H; exact H
                                              clear H
                                              have H := H1
                                              clear H1
                                              by_cases c59 : t283 = 0
                                              · rw [if_pos c59] at H
                                                have c59b0 : (t283 == 0) = true := beq_iff_eq.mpr c59
                                                have c59b1 : (t283 != 0) = false := bne_eq_false_iff_eq.mpr c59
                                                clear c59
                                                by_cases c60 : 0 ≤ x11_2
                                                · rw [if_pos c60] at H
                                                  have c60b0 : decide (0 ≤ x11_2) = true := decide_eq_true c60
                                                  clear c60
                                                  by_cases c61 : x11_2 < (t288.length : Int)
                                                  · rw [if_pos c61] at H
                                                    have c61b0 : decide (x11_2 < (t288.length : Int)) = true := decide_eq_true c61
                                                    clear c61
                                                    by_cases c62 : (rd (rd_L4 t291 x11_2) x12_4) = (wrap64 (((rd_T81 t288 x11_2).f1) + (wrap64 (x12_4 + 1))))
                                                    · rw [if_pos c62] at H
                                                      have c62b0 : ((rd (rd_L4 t291 x11_2) x12_4) == (wrap64 (((rd_T81 t288 x11_2).f1) + (wrap64 (x12_4 + 1))))) = true := beq_iff_eq.mpr c62
                                                      have c62b1 : ((rd (rd_L4 t291 x11_2) x12_4) != (wrap64 (((rd_T81 t288 x11_2).f1) + (wrap64 (x12_4 + 1))))) = false := bne_eq_false_iff_eq.mpr c62
                                                      clear c62
                                                      have H' := Aside0.mk H
                                                      clear H
                                                      have hcz63_0 : wc.cell? ⟨gb287, 0, none⟩ = some (.int .i64 t283) := (blk_cell BK287.out 0).trans rfl
                                                      have hcz63_1 : wc.cell? ⟨gb287, 1, none⟩ = some (.int .i64 t284) := (blk_cell BK287.out 1).trans rfl
                                                      have hcz63_2 : wc.cell? ⟨gb287, 2, none⟩ = some (.int .i64 t285) := (blk_cell BK287.out 2).trans rfl
                                                      have hcz63_3 : wc.cell? ⟨gb287, 3, none⟩ = some (.int .i64 t286) := (blk_cell BK287.out 3).trans rfl
                                                      have hfz63_0 := blk_frozen BK287.out 0
                                                      have hfz63_1 := blk_frozen BK287.out 1
                                                      have hfz63_2 := blk_frozen BK287.out 2
                                                      have hfz63_3 := blk_frozen BK287.out 3
                                                      have p315 : 0 ≤ (x11_2 : Int) := of_decide_eq_true (by first | (with_reducible assumption) | assumption)
                                                      have q315 : x11_2 < (t288.length : Int) := of_decide_eq_true (by first | (with_reducible assumption) | assumption)
                                                      obtain ⟨ad315, e315, hx315_0, hx315_1⟩ := at_T81 (Kd.R_reads' HO_6.out).2.2 x11_2 p315 q315
                                                      cases e315
                                                      replace p315 := eq_true p315
                                                      replace q315 := eq_true q315
                                                      go_wp2
                                                      repeat (go_quiet (fail); try go_wp2)
                                                      go_roundg kj46
                                                      case measure => have := HJ8.out; have := HK2.out; have := HJ25.out; have := HK4.out; have := HJ38.out; have := HJ46.out; omega
                                                      case rel => exact ⟨(wrap64 (x12_4 + 1)), (by first | rfl | (simp; done) | (simp [*]; done)), H', ⟨by have := HJ8.out; have := HK2.out; have := HJ25.out; have := HK4.out; have := HJ38.out; have := HJ46.out; omega⟩, ⟨by (with_reducible repeat (first | apply Kd.R_alloc | apply Kd.R_drewN | apply Kd.R_drew)); exact HO_6.out⟩, ⟨by (with_reducible repeat (first | apply Kd.S_alloc | apply Kd.S_drewN | apply Kd.S_drew)); exact HO_7.out⟩, ⟨by (with_reducible repeat (first | apply Kd.R_alloc | apply Kd.R_drewN | apply Kd.R_drew)); exact HO_9.out⟩, ⟨by (with_reducible repeat (first | refine blk_drewN ?_ _ | refine blk_drew ?_ | refine blk_alloc ?_ _)); exact BK287.out⟩, ⟨by repeat (first | (with_reducible first | exact HB.out | apply below_alloc | apply pw_below_drewN | apply below_drew1 | refine below_set ?_ GE287.out) | exact HB.out)⟩⟩
                                                    · rw [if_neg c62] at H
                                                      have c62b0 : ((rd (rd_L4 t291 x11_2) x12_4) == (wrap64 (((rd_T81 t288 x11_2).f1) + (wrap64 (x12_4 + 1))))) = false := beq_eq_false_iff_ne.mpr c62
                                                      have c62b1 : ((rd (rd_L4 t291 x11_2) x12_4) != (wrap64 (((rd_T81 t288 x11_2).f1) + (wrap64 (x12_4 + 1))))) = true := bne_iff_ne.mpr c62
                                                      obtain rfl := Option.some.inj H
                                                      have hcz64_0 : wc.cell? ⟨gb287, 0, none⟩ = some (.int .i64 t283) := (blk_cell BK287.out 0).trans rfl
                                                      have hcz64_1 : wc.cell? ⟨gb287, 1, none⟩ = some (.int .i64 t284) := (blk_cell BK287.out 1).trans rfl
                                                      have hcz64_2 : wc.cell? ⟨gb287, 2, none⟩ = some (.int .i64 t285) := (blk_cell BK287.out 2).trans rfl
                                                      have hcz64_3 : wc.cell? ⟨gb287, 3, none⟩ = some (.int .i64 t286) := (blk_cell BK287.out 3).trans rfl
                                                      have hfz64_0 := blk_frozen BK287.out 0
                                                      have hfz64_1 := blk_frozen BK287.out 1
                                                      have hfz64_2 := blk_frozen BK287.out 2
                                                      have hfz64_3 := blk_frozen BK287.out 3
                                                      have p315 : 0 ≤ (x11_2 : Int) := of_decide_eq_true (by first | (with_reducible assumption) | assumption)
                                                      have q315 : x11_2 < (t288.length : Int) := of_decide_eq_true (by first | (with_reducible assumption) | assumption)
                                                      obtain ⟨ad315, e315, hx315_0, hx315_1⟩ := at_T81 (Kd.R_reads' HO_6.out).2.2 x11_2 p315 q315
                                                      cases e315
                                                      replace p315 := eq_true p315
                                                      replace q315 := eq_true q315
                                                      go_wp2
                                                      repeat (go_quiet (fail); try go_wp2)
                                                      go_ret
                                                      exact ⟨by first | rfl | (simp [errW_none, errW_some] <;> rfl) | (simp [*, errW_none, errW_some] <;> rfl), by repeat (first | (with_reducible first | exact HB.out | apply below_alloc | apply pw_below_drewN | apply below_drew1 | refine below_set ?_ GE287.out) | exact HB.out)⟩
                                                  · rw [if_neg c61] at H
                                                    exact absurd H (by simp)
                                                · rw [if_neg c60] at H
                                                  exact absurd H (by simp)
                                              · rw [if_neg c59] at H
                                                have c59b0 : (t283 == 0) = false := beq_eq_false_iff_ne.mpr c59
                                                have c59b1 : (t283 != 0) = true := bne_iff_ne.mpr c59
                                                have H' := Aside0.mk H
                                                clear H
                                                have hcz65_0 : wc.cell? ⟨gb287, 0, none⟩ = some (.int .i64 t283) := (blk_cell BK287.out 0).trans rfl
                                                have hcz65_1 : wc.cell? ⟨gb287, 1, none⟩ = some (.int .i64 t284) := (blk_cell BK287.out 1).trans rfl
                                                have hcz65_2 : wc.cell? ⟨gb287, 2, none⟩ = some (.int .i64 t285) := (blk_cell BK287.out 2).trans rfl
                                                have hcz65_3 : wc.cell? ⟨gb287, 3, none⟩ = some (.int .i64 t286) := (blk_cell BK287.out 3).trans rfl
                                                have hfz65_0 := blk_frozen BK287.out 0
                                                have hfz65_1 := blk_frozen BK287.out 1
                                                have hfz65_2 := blk_frozen BK287.out 2
                                                have hfz65_3 := blk_frozen BK287.out 3
                                                go_wp2
                                                repeat (go_quiet (fail); try go_wp2)
                                                go_roundg kj46
                                                case measure => have := HJ8.out; have := HK2.out; have := HJ25.out; have := HK4.out; have := HJ38.out; have := HJ46.out; omega
                                                case rel => exact ⟨(wrap64 (x12_4 + 1)), (by first | rfl | (simp; done) | (simp [*]; done)), H', ⟨by have := HJ8.out; have := HK2.out; have := HJ25.out; have := HK4.out; have := HJ38.out; have := HJ46.out; omega⟩, ⟨by (with_reducible repeat (first | apply Kd.R_alloc | apply Kd.R_drewN | apply Kd.R_drew)); exact HO_6.out⟩, ⟨by (with_reducible repeat (first | apply Kd.S_alloc | apply Kd.S_drewN | apply Kd.S_drew)); exact HO_7.out⟩, ⟨by (with_reducible repeat (first | apply Kd.R_alloc | apply Kd.R_drewN | apply Kd.R_drew)); exact HO_9.out⟩, ⟨by (with_reducible repeat (first | refine blk_drewN ?_ _ | refine blk_drew ?_ | refine blk_alloc ?_ _)); exact BK287.out⟩, ⟨by repeat (first | (with_reducible first | exact HB.out | apply below_alloc | apply pw_below_drewN | apply below_drew1 | refine below_set ?_ GE287.out) | exact HB.out)⟩⟩
                                · rw [if_neg c38] at H
                                  exact absurd H (by simp)
                              · rw [if_neg c37] at H
                                have c37b0 : decide (x12_4 < ((rd_L4 t291 x11_2).length : Int)) = false := decide_eq_false c37
                                clear c37
                                have H' := Aside0.mk H
                                clear H
                                have p303 : 0 ≤ (x11_2 : Int) := of_decide_eq_true (by first | (with_reducible assumption) | assumption)
                                have q303 : x11_2 < (t291.length : Int) := of_decide_eq_true (by first | (with_reducible assumption) | assumption)
                                obtain ⟨ad303, A303_0, c303_0, e303, hx303_0, hl303_0, hi303_0⟩ := at_L4 (Kd.S_reads' HO_7.out).2.2 x11_2 p303 q303
                                cases e303
                                obtain ⟨ce303, hce303, hMe303, hcc303⟩ := Kd.S_get HO_7.out [] x11_2 p303 (by first | exact q303 | exact of_decide_eq_true (by first | (with_reducible assumption) | assumption) | (have e_ := (Kd.S_reads' HO_7.out).1; omega))
                                obtain ⟨ve303_0, rfl, ge303_0⟩ := hMe303
                                have hv303_0 := hcc303 0 _ rfl
                                rw [Nat.add_zero, show ((Kd.slice 2 (Kd.int .i64))).sz = 1 from rfl, Nat.mul_one] at hv303_0
                                replace hv303_0 := Option.some.inj (hv303_0.symm.trans hx303_0)
                                rw [hv303_0] at ge303_0
                                have HL303_0 := Aside0.mk (show Kd.R (Kd.int .i64) 2 _ _ _ _ (rd_L4 t291 x11_2) from ge303_0)
                                clear hv303_0 ge303_0
                                clear hcc303 hce303
                                have HR303_0 := Aside0.mk hi303_0
                                have HC303_0 := Aside0.mk hl303_0
                                clear hi303_0 hl303_0
                                replace p303 := eq_true p303
                                replace q303 := eq_true q303
                                go_wp2
                                repeat (go_quiet (fail); try go_wp2)
                                go_roundg k4
                                case measure => have := HJ8.out; have := HK2.out; have := HJ25.out; have := HK4.out; omega
                                case rel => exact ⟨(wrap64 (x11_2 + 1)), (by first | rfl | (simp; done) | (simp [*]; done)), H', ⟨by have := HJ8.out; have := HK2.out; have := HJ25.out; have := HK4.out; omega⟩, ⟨by (with_reducible repeat (first | apply Kd.R_alloc | apply Kd.R_drewN | apply Kd.R_drew)); exact HO_6.out⟩, ⟨by (with_reducible repeat (first | apply Kd.S_alloc | apply Kd.S_drewN | apply Kd.S_drew)); exact HO_7.out⟩, ⟨by (with_reducible repeat (first | apply Kd.R_alloc | apply Kd.R_drewN | apply Kd.R_drew)); exact HO_9.out⟩, ⟨by (with_reducible repeat (first | refine blk_drewN ?_ _ | refine blk_drew ?_ | refine blk_alloc ?_ _)); exact BK287.out⟩, ⟨by repeat (first | (with_reducible first | exact HB.out | apply below_alloc | apply pw_below_drewN | apply below_drew1 | refine below_set ?_ GE287.out) | exact HB.out)⟩⟩
                            · rw [if_neg c36] at H
                              exact absurd H (by simp)
                          · rw [if_neg c35] at H
                            exact absurd H (by simp)
              · rw [if_neg c25] at H
                have c25b0 : decide (x11_2 < (t291.length : Int)) = false := decide_eq_false c25
                clear c25
                replace H := Option.bind_eq_some_iff.mp H
                obtain ⟨⟨t316, t317⟩, A660, H⟩ := H
                replace H : (if t317 = true then (laws_FnGuessed.l2 k2 t316 0) else (some false)) = some r := H
                have A66 := Aside0.mk A660
                clear A660
                by_cases c67 : t317 = true
                · subst c67
                  have H1 : (laws_FnGuessed.l2 k2 t316 0) = some r := by rw [if_pos rfl] at H; exact H
                  clear H
                  have H := H1
                  clear H1
                  have H' := Aside0.mk H
                  clear H
                  obtain ⟨Ao68, co68, eo68⟩ := Kd.S_slice HO_7.out
                  subst eo68
                  go_wp2_with (first | (go_at_call 69; (with_reducible refine (impl_PairsOf.calls k2 _ _ t288 0 t316 true _ ?side1 ?side2 A66.out).mono ?_); (case side1 => repeat (first | exact (Kd.R_reads' HO_6.out).2.2 | (with_reducible refine Kd.C_alloc ?_ _) | (with_reducible refine Kd.C_drewN ?_ _) | (with_reducible refine Kd.C_drew ?_))); (case side2 => exact (Kd.R_reads' HO_6.out).2.1); rintro e w69 ⟨v318, rfl, ho0, hb⟩; have n0_ := Aside0.mk (Kd.R_below (by (with_reducible repeat (first | apply Kd.R_alloc | apply Kd.R_drewN | apply Kd.R_drew)); exact HO_6.out) hb); have n1_ := Aside0.mk (Kd.S_elder' (by (with_reducible repeat (first | apply Kd.S_alloc | apply Kd.S_drewN | apply Kd.S_drew)); exact HO_7.out) (Kd.S_base ho0) hb); have n2_ := Aside0.mk (Kd.R_below (by (with_reducible repeat (first | apply Kd.R_alloc | apply Kd.R_drewN | apply Kd.R_drew)); exact HO_9.out) hb); have n3_ := Aside0.mk (Kd.S_lower (Kd.S_new' (Kd.S_new' ho0 (Kd.S_lt (by (with_reducible repeat (first | apply Kd.S_alloc | apply Kd.S_drewN | apply Kd.S_drew)); exact HO_7.out))) (Kd.R_lt (by (with_reducible repeat (first | apply Kd.R_alloc | apply Kd.R_drewN | apply Kd.R_drew)); exact HO_9.out))) (below_size (by repeat (first | (with_reducible first | exact HB.out | apply below_alloc | apply pw_below_drewN | apply below_drew1 | refine below_set ?_ GE287.out) | exact HB.out)))); have n4_ := Aside0.mk (blk_below (g := gb287) (o := .cells #[.int .i64 t283, .int .i64 t284, .int .i64 t285, .int .i64 t286] 62 (0, 0)) (by (with_reducible repeat (first | refine blk_drewN ?_ _ | refine blk_drew ?_ | refine blk_alloc ?_ _)); exact BK287.out) hb); have n5_ := Aside0.mk (below_step (by repeat (first | (with_reducible first | exact HB.out | apply below_alloc | apply pw_below_drewN | apply below_drew1 | refine below_set ?_ GE287.out) | exact HB.out)) hb); clear HO_6; clear HO_7; clear HO_9; clear BK287; clear HB; have HO_6 := n0_; have HO_7 := n1_; have HO_9 := n2_; have HO319 := n3_; have BK287 := n4_; have HB := n5_; clear n0_ n1_ n2_ n3_ n4_ n5_; (try clear hb); (try clear hb2); (try clear hk); (try clear hi); (try clear ho0)))
                  repeat (go_quiet (first | (go_at_call 69; (with_reducible refine (impl_PairsOf.calls k2 _ _ t288 0 t316 true _ ?side1 ?side2 A66.out).mono ?_); (case side1 => repeat (first | exact (Kd.R_reads' HO_6.out).2.2 | (with_reducible refine Kd.C_alloc ?_ _) | (with_reducible refine Kd.C_drewN ?_ _) | (with_reducible refine Kd.C_drew ?_))); (case side2 => exact (Kd.R_reads' HO_6.out).2.1); rintro e w69 ⟨v318, rfl, ho0, hb⟩; have n0_ := Aside0.mk (Kd.R_below (by (with_reducible repeat (first | apply Kd.R_alloc | apply Kd.R_drewN | apply Kd.R_drew)); exact HO_6.out) hb); have n1_ := Aside0.mk (Kd.S_elder' (by (with_reducible repeat (first | apply Kd.S_alloc | apply Kd.S_drewN | apply Kd.S_drew)); exact HO_7.out) (Kd.S_base ho0) hb); have n2_ := Aside0.mk (Kd.R_below (by (with_reducible repeat (first | apply Kd.R_alloc | apply Kd.R_drewN | apply Kd.R_drew)); exact HO_9.out) hb); have n3_ := Aside0.mk (Kd.S_lower (Kd.S_new' (Kd.S_new' ho0 (Kd.S_lt (by (with_reducible repeat (first | apply Kd.S_alloc | apply Kd.S_drewN | apply Kd.S_drew)); exact HO_7.out))) (Kd.R_lt (by (with_reducible repeat (first | apply Kd.R_alloc | apply Kd.R_drewN | apply Kd.R_drew)); exact HO_9.out))) (below_size (by repeat (first | (with_reducible first | exact HB.out | apply below_alloc | apply pw_below_drewN | apply below_drew1 | refine below_set ?_ GE287.out) | exact HB.out)))); have n4_ := Aside0.mk (blk_below (g := gb287) (o := .cells #[.int .i64 t283, .int .i64 t284, .int .i64 t285, .int .i64 t286] 62 (0, 0)) (by (with_reducible repeat (first | refine blk_drewN ?_ _ | refine blk_drew ?_ | refine blk_alloc ?_ _)); exact BK287.out) hb); have n5_ := Aside0.mk (below_step (by repeat (first | (with_reducible first | exact HB.out | apply below_alloc | apply pw_below_drewN | apply below_drew1 | refine below_set ?_ GE287.out) | exact HB.out)) hb); clear HO_6; clear HO_7; clear HO_9; clear BK287; clear HB; have HO_6 := n0_; have HO_7 := n1_; have HO_9 := n2_; have HO319 := n3_; have BK287 := n4_; have HB := n5_; clear n0_ n1_ n2_ n3_ n4_ n5_; (try clear hb); (try clear hb2); (try clear hk); (try clear hi); (try clear ho0))); try go_wp2_with (first | (go_at_call 69; (with_reducible refine (impl_PairsOf.calls k2 _ _ t288 0 t316 true _ ?side1 ?side2 A66.out).mono ?_); (case side1 => repeat (first | exact (Kd.R_reads' HO_6.out).2.2 | (with_reducible refine Kd.C_alloc ?_ _) | (with_reducible refine Kd.C_drewN ?_ _) | (with_reducible refine Kd.C_drew ?_))); (case side2 => exact (Kd.R_reads' HO_6.out).2.1); rintro e w69 ⟨v318, rfl, ho0, hb⟩; have n0_ := Aside0.mk (Kd.R_below (by (with_reducible repeat (first | apply Kd.R_alloc | apply Kd.R_drewN | apply Kd.R_drew)); exact HO_6.out) hb); have n1_ := Aside0.mk (Kd.S_elder' (by (with_reducible repeat (first | apply Kd.S_alloc | apply Kd.S_drewN | apply Kd.S_drew)); exact HO_7.out) (Kd.S_base ho0) hb); have n2_ := Aside0.mk (Kd.R_below (by (with_reducible repeat (first | apply Kd.R_alloc | apply Kd.R_drewN | apply Kd.R_drew)); exact HO_9.out) hb); have n3_ := Aside0.mk (Kd.S_lower (Kd.S_new' (Kd.S_new' ho0 (Kd.S_lt (by (with_reducible repeat (first | apply Kd.S_alloc | apply Kd.S_drewN | apply Kd.S_drew)); exact HO_7.out))) (Kd.R_lt (by (with_reducible repeat (first | apply Kd.R_alloc | apply Kd.R_drewN | apply Kd.R_drew)); exact HO_9.out))) (below_size (by repeat (first | (with_reducible first | exact HB.out | apply below_alloc | apply pw_below_drewN | apply below_drew1 | refine below_set ?_ GE287.out) | exact HB.out)))); have n4_ := Aside0.mk (blk_below (g := gb287) (o := .cells #[.int .i64 t283, .int .i64 t284, .int .i64 t285, .int .i64 t286] 62 (0, 0)) (by (with_reducible repeat (first | refine blk_drewN ?_ _ | refine blk_drew ?_ | refine blk_alloc ?_ _)); exact BK287.out) hb); have n5_ := Aside0.mk (below_step (by repeat (first | (with_reducible first | exact HB.out | apply below_alloc | apply pw_below_drewN | apply below_drew1 | refine below_set ?_ GE287.out) | exact HB.out)) hb); clear HO_6; clear HO_7; clear HO_9; clear BK287; clear HB; have HO_6 := n0_; have HO_7 := n1_; have HO_9 := n2_; have HO319 := n3_; have BK287 := n4_; have HB := n5_; clear n0_ n1_ n2_ n3_ n4_ n5_; (try clear hb); (try clear hb2); (try clear hk); (try clear hi); (try clear ho0))))
                  go_loopg [16] k2 (fun kq v16 w' => ∃ (x16_3 : Int), v16 = .int .i64 x16_3 ∧ Aside0 (laws_FnGuessed.l2 kq t316 x16_3 = some r) ∧ Aside0 (kq ≤ k2) ∧ Aside0 (Kd.S (Kd.slice 2 (Kd.int .i64)) 25 w' w.heap.size (fun _ => True) v318 t316) ∧ Aside0 (w'.heap[gb287]? = some (.cells #[.int .i64 t283, .int .i64 t284, .int .i64 t285, .int .i64 t286] 62 (0, 0))) ∧ Aside0 (Below w.heap.size w w'))
                  case atStart => exact ⟨(0), (by first | rfl | (simp; done) | (simp [*]; done)), H', ⟨Nat.le_refl _⟩, ⟨by (with_reducible repeat (first | apply Kd.S_alloc | apply Kd.S_drewN | apply Kd.S_drew)); exact Kd.S_mono HO319.out (fun _ hk => trivial)⟩, ⟨by (with_reducible repeat (first | refine blk_drewN ?_ _ | refine blk_drew ?_ | refine blk_alloc ?_ _)); exact BK287.out⟩, ⟨by repeat (first | (with_reducible first | exact HB.out | apply below_alloc | apply pw_below_drewN | apply below_drew1 | refine below_set ?_ GE287.out) | exact HB.out)⟩⟩
                  case round =>
                    clear H'
                    try clear c1
                    try clear c2
                    try clear p2
                    try clear q2
                    try clear hx2
                    try clear c3
                    try clear p3
                    try clear q3
                    try clear hx3
                    try clear c4
                    try clear q4
                    try clear c5
                    try clear c6
                    try clear p6
                    try clear c11
                    try clear c18
                    try clear c19
                    try clear c20
                    try clear c20b0
                    try clear c20b1
                    try clear c20b2
                    try clear c24
                    try clear c25
                    try clear c25b0
                    try clear c28
                    try clear c28b0
                    try clear c29
                    try clear c29b0
                    try clear p29
                    try clear q29
                    try clear hx29
                    try clear c30
                    try clear p30
                    try clear q30
                    try clear hx30
                    try clear c31
                    try clear c31b0
                    try clear p31
                    try clear q31
                    try clear hx31
                    try clear c34
                    try clear c35
                    try clear c35b0
                    try clear c36
                    try clear c36b0
                    try clear c37
                    try clear c37b0
                    try clear c38
                    try clear c38b0
                    try clear c40
                    try clear c40b0
                    try clear c41
                    try clear c41b0
                    try clear c42
                    try clear c42b0
                    try clear c43
                    try clear c43b0
                    try clear c43b1
                    try clear q45
                    try clear c46
                    try clear c48
                    try clear c48b0
                    try clear c48b1
                    try clear c49
                    try clear c49b0
                    try clear c50
                    try clear c50b0
                    try clear c51
                    try clear c51b0
                    try clear c51b1
                    try clear c54
                    try clear c54b0
                    try clear c58
                    try clear c59
                    try clear c59b0
                    try clear c59b1
                    try clear c60
                    try clear c60b0
                    try clear c61
                    try clear c61b0
                    try clear c62
                    try clear c62b0
                    try clear c62b1
                    try clear p64
                    try clear c67
                    try clear hcz12_0
                    try clear hcz12_1
                    try clear hcz12_2
                    try clear hcz12_3
                    try clear hcz14_0
                    try clear hcz14_1
                    try clear hcz14_2
                    try clear hcz14_3
                    try clear hcz30_0
                    try clear hcz30_1
                    try clear hcz30_2
                    try clear hcz30_3
                    try clear hcz33_0
                    try clear hcz33_1
                    try clear hcz33_2
                    try clear hcz33_3
                    try clear hcz52_0
                    try clear hcz52_1
                    try clear hcz52_2
                    try clear hcz52_3
                    try clear hcz55_0
                    try clear hcz55_1
                    try clear hcz55_2
                    try clear hcz55_3
                    try clear hcz57_0
                    try clear hcz57_1
                    try clear hcz57_2
                    try clear hcz57_3
                    try clear hcz63_0
                    try clear hcz63_1
                    try clear hcz63_2
                    try clear hcz63_3
                    try clear hcz64_0
                    try clear hcz64_1
                    try clear hcz64_2
                    try clear hcz64_3
                    try clear hcz65_0
                    try clear hcz65_1
                    try clear hcz65_2
                    try clear hcz65_3
                    try clear hfz12_0
                    try clear hfz12_1
                    try clear hfz12_2
                    try clear hfz12_3
                    try clear hfz14_0
                    try clear hfz14_1
                    try clear hfz14_2
                    try clear hfz14_3
                    try clear hfz30_0
                    try clear hfz30_1
                    try clear hfz30_2
                    try clear hfz30_3
                    try clear hfz33_0
                    try clear hfz33_1
                    try clear hfz33_2
                    try clear hfz33_3
                    try clear hfz52_0
                    try clear hfz52_1
                    try clear hfz52_2
                    try clear hfz52_3
                    try clear hfz55_0
                    try clear hfz55_1
                    try clear hfz55_2
                    try clear hfz55_3
                    try clear hfz57_0
                    try clear hfz57_1
                    try clear hfz57_2
                    try clear hfz57_3
                    try clear hfz63_0
                    try clear hfz63_1
                    try clear hfz63_2
                    try clear hfz63_3
                    try clear hfz64_0
                    try clear hfz64_1
                    try clear hfz64_2
                    try clear hfz64_3
                    try clear hfz65_0
                    try clear hfz65_1
                    try clear hfz65_2
                    try clear hfz65_3
                    try clear hx299_0
                    try clear hx300_0
                    try clear hx301_0
                    try clear hx301_1
                    try clear hx303_0
                    try clear hx304_0
                    try clear hx305_0
                    try clear hx306_0
                    try clear hx312_0
                    try clear hx313_0
                    try clear hx313_1
                    try clear hx314_0
                    try clear hx315_0
                    try clear hx315_1
                    try clear p2
                    try clear p29
                    try clear p299
                    try clear p3
                    try clear p30
                    try clear p300
                    try clear p301
                    try clear p303
                    try clear p304
                    try clear p305
                    try clear p306
                    try clear p31
                    try clear p312
                    try clear p313
                    try clear p314
                    try clear p315
                    try clear p6
                    try clear q2
                    try clear q29
                    try clear q299
                    try clear q3
                    try clear q30
                    try clear q300
                    try clear q301
                    try clear q303
                    try clear q304
                    try clear q305
                    try clear q306
                    try clear q31
                    try clear q312
                    try clear q313
                    try clear q314
                    try clear q315
                    try clear q4
                    try clear q45
                    obtain ⟨x16_3, rfl, HA, HK3, HO_14, BK287, HB⟩ := hrel
                    cases gk with
                    | zero => exact absurd HA.out (by simp [laws_FnGuessed.l2])
                    | succ k3 =>
                      have H := HA.out
                      clear HA
                      simp only [laws_FnGuessed.l2] at H
                      by_cases c70 : x16_3 < (t316.length : Int)
                      · rw [if_pos c70] at H
                        have c70b0 : decide (x16_3 < (t316.length : Int)) = true := decide_eq_true c70
                        clear c70
                        by_cases c71 : 0 ≤ x16_3
                        · rw [if_pos c71] at H
                          have c71b0 : decide (0 ≤ x16_3) = true := decide_eq_true c71
                          clear c71
                          by_cases c72 : ((rd_L4 t316 x16_3).length : Int) = 2
                          · rw [if_pos c72] at H
                            have c72b0 : (((rd_L4 t316 x16_3).length : Int) == 2) = true := beq_iff_eq.mpr c72
                            have c72b1 : (((rd_L4 t316 x16_3).length : Int) != 2) = false := bne_eq_false_iff_eq.mpr c72
                            clear c72
                            by_cases c73 : x16_3 > 0
                            · rw [if_pos c73] at H
                              have c73b0 : decide (0 < x16_3) = true := decide_eq_true c73
                              clear c73
                              obtain ⟨ji74, hji74⟩ : ∃ j_ : Int, (wrap64 (x16_3 - 1)) = j_ := ⟨_, rfl⟩
                              replace H : (if 0 ≤ (ji74) then (if (ji74) < (t316.length : Int) then (if 0 < ((rd_L4 t316 (ji74)).length : Int) then (if 0 < ((rd_L4 t316 x16_3).length : Int) then (if (rd (rd_L4 t316 (ji74)) 0) ≥ (rd (rd_L4 t316 x16_3) 0) then (some false) else (laws_FnGuessed.l2 k3 t316 (wrap64 (x16_3 + 1)))) else (none)) else (none)) else (none)) else (none)) = some r := by first | (rw [hji74] at H; exact H) | (simp only [hji74] at H ⊢; exact H)
                              have hji74w : (IntKind.i64.wrap (x16_3 - 1)) = ji74 := (i64_w _).trans hji74
                              by_cases c75 : 0 ≤ (ji74)
                              · rw [if_pos c75] at H
                                have c75b0 : decide (0 ≤ (ji74)) = true := decide_eq_true c75
                                clear c75
                                by_cases c76 : (ji74) < (t316.length : Int)
                                · rw [if_pos c76] at H
                                  have c76b0 : decide ((ji74) < (t316.length : Int)) = true := decide_eq_true c76
                                  clear c76
                                  by_cases c77 : 0 < ((rd_L4 t316 (ji74)).length : Int)
                                  · rw [if_pos c77] at H
                                    have c77b0 : decide (0 < ((rd_L4 t316 (ji74)).length : Int)) = true := decide_eq_true c77
                                    have c77b1 : decide (0 < (rd_L4 t316 (ji74)).length) = true := decide_eq_true (by omega)
                                    clear c77
                                    by_cases c78 : 0 < ((rd_L4 t316 x16_3).length : Int)
                                    · rw [if_pos c78] at H
                                      have c78b0 : decide (0 < ((rd_L4 t316 x16_3).length : Int)) = true := decide_eq_true c78
                                      have c78b1 : decide (0 < (rd_L4 t316 x16_3).length) = true := decide_eq_true (by omega)
                                      clear c78
                                      by_cases c79 : (rd (rd_L4 t316 (ji74)) 0) ≥ (rd (rd_L4 t316 x16_3) 0)
                                      · rw [if_pos c79] at H
                                        have c79b0 : decide ((rd (rd_L4 t316 x16_3) 0) ≤ (rd (rd_L4 t316 (ji74)) 0)) = true := decide_eq_true c79
                                        clear c79
                                        obtain rfl := Option.some.inj H
                                        obtain ⟨Ao80, co80, eo80⟩ := Kd.S_slice HO_14.out
                                        subst eo80
                                        have p320 : 0 ≤ (x16_3 : Int) := of_decide_eq_true (by first | (with_reducible assumption) | assumption)
                                        have q320 : x16_3 < (t316.length : Int) := of_decide_eq_true (by first | (with_reducible assumption) | assumption)
                                        obtain ⟨ad320, A320_0, c320_0, e320, hx320_0, hl320_0, hi320_0⟩ := at_L4 (Kd.S_reads' HO_14.out).2.2 x16_3 p320 q320
                                        cases e320
                                        obtain ⟨ce320, hce320, hMe320, hcc320⟩ := Kd.S_get HO_14.out [] x16_3 p320 (by first | exact q320 | exact of_decide_eq_true (by first | (with_reducible assumption) | assumption) | (have e_ := (Kd.S_reads' HO_14.out).1; omega))
                                        obtain ⟨ve320_0, rfl, ge320_0⟩ := hMe320
                                        have hv320_0 := hcc320 0 _ rfl
                                        rw [Nat.add_zero, show ((Kd.slice 2 (Kd.int .i64))).sz = 1 from rfl, Nat.mul_one] at hv320_0
                                        replace hv320_0 := Option.some.inj (hv320_0.symm.trans hx320_0)
                                        rw [hv320_0] at ge320_0
                                        have HL320_0 := Aside0.mk (show Kd.R (Kd.int .i64) 2 _ _ _ _ (rd_L4 t316 x16_3) from ge320_0)
                                        clear hv320_0 ge320_0
                                        clear hcc320 hce320
                                        have HR320_0 := Aside0.mk hi320_0
                                        have HC320_0 := Aside0.mk hl320_0
                                        clear hi320_0 hl320_0
                                        replace p320 := eq_true p320
                                        replace q320 := eq_true q320
                                        have p321 : 0 ≤ ((ji74) : Int) := of_decide_eq_true (by first | (with_reducible assumption) | assumption)
                                        have q321 : (ji74) < (t316.length : Int) := of_decide_eq_true (by first | (with_reducible assumption) | assumption)
                                        obtain ⟨ad321, A321_0, c321_0, e321, hx321_0, hl321_0, hi321_0⟩ := at_L4 (Kd.S_reads' HO_14.out).2.2 (ji74) p321 q321
                                        obtain rfl : ad320 = ad321 := (by injection e321)
                                        obtain ⟨ce321, hce321, hMe321, hcc321⟩ := Kd.S_get HO_14.out [] (ji74) p321 (by first | exact q321 | exact of_decide_eq_true (by first | (with_reducible assumption) | assumption) | (have e_ := (Kd.S_reads' HO_14.out).1; omega))
                                        obtain ⟨ve321_0, rfl, ge321_0⟩ := hMe321
                                        have hv321_0 := hcc321 0 _ rfl
                                        rw [Nat.add_zero, show ((Kd.slice 2 (Kd.int .i64))).sz = 1 from rfl, Nat.mul_one] at hv321_0
                                        replace hv321_0 := Option.some.inj (hv321_0.symm.trans hx321_0)
                                        rw [hv321_0] at ge321_0
                                        have HL321_0 := Aside0.mk (show Kd.R (Kd.int .i64) 2 _ _ _ _ (rd_L4 t316 (ji74)) from ge321_0)
                                        clear hv321_0 ge321_0
                                        clear hcc321 hce321
                                        have HR321_0 := Aside0.mk hi321_0
                                        have HC321_0 := Aside0.mk hl321_0
                                        clear hi321_0 hl321_0
                                        replace p321 := eq_true p321
                                        replace q321 := eq_true q321
                                        have p322 : 0 ≤ (0 : Int) := (by omega)
                                        have q322 : 0 < ((rd_L4 t316 (ji74)).length : Int) := of_decide_eq_true (by first | (with_reducible assumption) | assumption)
                                        obtain ⟨ad322, e322, hx322_0⟩ := Kd.at_int (by repeat (first | (with_reducible exact HR321_0.out) | (with_reducible refine Kd.C_alloc ?_ _) | (with_reducible refine Kd.C_drewN ?_ _) | (with_reducible refine Kd.C_drew ?_) | exact HR321_0.out)) 0 p322 q322
                                        cases e322
                                        have qi322 : (0 < (rd_L4 t316 (ji74)).length) = True := eq_true (by omega)
                                        (try rw [show ((0 : Int)).toNat = 0 from rfl] at hx322_0)
                                        (try rw [Addr.add_zero'] at hx322_0)
                                        replace p322 := eq_true p322
                                        replace q322 := eq_true q322
                                        have p323 : 0 ≤ (x16_3 : Int) := of_decide_eq_true (by first | (with_reducible assumption) | assumption)
                                        have q323 : x16_3 < (t316.length : Int) := of_decide_eq_true (by first | (with_reducible assumption) | assumption)
                                        obtain ⟨ad323, A323_0, c323_0, e323, hx323_0, hl323_0, hi323_0⟩ := at_L4 (Kd.S_reads' HO_14.out).2.2 x16_3 p323 q323
                                        obtain rfl : ad320 = ad323 := (by injection e323)
                                        obtain ⟨ce323, hce323, hMe323, hcc323⟩ := Kd.S_get HO_14.out [] x16_3 p323 (by first | exact q323 | exact of_decide_eq_true (by first | (with_reducible assumption) | assumption) | (have e_ := (Kd.S_reads' HO_14.out).1; omega))
                                        obtain ⟨ve323_0, rfl, ge323_0⟩ := hMe323
                                        have hv323_0 := hcc323 0 _ rfl
                                        rw [Nat.add_zero, show ((Kd.slice 2 (Kd.int .i64))).sz = 1 from rfl, Nat.mul_one] at hv323_0
                                        replace hv323_0 := Option.some.inj (hv323_0.symm.trans hx323_0)
                                        rw [hv323_0] at ge323_0
                                        have HL323_0 := Aside0.mk (show Kd.R (Kd.int .i64) 2 _ _ _ _ (rd_L4 t316 x16_3) from ge323_0)
                                        clear hv323_0 ge323_0
                                        clear hcc323 hce323
                                        have HR323_0 := Aside0.mk hi323_0
                                        have HC323_0 := Aside0.mk hl323_0
                                        clear hi323_0 hl323_0
                                        replace p323 := eq_true p323
                                        replace q323 := eq_true q323
                                        have ea_ := Option.some.inj (hx320_0.symm.trans hx323_0)
                                        injection ea_ with ea_ en_ ec_
                                        subst ea_
                                        subst ec_
                                        clear en_
                                        have p324 : 0 ≤ (0 : Int) := (by omega)
                                        have q324 : 0 < ((rd_L4 t316 x16_3).length : Int) := of_decide_eq_true (by first | (with_reducible assumption) | assumption)
                                        obtain ⟨ad324, e324, hx324_0⟩ := Kd.at_int (by repeat (first | (with_reducible exact HR323_0.out) | (with_reducible refine Kd.C_alloc ?_ _) | (with_reducible refine Kd.C_drewN ?_ _) | (with_reducible refine Kd.C_drew ?_) | exact HR323_0.out)) 0 p324 q324
                                        cases e324
                                        have qi324 : (0 < (rd_L4 t316 x16_3).length) = True := eq_true (by omega)
                                        (try rw [show ((0 : Int)).toNat = 0 from rfl] at hx324_0)
                                        (try rw [Addr.add_zero'] at hx324_0)
                                        replace p324 := eq_true p324
                                        replace q324 := eq_true q324
                                        go_wp2
                                        repeat (go_quiet (fail); try go_wp2)
                                        go_ret
                                        exact ⟨by first | rfl | (simp [errW_none, errW_some] <;> rfl) | (simp only [← hji74]; first | rfl | (simp [errW_none, errW_some] <;> rfl)) | (simp [*, errW_none, errW_some] <;> rfl), by repeat (first | (with_reducible first | exact HB.out | apply below_alloc | apply pw_below_drewN | apply below_drew1 | refine below_set ?_ GE287.out) | exact HB.out)⟩
                                      · rw [if_neg c79] at H
                                        have c79b0 : decide ((rd (rd_L4 t316 x16_3) 0) ≤ (rd (rd_L4 t316 (ji74)) 0)) = false := decide_eq_false c79
                                        clear c79
                                        have H' := Aside0.mk H
                                        clear H
                                        obtain ⟨Ao81, co81, eo81⟩ := Kd.S_slice HO_14.out
                                        subst eo81
                                        have p320 : 0 ≤ (x16_3 : Int) := of_decide_eq_true (by first | (with_reducible assumption) | assumption)
                                        have q320 : x16_3 < (t316.length : Int) := of_decide_eq_true (by first | (with_reducible assumption) | assumption)
                                        obtain ⟨ad320, A320_0, c320_0, e320, hx320_0, hl320_0, hi320_0⟩ := at_L4 (Kd.S_reads' HO_14.out).2.2 x16_3 p320 q320
                                        cases e320
                                        obtain ⟨ce320, hce320, hMe320, hcc320⟩ := Kd.S_get HO_14.out [] x16_3 p320 (by first | exact q320 | exact of_decide_eq_true (by first | (with_reducible assumption) | assumption) | (have e_ := (Kd.S_reads' HO_14.out).1; omega))
                                        obtain ⟨ve320_0, rfl, ge320_0⟩ := hMe320
                                        have hv320_0 := hcc320 0 _ rfl
                                        rw [Nat.add_zero, show ((Kd.slice 2 (Kd.int .i64))).sz = 1 from rfl, Nat.mul_one] at hv320_0
                                        replace hv320_0 := Option.some.inj (hv320_0.symm.trans hx320_0)
                                        rw [hv320_0] at ge320_0
                                        have HL320_0 := Aside0.mk (show Kd.R (Kd.int .i64) 2 _ _ _ _ (rd_L4 t316 x16_3) from ge320_0)
                                        clear hv320_0 ge320_0
                                        clear hcc320 hce320
                                        have HR320_0 := Aside0.mk hi320_0
                                        have HC320_0 := Aside0.mk hl320_0
                                        clear hi320_0 hl320_0
                                        replace p320 := eq_true p320
                                        replace q320 := eq_true q320
                                        have p321 : 0 ≤ ((ji74) : Int) := of_decide_eq_true (by first | (with_reducible assumption) | assumption)
                                        have q321 : (ji74) < (t316.length : Int) := of_decide_eq_true (by first | (with_reducible assumption) | assumption)
                                        obtain ⟨ad321, A321_0, c321_0, e321, hx321_0, hl321_0, hi321_0⟩ := at_L4 (Kd.S_reads' HO_14.out).2.2 (ji74) p321 q321
                                        obtain rfl : ad320 = ad321 := (by injection e321)
                                        obtain ⟨ce321, hce321, hMe321, hcc321⟩ := Kd.S_get HO_14.out [] (ji74) p321 (by first | exact q321 | exact of_decide_eq_true (by first | (with_reducible assumption) | assumption) | (have e_ := (Kd.S_reads' HO_14.out).1; omega))
                                        obtain ⟨ve321_0, rfl, ge321_0⟩ := hMe321
                                        have hv321_0 := hcc321 0 _ rfl
                                        rw [Nat.add_zero, show ((Kd.slice 2 (Kd.int .i64))).sz = 1 from rfl, Nat.mul_one] at hv321_0
                                        replace hv321_0 := Option.some.inj (hv321_0.symm.trans hx321_0)
                                        rw [hv321_0] at ge321_0
                                        have HL321_0 := Aside0.mk (show Kd.R (Kd.int .i64) 2 _ _ _ _ (rd_L4 t316 (ji74)) from ge321_0)
                                        clear hv321_0 ge321_0
                                        clear hcc321 hce321
                                        have HR321_0 := Aside0.mk hi321_0
                                        have HC321_0 := Aside0.mk hl321_0
                                        clear hi321_0 hl321_0
                                        replace p321 := eq_true p321
                                        replace q321 := eq_true q321
                                        have p322 : 0 ≤ (0 : Int) := (by omega)
                                        have q322 : 0 < ((rd_L4 t316 (ji74)).length : Int) := of_decide_eq_true (by first | (with_reducible assumption) | assumption)
                                        obtain ⟨ad322, e322, hx322_0⟩ := Kd.at_int (by repeat (first | (with_reducible exact HR321_0.out) | (with_reducible refine Kd.C_alloc ?_ _) | (with_reducible refine Kd.C_drewN ?_ _) | (with_reducible refine Kd.C_drew ?_) | exact HR321_0.out)) 0 p322 q322
                                        cases e322
                                        have qi322 : (0 < (rd_L4 t316 (ji74)).length) = True := eq_true (by omega)
                                        (try rw [show ((0 : Int)).toNat = 0 from rfl] at hx322_0)
                                        (try rw [Addr.add_zero'] at hx322_0)
                                        replace p322 := eq_true p322
                                        replace q322 := eq_true q322
                                        have p323 : 0 ≤ (x16_3 : Int) := of_decide_eq_true (by first | (with_reducible assumption) | assumption)
                                        have q323 : x16_3 < (t316.length : Int) := of_decide_eq_true (by first | (with_reducible assumption) | assumption)
                                        obtain ⟨ad323, A323_0, c323_0, e323, hx323_0, hl323_0, hi323_0⟩ := at_L4 (Kd.S_reads' HO_14.out).2.2 x16_3 p323 q323
                                        obtain rfl : ad320 = ad323 := (by injection e323)
                                        obtain ⟨ce323, hce323, hMe323, hcc323⟩ := Kd.S_get HO_14.out [] x16_3 p323 (by first | exact q323 | exact of_decide_eq_true (by first | (with_reducible assumption) | assumption) | (have e_ := (Kd.S_reads' HO_14.out).1; omega))
                                        obtain ⟨ve323_0, rfl, ge323_0⟩ := hMe323
                                        have hv323_0 := hcc323 0 _ rfl
                                        rw [Nat.add_zero, show ((Kd.slice 2 (Kd.int .i64))).sz = 1 from rfl, Nat.mul_one] at hv323_0
                                        replace hv323_0 := Option.some.inj (hv323_0.symm.trans hx323_0)
                                        rw [hv323_0] at ge323_0
                                        have HL323_0 := Aside0.mk (show Kd.R (Kd.int .i64) 2 _ _ _ _ (rd_L4 t316 x16_3) from ge323_0)
                                        clear hv323_0 ge323_0
                                        clear hcc323 hce323
                                        have HR323_0 := Aside0.mk hi323_0
                                        have HC323_0 := Aside0.mk hl323_0
                                        clear hi323_0 hl323_0
                                        replace p323 := eq_true p323
                                        replace q323 := eq_true q323
                                        have ea_ := Option.some.inj (hx320_0.symm.trans hx323_0)
                                        injection ea_ with ea_ en_ ec_
                                        subst ea_
                                        subst ec_
                                        clear en_
                                        have p324 : 0 ≤ (0 : Int) := (by omega)
                                        have q324 : 0 < ((rd_L4 t316 x16_3).length : Int) := of_decide_eq_true (by first | (with_reducible assumption) | assumption)
                                        obtain ⟨ad324, e324, hx324_0⟩ := Kd.at_int (by repeat (first | (with_reducible exact HR323_0.out) | (with_reducible refine Kd.C_alloc ?_ _) | (with_reducible refine Kd.C_drewN ?_ _) | (with_reducible refine Kd.C_drew ?_) | exact HR323_0.out)) 0 p324 q324
                                        cases e324
                                        have qi324 : (0 < (rd_L4 t316 x16_3).length) = True := eq_true (by omega)
                                        (try rw [show ((0 : Int)).toNat = 0 from rfl] at hx324_0)
                                        (try rw [Addr.add_zero'] at hx324_0)
                                        replace p324 := eq_true p324
                                        replace q324 := eq_true q324
                                        go_wp2
                                        repeat (go_quiet (fail); try go_wp2)
                                        go_roundg k3
                                        case measure => have := HJ8.out; have := HK2.out; have := HK3.out; omega
                                        case rel => exact ⟨(wrap64 (x16_3 + 1)), (by first | rfl | (simp; done) | (simp [*]; done)), H', ⟨by have := HJ8.out; have := HK2.out; have := HK3.out; omega⟩, ⟨by (with_reducible repeat (first | apply Kd.S_alloc | apply Kd.S_drewN | apply Kd.S_drew)); exact HO_14.out⟩, ⟨by (with_reducible repeat (first | refine blk_drewN ?_ _ | refine blk_drew ?_ | refine blk_alloc ?_ _)); exact BK287.out⟩, ⟨by repeat (first | (with_reducible first | exact HB.out | apply below_alloc | apply pw_below_drewN | apply below_drew1 | refine below_set ?_ GE287.out) | exact HB.out)⟩⟩
                                    · rw [if_neg c78] at H
                                      exact absurd H (by simp)
                                  · rw [if_neg c77] at H
                                    exact absurd H (by simp)
                                · rw [if_neg c76] at H
                                  exact absurd H (by simp)
                              · rw [if_neg c75] at H
                                exact absurd H (by simp)
                            · rw [if_neg c73] at H
                              have c73b0 : decide (0 < x16_3) = false := decide_eq_false c73
                              clear c73
                              have H' := Aside0.mk H
                              clear H
                              obtain ⟨Ao82, co82, eo82⟩ := Kd.S_slice HO_14.out
                              subst eo82
                              have p320 : 0 ≤ (x16_3 : Int) := of_decide_eq_true (by first | (with_reducible assumption) | assumption)
                              have q320 : x16_3 < (t316.length : Int) := of_decide_eq_true (by first | (with_reducible assumption) | assumption)
                              obtain ⟨ad320, A320_0, c320_0, e320, hx320_0, hl320_0, hi320_0⟩ := at_L4 (Kd.S_reads' HO_14.out).2.2 x16_3 p320 q320
                              cases e320
                              obtain ⟨ce320, hce320, hMe320, hcc320⟩ := Kd.S_get HO_14.out [] x16_3 p320 (by first | exact q320 | exact of_decide_eq_true (by first | (with_reducible assumption) | assumption) | (have e_ := (Kd.S_reads' HO_14.out).1; omega))
                              obtain ⟨ve320_0, rfl, ge320_0⟩ := hMe320
                              have hv320_0 := hcc320 0 _ rfl
                              rw [Nat.add_zero, show ((Kd.slice 2 (Kd.int .i64))).sz = 1 from rfl, Nat.mul_one] at hv320_0
                              replace hv320_0 := Option.some.inj (hv320_0.symm.trans hx320_0)
                              rw [hv320_0] at ge320_0
                              have HL320_0 := Aside0.mk (show Kd.R (Kd.int .i64) 2 _ _ _ _ (rd_L4 t316 x16_3) from ge320_0)
                              clear hv320_0 ge320_0
                              clear hcc320 hce320
                              have HR320_0 := Aside0.mk hi320_0
                              have HC320_0 := Aside0.mk hl320_0
                              clear hi320_0 hl320_0
                              replace p320 := eq_true p320
                              replace q320 := eq_true q320
                              go_wp2
                              repeat (go_quiet (fail); try go_wp2)
                              go_roundg k3
                              case measure => have := HJ8.out; have := HK2.out; have := HK3.out; omega
                              case rel => exact ⟨(wrap64 (x16_3 + 1)), (by first | rfl | (simp; done) | (simp [*]; done)), H', ⟨by have := HJ8.out; have := HK2.out; have := HK3.out; omega⟩, ⟨by (with_reducible repeat (first | apply Kd.S_alloc | apply Kd.S_drewN | apply Kd.S_drew)); exact HO_14.out⟩, ⟨by (with_reducible repeat (first | refine blk_drewN ?_ _ | refine blk_drew ?_ | refine blk_alloc ?_ _)); exact BK287.out⟩, ⟨by repeat (first | (with_reducible first | exact HB.out | apply below_alloc | apply pw_below_drewN | apply below_drew1 | refine below_set ?_ GE287.out) | exact HB.out)⟩⟩
                          · rw [if_neg c72] at H
                            have c72b0 : (((rd_L4 t316 x16_3).length : Int) == 2) = false := beq_eq_false_iff_ne.mpr c72
                            have c72b1 : (((rd_L4 t316 x16_3).length : Int) != 2) = true := bne_iff_ne.mpr c72
                            obtain rfl := Option.some.inj H
                            obtain ⟨Ao83, co83, eo83⟩ := Kd.S_slice HO_14.out
                            subst eo83
                            have p320 : 0 ≤ (x16_3 : Int) := of_decide_eq_true (by first | (with_reducible assumption) | assumption)
                            have q320 : x16_3 < (t316.length : Int) := of_decide_eq_true (by first | (with_reducible assumption) | assumption)
                            obtain ⟨ad320, A320_0, c320_0, e320, hx320_0, hl320_0, hi320_0⟩ := at_L4 (Kd.S_reads' HO_14.out).2.2 x16_3 p320 q320
                            cases e320
                            obtain ⟨ce320, hce320, hMe320, hcc320⟩ := Kd.S_get HO_14.out [] x16_3 p320 (by first | exact q320 | exact of_decide_eq_true (by first | (with_reducible assumption) | assumption) | (have e_ := (Kd.S_reads' HO_14.out).1; omega))
                            obtain ⟨ve320_0, rfl, ge320_0⟩ := hMe320
                            have hv320_0 := hcc320 0 _ rfl
                            rw [Nat.add_zero, show ((Kd.slice 2 (Kd.int .i64))).sz = 1 from rfl, Nat.mul_one] at hv320_0
                            replace hv320_0 := Option.some.inj (hv320_0.symm.trans hx320_0)
                            rw [hv320_0] at ge320_0
                            have HL320_0 := Aside0.mk (show Kd.R (Kd.int .i64) 2 _ _ _ _ (rd_L4 t316 x16_3) from ge320_0)
                            clear hv320_0 ge320_0
                            clear hcc320 hce320
                            have HR320_0 := Aside0.mk hi320_0
                            have HC320_0 := Aside0.mk hl320_0
                            clear hi320_0 hl320_0
                            replace p320 := eq_true p320
                            replace q320 := eq_true q320
                            go_wp2
                            repeat (go_quiet (fail); try go_wp2)
                            go_ret
                            exact ⟨by first | rfl | (simp [errW_none, errW_some] <;> rfl) | (simp [*, errW_none, errW_some] <;> rfl), by repeat (first | (with_reducible first | exact HB.out | apply below_alloc | apply pw_below_drewN | apply below_drew1 | refine below_set ?_ GE287.out) | exact HB.out)⟩
                        · rw [if_neg c71] at H
                          exact absurd H (by simp)
                      · rw [if_neg c70] at H
                        have c70b0 : decide (x16_3 < (t316.length : Int)) = false := decide_eq_false c70
                        clear c70
                        obtain rfl := Option.some.inj H
                        obtain ⟨Ao84, co84, eo84⟩ := Kd.S_slice HO_14.out
                        subst eo84
                        go_wp2
                        repeat (go_quiet (fail); try go_wp2)
                        go_ret
                        exact ⟨by first | rfl | (simp [errW_none, errW_some] <;> rfl) | (simp [*, errW_none, errW_some] <;> rfl), by repeat (first | (with_reducible first | exact HB.out | apply below_alloc | apply pw_below_drewN | apply below_drew1 | refine below_set ?_ GE287.out) | exact HB.out)⟩
                · replace c67 := Bool.eq_false_iff.mpr c67
                  subst c67
                  have H1 : (some false) = some r := by rw [if_neg (show ¬ (false = true) by decide)] at H; exact H
                  clear H
                  have H := H1
                  clear H1
                  obtain rfl := Option.some.inj H
                  obtain ⟨Ao85, co85, eo85⟩ := Kd.S_slice HO_7.out
                  subst eo85
                  go_wp2_with (first | (go_at_call 69; (with_reducible refine (impl_PairsOf.calls k2 _ _ t288 0 t316 false _ ?side1 ?side2 A66.out).mono ?_); (case side1 => repeat (first | exact (Kd.R_reads' HO_6.out).2.2 | (with_reducible refine Kd.C_alloc ?_ _) | (with_reducible refine Kd.C_drewN ?_ _) | (with_reducible refine Kd.C_drew ?_))); (case side2 => exact (Kd.R_reads' HO_6.out).2.1); rintro e w86 ⟨v318, rfl, ho0, hb⟩; have n0_ := Aside0.mk (Kd.R_below (by (with_reducible repeat (first | apply Kd.R_alloc | apply Kd.R_drewN | apply Kd.R_drew)); exact HO_6.out) hb); have n1_ := Aside0.mk (Kd.S_elder' (by (with_reducible repeat (first | apply Kd.S_alloc | apply Kd.S_drewN | apply Kd.S_drew)); exact HO_7.out) (Kd.S_base ho0) hb); have n2_ := Aside0.mk (Kd.R_below (by (with_reducible repeat (first | apply Kd.R_alloc | apply Kd.R_drewN | apply Kd.R_drew)); exact HO_9.out) hb); have n3_ := Aside0.mk (Kd.S_lower (Kd.S_new' (Kd.S_new' ho0 (Kd.S_lt (by (with_reducible repeat (first | apply Kd.S_alloc | apply Kd.S_drewN | apply Kd.S_drew)); exact HO_7.out))) (Kd.R_lt (by (with_reducible repeat (first | apply Kd.R_alloc | apply Kd.R_drewN | apply Kd.R_drew)); exact HO_9.out))) (below_size (by repeat (first | (with_reducible first | exact HB.out | apply below_alloc | apply pw_below_drewN | apply below_drew1 | refine below_set ?_ GE287.out) | exact HB.out)))); have n4_ := Aside0.mk (blk_below (g := gb287) (o := .cells #[.int .i64 t283, .int .i64 t284, .int .i64 t285, .int .i64 t286] 62 (0, 0)) (by (with_reducible repeat (first | refine blk_drewN ?_ _ | refine blk_drew ?_ | refine blk_alloc ?_ _)); exact BK287.out) hb); have n5_ := Aside0.mk (below_step (by repeat (first | (with_reducible first | exact HB.out | apply below_alloc | apply pw_below_drewN | apply below_drew1 | refine below_set ?_ GE287.out) | exact HB.out)) hb); clear HO_6; clear HO_7; clear HO_9; clear BK287; clear HB; have HO_6 := n0_; have HO_7 := n1_; have HO_9 := n2_; have HO319 := n3_; have BK287 := n4_; have HB := n5_; clear n0_ n1_ n2_ n3_ n4_ n5_; (try clear hb); (try clear hb2); (try clear hk); (try clear hi); (try clear ho0)))
                  repeat (go_quiet (first | (go_at_call 69; (with_reducible refine (impl_PairsOf.calls k2 _ _ t288 0 t316 false _ ?side1 ?side2 A66.out).mono ?_); (case side1 => repeat (first | exact (Kd.R_reads' HO_6.out).2.2 | (with_reducible refine Kd.C_alloc ?_ _) | (with_reducible refine Kd.C_drewN ?_ _) | (with_reducible refine Kd.C_drew ?_))); (case side2 => exact (Kd.R_reads' HO_6.out).2.1); rintro e w86 ⟨v318, rfl, ho0, hb⟩; have n0_ := Aside0.mk (Kd.R_below (by (with_reducible repeat (first | apply Kd.R_alloc | apply Kd.R_drewN | apply Kd.R_drew)); exact HO_6.out) hb); have n1_ := Aside0.mk (Kd.S_elder' (by (with_reducible repeat (first | apply Kd.S_alloc | apply Kd.S_drewN | apply Kd.S_drew)); exact HO_7.out) (Kd.S_base ho0) hb); have n2_ := Aside0.mk (Kd.R_below (by (with_reducible repeat (first | apply Kd.R_alloc | apply Kd.R_drewN | apply Kd.R_drew)); exact HO_9.out) hb); have n3_ := Aside0.mk (Kd.S_lower (Kd.S_new' (Kd.S_new' ho0 (Kd.S_lt (by (with_reducible repeat (first | apply Kd.S_alloc | apply Kd.S_drewN | apply Kd.S_drew)); exact HO_7.out))) (Kd.R_lt (by (with_reducible repeat (first | apply Kd.R_alloc | apply Kd.R_drewN | apply Kd.R_drew)); exact HO_9.out))) (below_size (by repeat (first | (with_reducible first | exact HB.out | apply below_alloc | apply pw_below_drewN | apply below_drew1 | refine below_set ?_ GE287.out) | exact HB.out)))); have n4_ := Aside0.mk (blk_below (g := gb287) (o := .cells #[.int .i64 t283, .int .i64 t284, .int .i64 t285, .int .i64 t286] 62 (0, 0)) (by (with_reducible repeat (first | refine blk_drewN ?_ _ | refine blk_drew ?_ | refine blk_alloc ?_ _)); exact BK287.out) hb); have n5_ := Aside0.mk (below_step (by repeat (first | (with_reducible first | exact HB.out | apply below_alloc | apply pw_below_drewN | apply below_drew1 | refine below_set ?_ GE287.out) | exact HB.out)) hb); clear HO_6; clear HO_7; clear HO_9; clear BK287; clear HB; have HO_6 := n0_; have HO_7 := n1_; have HO_9 := n2_; have HO319 := n3_; have BK287 := n4_; have HB := n5_; clear n0_ n1_ n2_ n3_ n4_ n5_; (try clear hb); (try clear hb2); (try clear hk); (try clear hi); (try clear ho0))); try go_wp2_with (first | (go_at_call 69; (with_reducible refine (impl_PairsOf.calls k2 _ _ t288 0 t316 false _ ?side1 ?side2 A66.out).mono ?_); (case side1 => repeat (first | exact (Kd.R_reads' HO_6.out).2.2 | (with_reducible refine Kd.C_alloc ?_ _) | (with_reducible refine Kd.C_drewN ?_ _) | (with_reducible refine Kd.C_drew ?_))); (case side2 => exact (Kd.R_reads' HO_6.out).2.1); rintro e w86 ⟨v318, rfl, ho0, hb⟩; have n0_ := Aside0.mk (Kd.R_below (by (with_reducible repeat (first | apply Kd.R_alloc | apply Kd.R_drewN | apply Kd.R_drew)); exact HO_6.out) hb); have n1_ := Aside0.mk (Kd.S_elder' (by (with_reducible repeat (first | apply Kd.S_alloc | apply Kd.S_drewN | apply Kd.S_drew)); exact HO_7.out) (Kd.S_base ho0) hb); have n2_ := Aside0.mk (Kd.R_below (by (with_reducible repeat (first | apply Kd.R_alloc | apply Kd.R_drewN | apply Kd.R_drew)); exact HO_9.out) hb); have n3_ := Aside0.mk (Kd.S_lower (Kd.S_new' (Kd.S_new' ho0 (Kd.S_lt (by (with_reducible repeat (first | apply Kd.S_alloc | apply Kd.S_drewN | apply Kd.S_drew)); exact HO_7.out))) (Kd.R_lt (by (with_reducible repeat (first | apply Kd.R_alloc | apply Kd.R_drewN | apply Kd.R_drew)); exact HO_9.out))) (below_size (by repeat (first | (with_reducible first | exact HB.out | apply below_alloc | apply pw_below_drewN | apply below_drew1 | refine below_set ?_ GE287.out) | exact HB.out)))); have n4_ := Aside0.mk (blk_below (g := gb287) (o := .cells #[.int .i64 t283, .int .i64 t284, .int .i64 t285, .int .i64 t286] 62 (0, 0)) (by (with_reducible repeat (first | refine blk_drewN ?_ _ | refine blk_drew ?_ | refine blk_alloc ?_ _)); exact BK287.out) hb); have n5_ := Aside0.mk (below_step (by repeat (first | (with_reducible first | exact HB.out | apply below_alloc | apply pw_below_drewN | apply below_drew1 | refine below_set ?_ GE287.out) | exact HB.out)) hb); clear HO_6; clear HO_7; clear HO_9; clear BK287; clear HB; have HO_6 := n0_; have HO_7 := n1_; have HO_9 := n2_; have HO319 := n3_; have BK287 := n4_; have HB := n5_; clear n0_ n1_ n2_ n3_ n4_ n5_; (try clear hb); (try clear hb2); (try clear hk); (try clear hi); (try clear ho0))))
                  go_ret
                  exact ⟨by first | rfl | (simp [errW_none, errW_some] <;> rfl) | (simp [*, errW_none, errW_some] <;> rfl), by repeat (first | (with_reducible first | exact HB.out | apply below_alloc | apply pw_below_drewN | apply below_drew1 | refine below_set ?_ GE287.out) | exact HB.out)⟩

/-- THE ONE PURE STATEMENT of laws_FnGuessed: yours. -/
def laws_FnGuessed.Pure : Prop := ∀ (l0 : List Int) (l1 : List Int), l0.length ≤ maxLen → l0.length * 1 ≤ 140737488351232 → (∀ x ∈ l0, (Lit.int .u8 x).wf = true) → l1.length ≤ maxLen → l1.length * 1 ≤ 140737488351232 → (∀ x ∈ l1, (Lit.int .u8 x).wf = true) → ∃ k, laws_FnGuessed.f k l0 l1 = some true
theorem laws_FnGuessed.walk (P : laws_FnGuessed.Pure) (a0 : Option Addr) (len0 cap0 : Nat) (z0 : List Int) (a1 : Option Addr) (len1 cap1 : Nat) (z1 : List Int) (w : World) (w0 : (a0 = none ∧ len0 = 0 ∧ cap0 = 0 ∧ z0 = []) ∨ ∃ x, a0 = some x ∧ len0 ≤ cap0 ∧ cap0 ≤ maxLen ∧ z0.length = cap0 ∧ (∀ i, i < z0.length → w.cell? (x.add i) = some (.int .u8 (z0.getD i 0))) ∧ ∀ n ∈ z0, (Lit.int .u8 n).wf = true) (y0 : len0 * 1 ≤ 140737488351232) (w1 : (a1 = none ∧ len1 = 0 ∧ cap1 = 0 ∧ z1 = []) ∨ ∃ x, a1 = some x ∧ len1 ≤ cap1 ∧ cap1 ≤ maxLen ∧ z1.length = cap1 ∧ (∀ i, i < z1.length → w.cell? (x.add i) = some (.int .u8 (z1.getD i 0))) ∧ ∀ n ∈ z1, (Lit.int .u8 n).wf = true) (y1 : len1 * 1 ≤ 140737488351232) :
    Calls Try.prog 11 #[.slice a0 len0 cap0, .slice a1 len1 cap1] w fun e w' => e = .returned (.bool true) ∧ Below w.heap.size w w' := by
  obtain ⟨l0, rfl, hr0, hm0, hw0, hc0⟩ := ReadsInt.ofRowC w0
  obtain ⟨l1, rfl, hr1, hm1, hw1, hc1⟩ := ReadsInt.ofRowC w1
  obtain ⟨k, h⟩ := P l0 l1 hm0 y0 hw0 hm1 y1 hw1
  refine (laws_FnGuessed.calls k _ _ l0 _ _ l1 true w (Kd.C_of_reads (d := (0 : Int)) (h1 := fun _ => rfl) hr0) hc0 (Kd.C_of_reads (d := (0 : Int)) (h1 := fun _ => rfl) hr1) hc1 h).mono ?_
  rintro e w' ⟨rfl, hd⟩
  exact ⟨rfl, hd⟩

end Go.Proofs.Ytibdelappoefeaa.PFnGuessed
