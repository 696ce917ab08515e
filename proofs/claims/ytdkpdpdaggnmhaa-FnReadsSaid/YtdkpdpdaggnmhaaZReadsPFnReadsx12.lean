import Derived.Test.YtdkpdpdaggnmhaaZReadsPFnReadsx0
import Derived.Test.YtdkpdpdaggnmhaaZReadsPFnReadsx1
import Derived.Test.YtdkpdpdaggnmhaaZReadsPFnReadsx4
import Derived.Test.YtdkpdpdaggnmhaaZReadsPFnReadsx11
namespace Go.Proofs.Ytdkpdpdaggnmhaa.PFnReads
open Go.RowKit Go.Proofs.YtdkpdpdaggnmhaaW.PrintWords Go.Proofs.YtdkpdpdaggnmhaaW.PrintLast Go.Proofs.YtdkpdpdaggnmhaaW.PrintMore
attribute [local go_sem] max2_int min2_int max_two min_two max_three min_three max_four min_four   -- for this text's walks alone
set_option linter.unusedVariables false
set_option linter.unusedSimpArgs false
mutual
def laws_FnReads.j0 : Nat → List (S37) → List Int → List Int → List Int → List Int → Bool → Option (Bool)
  | 0, _, _, _, _, _, _ => none
  | k + 1, x6, x7, x9, x11, x13, x65 => if x65 = true then (some false) else (laws_FnReads.l0 k x6 x7 x9 x11 x13 0)
def laws_FnReads.l0 : Nat → List (S37) → List Int → List Int → List Int → List Int → Int → Option (Bool)
  | 0, _, _, _, _, _, _ => none
  | k + 1, x6, x7, x9, x11, x13, x15 => if x15 < (x13.length : Int) then (laws_FnReads.l1 k x6 x7 x9 x11 x13 x15 0 0) else ((laws_b10Nums.f k x7 x9).bind fun t472 => (if t472 = true then ((laws_b10Nums.f k x11 x13).bind fun t473 => (some t473)) else (some false)))
def laws_FnReads.l1 : Nat → List (S37) → List Int → List Int → List Int → List Int → Int → Int → Int → Option (Bool)
  | 0, _, _, _, _, _, _, _, _ => none
  | k + 1, x6, x7, x9, x11, x13, x15, x16, x17 => if x17 < (x6.length : Int) then (if 0 ≤ x17 then (if ((rd_T37 x6 x17).f0) = 1 then (if ((rd_T37 x6 x17).f1) = x15 then (laws_FnReads.l1 k x6 x7 x9 x11 x13 x15 (wrap64 (x17 + 1)) (wrap64 (x17 + 1))) else (laws_FnReads.l1 k x6 x7 x9 x11 x13 x15 x16 (wrap64 (x17 + 1)))) else (laws_FnReads.l1 k x6 x7 x9 x11 x13 x15 x16 (wrap64 (x17 + 1)))) else (none)) else (if 0 ≤ x15 then (if x15 < (x13.length : Int) then (if (rd x13 x15) = x16 then (laws_FnReads.l0 k x6 x7 x9 x11 x13 (wrap64 (x15 + 1))) else (some false)) else (none)) else (none))
end
def laws_FnReads.f (k : Nat) (l0 : List Int) (l1 : List Int) : Option (Bool) := (laws_b10Long.f l0 l1).bind fun t443 => (if t443 = true then (some true) else ((spec_B10Cache.f k l0).bind fun bt444 => ((spec_B10Trace.f k l1).bind fun t453 => ((impl_CacheReads.f bt444.1 bt444.2.1 bt444.2.2.1 bt444.2.2.2 t453).bind fun bt456 => ((impl_PlainReads.f k t453).bind fun bt460 => ((impl_CacheMemory.f bt444.1 bt444.2.1 bt444.2.2.1 bt444.2.2.2 t453).bind fun bt464 => ((impl_PlainMemory.f k t453).bind fun bt468 => (if bt456.2 = true then (if bt460.2 = true then (if bt464.2 = true then (if bt468.2 = true then (laws_FnReads.j0 k t453 bt456.1 bt460.1 bt464.1 bt468.1 ((bt468.1.length : Int) != 64)) else (laws_FnReads.j0 k t453 bt456.1 bt460.1 bt464.1 bt468.1 true)) else (laws_FnReads.j0 k t453 bt456.1 bt460.1 bt464.1 bt468.1 true)) else (laws_FnReads.j0 k t453 bt456.1 bt460.1 bt464.1 bt468.1 true)) else (laws_FnReads.j0 k t453 bt456.1 bt460.1 bt464.1 bt468.1 true)))))))))
theorem laws_FnReads.mono_l : ∀ k, (∀ y0 y1 y2 y3 y4 y5, LeO (laws_FnReads.j0 k y0 y1 y2 y3 y4 y5) (laws_FnReads.j0 (k + 1) y0 y1 y2 y3 y4 y5)) ∧ (∀ y0 y1 y2 y3 y4 y5, LeO (laws_FnReads.l0 k y0 y1 y2 y3 y4 y5) (laws_FnReads.l0 (k + 1) y0 y1 y2 y3 y4 y5)) ∧ (∀ y0 y1 y2 y3 y4 y5 y6 y7, LeO (laws_FnReads.l1 k y0 y1 y2 y3 y4 y5 y6 y7) (laws_FnReads.l1 (k + 1) y0 y1 y2 y3 y4 y5 y6 y7))
  | 0 => ⟨fun _ _ _ _ _ _ r h => by simp [laws_FnReads.j0] at h, fun _ _ _ _ _ _ r h => by simp [laws_FnReads.l0] at h, fun _ _ _ _ _ _ _ _ r h => by simp [laws_FnReads.l1] at h⟩
  | k + 1 => by
    obtain ⟨ih0, ih1, ih2⟩ := laws_FnReads.mono_l k
    refine ⟨?_, ?_, ?_⟩
    · intro y0 y1 y2 y3 y4 y5
      unfold laws_FnReads.j0
      repeat' first
      | (with_reducible exact ih0 _ _ _ _ _ _)
      | (with_reducible exact ih1 _ _ _ _ _ _)
      | (with_reducible exact ih2 _ _ _ _ _ _ _ _)
      | (with_reducible exact impl_PlainMemory.mono _ _)
      | (with_reducible exact impl_PlainReads.mono _ _)
      | (with_reducible exact laws_b10Nums.mono _ _ _)
      | (with_reducible exact spec_B10Cache.mono _ _)
      | (with_reducible exact spec_B10Trace.mono _ _)
      | (with_reducible exact LeO.refl _)
      | (with_reducible exact LeO.none _)
      | (with_reducible refine LeO.ite ?_ ?_)
      | (with_reducible refine LeO.bind ?_ (fun _ => ?_))
      | exact ih0 _ _ _ _ _ _
      | exact ih1 _ _ _ _ _ _
      | exact ih2 _ _ _ _ _ _ _ _
      | exact impl_PlainMemory.mono _ _
      | exact impl_PlainReads.mono _ _
      | exact laws_b10Nums.mono _ _ _
      | exact spec_B10Cache.mono _ _
      | exact spec_B10Trace.mono _ _
      | exact LeO.none _
      | refine LeO.ite ?_ ?_
      | refine LeO.bind ?_ (fun _ => ?_)
    · intro y0 y1 y2 y3 y4 y5
      unfold laws_FnReads.l0
      repeat' first
      | (with_reducible exact ih0 _ _ _ _ _ _)
      | (with_reducible exact ih1 _ _ _ _ _ _)
      | (with_reducible exact ih2 _ _ _ _ _ _ _ _)
      | (with_reducible exact impl_PlainMemory.mono _ _)
      | (with_reducible exact impl_PlainReads.mono _ _)
      | (with_reducible exact laws_b10Nums.mono _ _ _)
      | (with_reducible exact spec_B10Cache.mono _ _)
      | (with_reducible exact spec_B10Trace.mono _ _)
      | (with_reducible exact LeO.refl _)
      | (with_reducible exact LeO.none _)
      | (with_reducible refine LeO.ite ?_ ?_)
      | (with_reducible refine LeO.bind ?_ (fun _ => ?_))
      | exact ih0 _ _ _ _ _ _
      | exact ih1 _ _ _ _ _ _
      | exact ih2 _ _ _ _ _ _ _ _
      | exact impl_PlainMemory.mono _ _
      | exact impl_PlainReads.mono _ _
      | exact laws_b10Nums.mono _ _ _
      | exact spec_B10Cache.mono _ _
      | exact spec_B10Trace.mono _ _
      | exact LeO.none _
      | refine LeO.ite ?_ ?_
      | refine LeO.bind ?_ (fun _ => ?_)
    · intro y0 y1 y2 y3 y4 y5 y6 y7
      unfold laws_FnReads.l1
      repeat' first
      | (with_reducible exact ih0 _ _ _ _ _ _)
      | (with_reducible exact ih1 _ _ _ _ _ _)
      | (with_reducible exact ih2 _ _ _ _ _ _ _ _)
      | (with_reducible exact impl_PlainMemory.mono _ _)
      | (with_reducible exact impl_PlainReads.mono _ _)
      | (with_reducible exact laws_b10Nums.mono _ _ _)
      | (with_reducible exact spec_B10Cache.mono _ _)
      | (with_reducible exact spec_B10Trace.mono _ _)
      | (with_reducible exact LeO.refl _)
      | (with_reducible exact LeO.none _)
      | (with_reducible refine LeO.ite ?_ ?_)
      | (with_reducible refine LeO.bind ?_ (fun _ => ?_))
      | exact ih0 _ _ _ _ _ _
      | exact ih1 _ _ _ _ _ _
      | exact ih2 _ _ _ _ _ _ _ _
      | exact impl_PlainMemory.mono _ _
      | exact impl_PlainReads.mono _ _
      | exact laws_b10Nums.mono _ _ _
      | exact spec_B10Cache.mono _ _
      | exact spec_B10Trace.mono _ _
      | exact LeO.none _
      | refine LeO.ite ?_ ?_
      | refine LeO.bind ?_ (fun _ => ?_)
theorem laws_FnReads.mono : ∀ a0 a1 k, LeO (laws_FnReads.f k a0 a1) (laws_FnReads.f (k + 1) a0 a1) := by
  intro a0 a1 k
  obtain ⟨ih0, ih1, ih2⟩ := laws_FnReads.mono_l k
  unfold laws_FnReads.f
  repeat' first
      | (with_reducible exact ih0 _ _ _ _ _ _)
      | (with_reducible exact ih1 _ _ _ _ _ _)
      | (with_reducible exact ih2 _ _ _ _ _ _ _ _)
      | (with_reducible exact impl_PlainMemory.mono _ _)
      | (with_reducible exact impl_PlainReads.mono _ _)
      | (with_reducible exact laws_b10Nums.mono _ _ _)
      | (with_reducible exact spec_B10Cache.mono _ _)
      | (with_reducible exact spec_B10Trace.mono _ _)
      | (with_reducible exact LeO.refl _)
      | (with_reducible exact LeO.none _)
      | (with_reducible refine LeO.ite ?_ ?_)
      | (with_reducible refine LeO.bind ?_ (fun _ => ?_))
      | exact ih0 _ _ _ _ _ _
      | exact ih1 _ _ _ _ _ _
      | exact ih2 _ _ _ _ _ _ _ _
      | exact impl_PlainMemory.mono _ _
      | exact impl_PlainReads.mono _ _
      | exact laws_b10Nums.mono _ _ _
      | exact spec_B10Cache.mono _ _
      | exact spec_B10Trace.mono _ _
      | exact LeO.none _
      | refine LeO.ite ?_ ?_
      | refine LeO.bind ?_ (fun _ => ?_)
set_option maxHeartbeats 8000000 in
set_option maxRecDepth 100000 in
theorem laws_FnReads.calls (k : Nat) (A0 : Option Addr) (c0 : Nat) (l0 : List Int) (A1 : Option Addr) (c1 : Nat) (l1 : List Int) (r : Bool) (w : World) (hr0 : Kd.C (Kd.int .u8) w A0 l0.length l0) (hc0 : l0.length ≤ c0) (hr1 : Kd.C (Kd.int .u8) w A1 l1.length l1) (hc1 : l1.length ≤ c1) (h : laws_FnReads.f k l0 l1 = some r) :
    Calls Try.prog 3 #[.slice A0 l0.length c0, .slice A1 l1.length c1] w fun e w' => e = .returned (.bool r) ∧ Below w.heap.size w w' := by
  have hu29 := Try.underlying29
  have HR0 := Aside0.mk hr0
  have HC0 := Aside0.mk hc0
  clear hr0 hc0
  have HR1 := Aside0.mk hr1
  have HC1 := Aside0.mk hc1
  clear hr1 hc1
  have HB := Aside0.mk (Below.refl w.heap.size w)
  have H : ((laws_b10Long.f l0 l1).bind fun t443 => (if t443 = true then (some true) else ((spec_B10Cache.f k l0).bind fun bt444 => ((spec_B10Trace.f k l1).bind fun t453 => ((impl_CacheReads.f bt444.1 bt444.2.1 bt444.2.2.1 bt444.2.2.2 t453).bind fun bt456 => ((impl_PlainReads.f k t453).bind fun bt460 => ((impl_CacheMemory.f bt444.1 bt444.2.1 bt444.2.2.1 bt444.2.2.2 t453).bind fun bt464 => ((impl_PlainMemory.f k t453).bind fun bt468 => (if bt456.2 = true then (if bt460.2 = true then (if bt464.2 = true then (if bt468.2 = true then (laws_FnReads.j0 k t453 bt456.1 bt460.1 bt464.1 bt468.1 ((bt468.1.length : Int) != 64)) else (laws_FnReads.j0 k t453 bt456.1 bt460.1 bt464.1 bt468.1 true)) else (laws_FnReads.j0 k t453 bt456.1 bt460.1 bt464.1 bt468.1 true)) else (laws_FnReads.j0 k t453 bt456.1 bt460.1 bt464.1 bt468.1 true)) else (laws_FnReads.j0 k t453 bt456.1 bt460.1 bt464.1 bt468.1 true)))))))))) = some r := h
  clear h
  replace H := Option.bind_eq_some_iff.mp H
  obtain ⟨t443, A30, H⟩ := H
  replace H : (if t443 = true then (some true) else ((spec_B10Cache.f k l0).bind fun bt444 => ((spec_B10Trace.f k l1).bind fun t453 => ((impl_CacheReads.f bt444.1 bt444.2.1 bt444.2.2.1 bt444.2.2.2 t453).bind fun bt456 => ((impl_PlainReads.f k t453).bind fun bt460 => ((impl_CacheMemory.f bt444.1 bt444.2.1 bt444.2.2.1 bt444.2.2.2 t453).bind fun bt464 => ((impl_PlainMemory.f k t453).bind fun bt468 => (if bt456.2 = true then (if bt460.2 = true then (if bt464.2 = true then (if bt468.2 = true then (laws_FnReads.j0 k t453 bt456.1 bt460.1 bt464.1 bt468.1 ((bt468.1.length : Int) != 64)) else (laws_FnReads.j0 k t453 bt456.1 bt460.1 bt464.1 bt468.1 true)) else (laws_FnReads.j0 k t453 bt456.1 bt460.1 bt464.1 bt468.1 true)) else (laws_FnReads.j0 k t453 bt456.1 bt460.1 bt464.1 bt468.1 true)) else (laws_FnReads.j0 k t453 bt456.1 bt460.1 bt464.1 bt468.1 true))))))))) = some r := H
  have A3 := Aside0.mk A30
  clear A30
  by_cases c4 : t443 = true
  · subst c4
    have H1 : (some true) = some r := by rw [if_pos rfl] at H; exact H
    clear H
    have H := H1
    clear H1
    obtain rfl := Option.some.inj H
    go_enter Try.func3, Try.ntmps3
    go_wp2_with (first | ((with_reducible refine gate_callee (f := 5) rfl ?_); refine goesL_ (some 20) rfl rfl Try.func5 (by kernel_rfl) rfl #[.slice A0 l0.length c0, .slice A1 l1.length c1] rfl (by (try simp only [List.map_toArray, List.map_cons, List.map_nil]); first | done | rfl | (simp only [List.length_drop, List.length_take]; rfl)) ?_; (with_reducible refine (laws_b10Long.calls _ _ l0 _ _ l1 true _ ?side1 ?side2 ?side3 ?side4 A3.out).mono ?_); (case side1 => repeat (first | exact HR0.out | (with_reducible refine Kd.C_alloc ?_ _) | (with_reducible refine Kd.C_drewN ?_ _) | (with_reducible refine Kd.C_drew ?_))); (case side2 => exact HC0.out); (case side3 => repeat (first | exact HR1.out | (with_reducible refine Kd.C_alloc ?_ _) | (with_reducible refine Kd.C_drewN ?_ _) | (with_reducible refine Kd.C_drew ?_))); (case side4 => exact HC1.out); rintro e w' ⟨rfl, ⟨nd, rfl⟩⟩; refine ⟨_, rfl, ?_⟩))
    go_ret
    exact ⟨by first | rfl | (simp [errW_none, errW_some] <;> rfl) | (simp [*, errW_none, errW_some] <;> rfl), by repeat (first | (with_reducible first | exact HB.out | apply below_alloc | apply pw_below_drewN | apply below_drew1) | exact HB.out)⟩
  · replace c4 := Bool.eq_false_iff.mpr c4
    subst c4
    have H1 : ((spec_B10Cache.f k l0).bind fun bt444 => ((spec_B10Trace.f k l1).bind fun t453 => ((impl_CacheReads.f bt444.1 bt444.2.1 bt444.2.2.1 bt444.2.2.2 t453).bind fun bt456 => ((impl_PlainReads.f k t453).bind fun bt460 => ((impl_CacheMemory.f bt444.1 bt444.2.1 bt444.2.2.1 bt444.2.2.2 t453).bind fun bt464 => ((impl_PlainMemory.f k t453).bind fun bt468 => (if bt456.2 = true then (if bt460.2 = true then (if bt464.2 = true then (if bt468.2 = true then (laws_FnReads.j0 k t453 bt456.1 bt460.1 bt464.1 bt468.1 ((bt468.1.length : Int) != 64)) else (laws_FnReads.j0 k t453 bt456.1 bt460.1 bt464.1 bt468.1 true)) else (laws_FnReads.j0 k t453 bt456.1 bt460.1 bt464.1 bt468.1 true)) else (laws_FnReads.j0 k t453 bt456.1 bt460.1 bt464.1 bt468.1 true)) else (laws_FnReads.j0 k t453 bt456.1 bt460.1 bt464.1 bt468.1 true)))))))) = some r := by rw [if_neg (show ¬ (false = true) by decide)] at H; exact H
    clear H
    have H := H1
    clear H1
    replace H := Option.bind_eq_some_iff.mp H
    obtain ⟨⟨t444, t447, t450, t451⟩, A50, H⟩ := H
    replace H : ((spec_B10Trace.f k l1).bind fun t453 => ((impl_CacheReads.f t444 t447 t450 t451 t453).bind fun bt456 => ((impl_PlainReads.f k t453).bind fun bt460 => ((impl_CacheMemory.f t444 t447 t450 t451 t453).bind fun bt464 => ((impl_PlainMemory.f k t453).bind fun bt468 => (if bt456.2 = true then (if bt460.2 = true then (if bt464.2 = true then (if bt468.2 = true then (laws_FnReads.j0 k t453 bt456.1 bt460.1 bt464.1 bt468.1 ((bt468.1.length : Int) != 64)) else (laws_FnReads.j0 k t453 bt456.1 bt460.1 bt464.1 bt468.1 true)) else (laws_FnReads.j0 k t453 bt456.1 bt460.1 bt464.1 bt468.1 true)) else (laws_FnReads.j0 k t453 bt456.1 bt460.1 bt464.1 bt468.1 true)) else (laws_FnReads.j0 k t453 bt456.1 bt460.1 bt464.1 bt468.1 true))))))) = some r := H
    have A5 := Aside0.mk A50
    clear A50
    replace H := Option.bind_eq_some_iff.mp H
    obtain ⟨t453, A60, H⟩ := H
    replace H : ((impl_CacheReads.f t444 t447 t450 t451 t453).bind fun bt456 => ((impl_PlainReads.f k t453).bind fun bt460 => ((impl_CacheMemory.f t444 t447 t450 t451 t453).bind fun bt464 => ((impl_PlainMemory.f k t453).bind fun bt468 => (if bt456.2 = true then (if bt460.2 = true then (if bt464.2 = true then (if bt468.2 = true then (laws_FnReads.j0 k t453 bt456.1 bt460.1 bt464.1 bt468.1 ((bt468.1.length : Int) != 64)) else (laws_FnReads.j0 k t453 bt456.1 bt460.1 bt464.1 bt468.1 true)) else (laws_FnReads.j0 k t453 bt456.1 bt460.1 bt464.1 bt468.1 true)) else (laws_FnReads.j0 k t453 bt456.1 bt460.1 bt464.1 bt468.1 true)) else (laws_FnReads.j0 k t453 bt456.1 bt460.1 bt464.1 bt468.1 true)))))) = some r := H
    have A6 := Aside0.mk A60
    clear A60
    replace H := Option.bind_eq_some_iff.mp H
    obtain ⟨⟨t456, t459⟩, A70, H⟩ := H
    replace H : ((impl_PlainReads.f k t453).bind fun bt460 => ((impl_CacheMemory.f t444 t447 t450 t451 t453).bind fun bt464 => ((impl_PlainMemory.f k t453).bind fun bt468 => (if t459 = true then (if bt460.2 = true then (if bt464.2 = true then (if bt468.2 = true then (laws_FnReads.j0 k t453 t456 bt460.1 bt464.1 bt468.1 ((bt468.1.length : Int) != 64)) else (laws_FnReads.j0 k t453 t456 bt460.1 bt464.1 bt468.1 true)) else (laws_FnReads.j0 k t453 t456 bt460.1 bt464.1 bt468.1 true)) else (laws_FnReads.j0 k t453 t456 bt460.1 bt464.1 bt468.1 true)) else (laws_FnReads.j0 k t453 t456 bt460.1 bt464.1 bt468.1 true))))) = some r := H
    have A7 := Aside0.mk A70
    clear A70
    replace H := Option.bind_eq_some_iff.mp H
    obtain ⟨⟨t460, t461⟩, A80, H⟩ := H
    replace H : ((impl_CacheMemory.f t444 t447 t450 t451 t453).bind fun bt464 => ((impl_PlainMemory.f k t453).bind fun bt468 => (if t459 = true then (if t461 = true then (if bt464.2 = true then (if bt468.2 = true then (laws_FnReads.j0 k t453 t456 t460 bt464.1 bt468.1 ((bt468.1.length : Int) != 64)) else (laws_FnReads.j0 k t453 t456 t460 bt464.1 bt468.1 true)) else (laws_FnReads.j0 k t453 t456 t460 bt464.1 bt468.1 true)) else (laws_FnReads.j0 k t453 t456 t460 bt464.1 bt468.1 true)) else (laws_FnReads.j0 k t453 t456 t460 bt464.1 bt468.1 true)))) = some r := H
    have A8 := Aside0.mk A80
    clear A80
    replace H := Option.bind_eq_some_iff.mp H
    obtain ⟨⟨t464, t467⟩, A90, H⟩ := H
    replace H : ((impl_PlainMemory.f k t453).bind fun bt468 => (if t459 = true then (if t461 = true then (if t467 = true then (if bt468.2 = true then (laws_FnReads.j0 k t453 t456 t460 t464 bt468.1 ((bt468.1.length : Int) != 64)) else (laws_FnReads.j0 k t453 t456 t460 t464 bt468.1 true)) else (laws_FnReads.j0 k t453 t456 t460 t464 bt468.1 true)) else (laws_FnReads.j0 k t453 t456 t460 t464 bt468.1 true)) else (laws_FnReads.j0 k t453 t456 t460 t464 bt468.1 true))) = some r := H
    have A9 := Aside0.mk A90
    clear A90
    replace H := Option.bind_eq_some_iff.mp H
    obtain ⟨⟨t468, t469⟩, A100, H⟩ := H
    replace H : (if t459 = true then (if t461 = true then (if t467 = true then (if t469 = true then (laws_FnReads.j0 k t453 t456 t460 t464 t468 ((t468.length : Int) != 64)) else (laws_FnReads.j0 k t453 t456 t460 t464 t468 true)) else (laws_FnReads.j0 k t453 t456 t460 t464 t468 true)) else (laws_FnReads.j0 k t453 t456 t460 t464 t468 true)) else (laws_FnReads.j0 k t453 t456 t460 t464 t468 true)) = some r := H
    have A10 := Aside0.mk A100
    clear A100
    have HC11 := Aside0.mk H
    clear H
    go_enter Try.func3, Try.ntmps3
    go_upto_region 9 with (first | ((with_reducible refine gate_callee (f := 5) rfl ?_); refine goesL_ (some 20) rfl rfl Try.func5 (by kernel_rfl) rfl #[.slice A0 l0.length c0, .slice A1 l1.length c1] rfl (by (try simp only [List.map_toArray, List.map_cons, List.map_nil]); first | done | rfl | (simp only [List.length_drop, List.length_take]; rfl)) ?_; (with_reducible refine (laws_b10Long.calls _ _ l0 _ _ l1 false _ ?side1 ?side2 ?side3 ?side4 A3.out).mono ?_); (case side1 => repeat (first | exact HR0.out | (with_reducible refine Kd.C_alloc ?_ _) | (with_reducible refine Kd.C_drewN ?_ _) | (with_reducible refine Kd.C_drew ?_))); (case side2 => exact HC0.out); (case side3 => repeat (first | exact HR1.out | (with_reducible refine Kd.C_alloc ?_ _) | (with_reducible refine Kd.C_drewN ?_ _) | (with_reducible refine Kd.C_drew ?_))); (case side4 => exact HC1.out); rintro e w' ⟨rfl, ⟨nd, rfl⟩⟩; refine ⟨_, rfl, ?_⟩) | ((with_reducible refine gate_callee (f := 6) rfl ?_); refine goesL_ (some 22) rfl rfl Try.func6 (by kernel_rfl) rfl #[.slice A0 l0.length c0] rfl (by (try simp only [List.map_toArray, List.map_cons, List.map_nil]); first | done | rfl | (simp only [List.length_drop, List.length_take]; rfl)) ?_; (with_reducible refine (spec_B10Cache.calls k _ _ l0 t444 t447 t450 t451 _ ?side1 ?side2 A5.out).mono ?_); (case side1 => repeat (first | exact HR0.out | (with_reducible refine Kd.C_alloc ?_ _) | (with_reducible refine Kd.C_drewN ?_ _) | (with_reducible refine Kd.C_drew ?_))); (case side2 => exact HC0.out); rintro e w12 ⟨v445, v448, rfl, ho0, ho1, hb⟩; refine ⟨_, rfl, ?_⟩; have n0_ := Aside0.mk (Kd.N_lower (Kd.N_mono (ok' := fun k_ => some k_ ≠ (v448 : Value).ownBlock) ho0 (fun k_ hk_ => hk_.2)) (below_size (by repeat (first | (with_reducible first | exact HB.out | apply below_alloc | apply pw_below_drewN | apply below_drew1) | exact HB.out)))); have n1_ := Aside0.mk (Kd.R_lower (Kd.R_mono (ok' := fun k_ => True) ho1 (fun _ hk_ => trivial)) (below_size (by repeat (first | (with_reducible first | exact HB.out | apply below_alloc | apply pw_below_drewN | apply below_drew1) | exact HB.out)))); have n2_ := Aside0.mk (below_step (by repeat (first | (with_reducible first | exact HB.out | apply below_alloc | apply pw_below_drewN | apply below_drew1) | exact HB.out)) hb); clear HB; have HO446 := n0_; have HO449 := n1_; have HB := n2_; clear n0_ n1_ n2_; (try clear hb); (try clear hb2); (try clear hk); (try clear hi); (try clear ho0); (try clear ho1)) | ((with_reducible refine gate_dst (N := 5) rfl ?_); (try (refine gate_guard (by rfl) ?_; dsimp only)); refine box_event ?hg (N := 5) ?hd (cs := #[.slice none 0 0, .slice none 0 0, .bool false, .bool false]) (t := 29) ?hr ?_; (case hd => rfl); (case hg => rfl); (case hr => first | (go_simp; done) | (go_simp; rfl)); intro gb452 hg w13 hbox hb; have n0_ := Aside0.mk (Kd.N_below (Kd.N_elderB (by (with_reducible repeat (first | apply Kd.N_alloc | apply Kd.N_drewN | apply Kd.N_drew)); exact HO446.out) gb452 (Nat.le_of_eq hg.symm)) hb); have n1_ := Aside0.mk (Kd.R_below (by (with_reducible repeat (first | apply Kd.R_alloc | apply Kd.R_drewN | apply Kd.R_drew)); exact HO449.out) hb); have n2_ := Aside0.mk (below_step (by repeat (first | (with_reducible first | exact HB.out | apply below_alloc | apply pw_below_drewN | apply below_drew1) | exact HB.out)) hb); have n3_ := Aside0.mk (hbox); have n4_ := Aside0.mk ((by rw [hg]; exact (below_size (by repeat (first | (with_reducible first | exact HB.out | apply below_alloc | apply pw_below_drewN | apply below_drew1) | exact HB.out))) : w.heap.size ≤ gb452)); have n5_ := Aside0.mk ((by rw [hg]; exact (below_size (by repeat (first | (with_reducible first | exact HB.out | apply below_alloc | apply pw_below_drewN | apply below_drew1) | exact HB.out))) : w.heap.size ≤ gb452)); clear HO446; clear HO449; clear HB; have HO446 := n0_; have HO449 := n1_; have HB := n2_; have BK452 := n3_; have GW452 := n4_; have GE452 := n5_; clear n0_ n1_ n2_ n3_ n4_ n5_; clear hb hbox hg; obtain ⟨Ao14, co14, eo14⟩ := Kd.N_slice HO446.out; subst eo14; have hcz15_0 : w13.cell? ⟨gb452, 0, none⟩ = some (.slice none 0 0) := (blk_cell BK452.out 0).trans rfl; have hcz15_1 : w13.cell? ⟨gb452, 1, none⟩ = some (.slice none 0 0) := (blk_cell BK452.out 1).trans rfl; have hcz15_2 : w13.cell? ⟨gb452, 2, none⟩ = some (.bool false) := (blk_cell BK452.out 2).trans rfl; have hcz15_3 : w13.cell? ⟨gb452, 3, none⟩ = some (.bool false) := (blk_cell BK452.out 3).trans rfl; have hfz15_0 := blk_frozen BK452.out 0; have hfz15_1 := blk_frozen BK452.out 1; have hfz15_2 := blk_frozen BK452.out 2; have hfz15_3 := blk_frozen BK452.out 3; obtain ⟨Ao16, co16, eo16⟩ := Kd.R_slice HO449.out; subst eo16) | ((with_reducible refine gate_callee (f := 7) rfl ?_); refine goesL_ (some 24) rfl rfl Try.func7 (by kernel_rfl) rfl #[.slice A1 l1.length c1] rfl (by (try simp only [List.map_toArray, List.map_cons, List.map_nil]); first | done | rfl | (simp only [List.length_drop, List.length_take]; rfl)) ?_; (with_reducible refine (spec_B10Trace.calls k _ _ l1 t453 _ ?side1 ?side2 A6.out).mono ?_); (case side1 => exact Kd.C_below HR1.out (by repeat (first | (with_reducible first | exact HB.out | apply below_alloc | apply pw_below_drewN | apply below_drew1 | refine below_set ?_ GE452.out) | exact HB.out))); (case side2 => exact HC1.out); rintro e w17 ⟨v454, rfl, ho0, hb⟩; refine ⟨_, rfl, ?_⟩; have n0_ := Aside0.mk (Kd.N_elder' (by (with_reducible repeat (first | apply Kd.N_alloc | apply Kd.N_drewN | apply Kd.N_drew)); exact (Kd.N_mono (Kd.N_far (p := ⟨gb452, 3, none⟩) (Kd.N_far (p := ⟨gb452, 2, none⟩) (Kd.N_far (p := ⟨gb452, 1, none⟩) (Kd.N_far (p := ⟨gb452, 0, none⟩) (Kd.N_mono HO446.out (fun k_ hk => (⟨hk, hk.2⟩ : _ ∧ k_ ≠ gb452))) (fun _ hk => hk.2) (.slice Ao14 t444.length co14)) (fun _ hk => hk.2) (.slice Ao16 t447.length co16)) (fun _ hk => hk.2) (.bool t450)) (fun _ hk => hk.2) (.bool t451)) (fun _ h_ => h_.1))) (Kd.R_base ho0) hb); have n1_ := Aside0.mk (Kd.R_below (by (with_reducible repeat (first | apply Kd.R_alloc | apply Kd.R_drewN | apply Kd.R_drew)); exact (Kd.R_mono (Kd.R_far (p := ⟨gb452, 3, none⟩) (Kd.R_far (p := ⟨gb452, 2, none⟩) (Kd.R_far (p := ⟨gb452, 1, none⟩) (Kd.R_far (p := ⟨gb452, 0, none⟩) (Kd.R_types HO449.out BK452.out (by decide)) (fun _ hk => hk.2) (.slice Ao14 t444.length co14)) (fun _ hk => hk.2) (.slice Ao16 t447.length co16)) (fun _ hk => hk.2) (.bool t450)) (fun _ hk => hk.2) (.bool t451)) (fun _ h_ => h_.1))) hb); have n2_ := Aside0.mk (Kd.R_lower ho0 (below_size (by repeat (first | (with_reducible first | exact HB.out | apply below_alloc | apply pw_below_drewN | apply below_drew1 | refine below_set ?_ GE452.out) | exact HB.out)))); have n3_ := Aside0.mk (blk_below (g := gb452) (o := .cells #[.slice Ao14 t444.length co14, .slice Ao16 t447.length co16, .bool t450, .bool t451] 29 (0, 0)) (by (with_reducible repeat (first | refine blk_drewN ?_ _ | refine blk_drew ?_ | refine blk_alloc ?_ _)); refine blk_put (cs := #[.slice Ao14 t444.length co14, .slice Ao16 t447.length co16, .bool t450, .bool false]) ?_ 3 _ rfl; (with_reducible repeat (first | refine blk_drewN ?_ _ | refine blk_drew ?_ | refine blk_alloc ?_ _)); refine blk_put (cs := #[.slice Ao14 t444.length co14, .slice Ao16 t447.length co16, .bool false, .bool false]) ?_ 2 _ rfl; (with_reducible repeat (first | refine blk_drewN ?_ _ | refine blk_drew ?_ | refine blk_alloc ?_ _)); refine blk_put (cs := #[.slice Ao14 t444.length co14, .slice none 0 0, .bool false, .bool false]) ?_ 1 _ rfl; (with_reducible repeat (first | refine blk_drewN ?_ _ | refine blk_drew ?_ | refine blk_alloc ?_ _)); refine blk_put (cs := #[.slice none 0 0, .slice none 0 0, .bool false, .bool false]) ?_ 0 _ rfl; (with_reducible repeat (first | refine blk_drewN ?_ _ | refine blk_drew ?_ | refine blk_alloc ?_ _)); exact BK452.out) hb); have n4_ := Aside0.mk (below_step (by repeat (first | (with_reducible first | exact HB.out | apply below_alloc | apply pw_below_drewN | apply below_drew1 | refine below_set ?_ GE452.out) | exact HB.out)) hb); clear HO446; clear HO449; clear BK452; clear HB; have HO446 := n0_; have HO449 := n1_; have HO455 := n2_; have BK452 := n3_; have HB := n4_; clear n0_ n1_ n2_ n3_ n4_; (try clear hb); (try clear hb2); (try clear hk); (try clear hi); (try clear ho0); have hcz18_0 : w17.cell? ⟨gb452, 0, none⟩ = some (.slice Ao14 t444.length co14) := (blk_cell BK452.out 0).trans rfl; have hcz18_1 : w17.cell? ⟨gb452, 1, none⟩ = some (.slice Ao16 t447.length co16) := (blk_cell BK452.out 1).trans rfl; have hcz18_2 : w17.cell? ⟨gb452, 2, none⟩ = some (.bool t450) := (blk_cell BK452.out 2).trans rfl; have hcz18_3 : w17.cell? ⟨gb452, 3, none⟩ = some (.bool t451) := (blk_cell BK452.out 3).trans rfl; have hfz18_0 := blk_frozen BK452.out 0; have hfz18_1 := blk_frozen BK452.out 1; have hfz18_2 := blk_frozen BK452.out 2; have hfz18_3 := blk_frozen BK452.out 3; obtain ⟨Ao19, co19, eo19⟩ := Kd.R_slice HO455.out; subst eo19) | ((with_reducible refine gate_callee (f := 8) rfl ?_); refine goesL_ (some 28) rfl rfl Try.func8 (by kernel_rfl) rfl #[.agg #[.slice Ao14 t444.length co14, .slice Ao16 t447.length co16, .bool t450, .bool t451], .slice Ao19 t453.length co19] rfl (by (try simp only [List.map_toArray, List.map_cons, List.map_nil]); first | done | rfl | (simp only [List.length_drop, List.length_take]; rfl)) ?_; (with_reducible refine (impl_CacheReads.calls _ _ t444 _ _ t447 t450 t451 _ _ t453 t456 t459 _ ?side1 ?side2 ?side3 ?side4 ?side5 ?side6 A7.out).mono ?_); (case side1 => repeat (first | exact (Kd.N_reads' HO446.out).2.2 | (with_reducible refine Kd.C_alloc ?_ _) | (with_reducible refine Kd.C_drewN ?_ _) | (with_reducible refine Kd.C_drew ?_))); (case side2 => exact (Kd.N_reads' HO446.out).2.1); (case side3 => repeat (first | exact (Kd.R_reads' HO449.out).2.2 | (with_reducible refine Kd.C_alloc ?_ _) | (with_reducible refine Kd.C_drewN ?_ _) | (with_reducible refine Kd.C_drew ?_))); (case side4 => exact (Kd.R_reads' HO449.out).2.1); (case side5 => repeat (first | exact (Kd.R_reads' HO455.out).2.2 | (with_reducible refine Kd.C_alloc ?_ _) | (with_reducible refine Kd.C_drewN ?_ _) | (with_reducible refine Kd.C_drew ?_))); (case side6 => exact (Kd.R_reads' HO455.out).2.1); rintro e w20 ⟨v457, rfl, ho0, hb⟩; refine ⟨_, rfl, ?_⟩; have n0_ := Aside0.mk (Kd.N_elder' (by (with_reducible repeat (first | apply Kd.N_alloc | apply Kd.N_drewN | apply Kd.N_drew)); exact HO446.out) (Kd.R_base ho0) hb); have n1_ := Aside0.mk (Kd.R_elder' (by (with_reducible repeat (first | apply Kd.R_alloc | apply Kd.R_drewN | apply Kd.R_drew)); exact HO449.out) (Kd.R_base ho0) hb); have n2_ := Aside0.mk (Kd.R_below (by (with_reducible repeat (first | apply Kd.R_alloc | apply Kd.R_drewN | apply Kd.R_drew)); exact HO455.out) hb); have n3_ := Aside0.mk (Kd.R_lower (Kd.R_new' ho0 (Kd.R_lt (by (with_reducible repeat (first | apply Kd.R_alloc | apply Kd.R_drewN | apply Kd.R_drew)); exact HO449.out))) (below_size (by repeat (first | (with_reducible first | exact HB.out | apply below_alloc | apply pw_below_drewN | apply below_drew1 | refine below_set ?_ GE452.out) | exact HB.out)))); have n4_ := Aside0.mk (blk_below (g := gb452) (o := .cells #[.slice Ao14 t444.length co14, .slice Ao16 t447.length co16, .bool t450, .bool t451] 29 (0, 0)) (by (with_reducible repeat (first | refine blk_drewN ?_ _ | refine blk_drew ?_ | refine blk_alloc ?_ _)); exact BK452.out) hb); have n5_ := Aside0.mk (below_step (by repeat (first | (with_reducible first | exact HB.out | apply below_alloc | apply pw_below_drewN | apply below_drew1 | refine below_set ?_ GE452.out) | exact HB.out)) hb); clear HO446; clear HO449; clear HO455; clear BK452; clear HB; have HO446 := n0_; have HO449 := n1_; have HO455 := n2_; have HO458 := n3_; have BK452 := n4_; have HB := n5_; clear n0_ n1_ n2_ n3_ n4_ n5_; (try clear hb); (try clear hb2); (try clear hk); (try clear hi); (try clear ho0)) | ((with_reducible refine gate_callee (f := 9) rfl ?_); refine goesL_ (some 33) rfl rfl Try.func9 (by kernel_rfl) rfl #[.slice Ao19 t453.length co19] rfl (by (try simp only [List.map_toArray, List.map_cons, List.map_nil]); first | done | rfl | (simp only [List.length_drop, List.length_take]; rfl)) ?_; (with_reducible refine (impl_PlainReads.calls k _ _ t453 t460 t461 _ ?side1 ?side2 A8.out).mono ?_); (case side1 => repeat (first | exact (Kd.R_reads' HO455.out).2.2 | (with_reducible refine Kd.C_alloc ?_ _) | (with_reducible refine Kd.C_drewN ?_ _) | (with_reducible refine Kd.C_drew ?_))); (case side2 => exact (Kd.R_reads' HO455.out).2.1); rintro e w21 ⟨v462, rfl, ho0, hb⟩; refine ⟨_, rfl, ?_⟩; have n0_ := Aside0.mk (Kd.N_elder' (by (with_reducible repeat (first | apply Kd.N_alloc | apply Kd.N_drewN | apply Kd.N_drew)); exact HO446.out) (Kd.R_base ho0) hb); have n1_ := Aside0.mk (Kd.R_elder' (by (with_reducible repeat (first | apply Kd.R_alloc | apply Kd.R_drewN | apply Kd.R_drew)); exact HO449.out) (Kd.R_base ho0) hb); have n2_ := Aside0.mk (Kd.R_below (by (with_reducible repeat (first | apply Kd.R_alloc | apply Kd.R_drewN | apply Kd.R_drew)); exact HO455.out) hb); have n3_ := Aside0.mk (Kd.R_elder' (by (with_reducible repeat (first | apply Kd.R_alloc | apply Kd.R_drewN | apply Kd.R_drew)); exact HO458.out) (Kd.R_base ho0) hb); have n4_ := Aside0.mk (Kd.R_lower (Kd.R_new' (Kd.R_new' ho0 (Kd.R_lt (by (with_reducible repeat (first | apply Kd.R_alloc | apply Kd.R_drewN | apply Kd.R_drew)); exact HO449.out))) (Kd.R_lt (by (with_reducible repeat (first | apply Kd.R_alloc | apply Kd.R_drewN | apply Kd.R_drew)); exact HO458.out))) (below_size (by repeat (first | (with_reducible first | exact HB.out | apply below_alloc | apply pw_below_drewN | apply below_drew1 | refine below_set ?_ GE452.out) | exact HB.out)))); have n5_ := Aside0.mk (blk_below (g := gb452) (o := .cells #[.slice Ao14 t444.length co14, .slice Ao16 t447.length co16, .bool t450, .bool t451] 29 (0, 0)) (by (with_reducible repeat (first | refine blk_drewN ?_ _ | refine blk_drew ?_ | refine blk_alloc ?_ _)); exact BK452.out) hb); have n6_ := Aside0.mk (below_step (by repeat (first | (with_reducible first | exact HB.out | apply below_alloc | apply pw_below_drewN | apply below_drew1 | refine below_set ?_ GE452.out) | exact HB.out)) hb); clear HO446; clear HO449; clear HO455; clear HO458; clear BK452; clear HB; have HO446 := n0_; have HO449 := n1_; have HO455 := n2_; have HO458 := n3_; have HO463 := n4_; have BK452 := n5_; have HB := n6_; clear n0_ n1_ n2_ n3_ n4_ n5_ n6_; (try clear hb); (try clear hb2); (try clear hk); (try clear hi); (try clear ho0); have hcz22_0 : w21.cell? ⟨gb452, 0, none⟩ = some (.slice Ao14 t444.length co14) := (blk_cell BK452.out 0).trans rfl; have hcz22_1 : w21.cell? ⟨gb452, 1, none⟩ = some (.slice Ao16 t447.length co16) := (blk_cell BK452.out 1).trans rfl; have hcz22_2 : w21.cell? ⟨gb452, 2, none⟩ = some (.bool t450) := (blk_cell BK452.out 2).trans rfl; have hcz22_3 : w21.cell? ⟨gb452, 3, none⟩ = some (.bool t451) := (blk_cell BK452.out 3).trans rfl; have hfz22_0 := blk_frozen BK452.out 0; have hfz22_1 := blk_frozen BK452.out 1; have hfz22_2 := blk_frozen BK452.out 2; have hfz22_3 := blk_frozen BK452.out 3) | ((with_reducible refine gate_callee (f := 10) rfl ?_); refine goesL_ (some 39) rfl rfl Try.func10 (by kernel_rfl) rfl #[.agg #[.slice Ao14 t444.length co14, .slice Ao16 t447.length co16, .bool t450, .bool t451], .slice Ao19 t453.length co19] rfl (by (try simp only [List.map_toArray, List.map_cons, List.map_nil]); first | done | rfl | (simp only [List.length_drop, List.length_take]; rfl)) ?_; (with_reducible refine (impl_CacheMemory.calls _ _ t444 _ _ t447 t450 t451 _ _ t453 t464 t467 _ ?side1 ?side2 ?side3 ?side4 ?side5 ?side6 A9.out).mono ?_); (case side1 => repeat (first | exact (Kd.N_reads' HO446.out).2.2 | (with_reducible refine Kd.C_alloc ?_ _) | (with_reducible refine Kd.C_drewN ?_ _) | (with_reducible refine Kd.C_drew ?_))); (case side2 => exact (Kd.N_reads' HO446.out).2.1); (case side3 => repeat (first | exact (Kd.R_reads' HO449.out).2.2 | (with_reducible refine Kd.C_alloc ?_ _) | (with_reducible refine Kd.C_drewN ?_ _) | (with_reducible refine Kd.C_drew ?_))); (case side4 => exact (Kd.R_reads' HO449.out).2.1); (case side5 => repeat (first | exact (Kd.R_reads' HO455.out).2.2 | (with_reducible refine Kd.C_alloc ?_ _) | (with_reducible refine Kd.C_drewN ?_ _) | (with_reducible refine Kd.C_drew ?_))); (case side6 => exact (Kd.R_reads' HO455.out).2.1); rintro e w23 ⟨v465, rfl, ho0, hb⟩; refine ⟨_, rfl, ?_⟩; have n0_ := Aside0.mk (Kd.N_elder' (by (with_reducible repeat (first | apply Kd.N_alloc | apply Kd.N_drewN | apply Kd.N_drew)); exact HO446.out) (Kd.R_base ho0) hb); have n1_ := Aside0.mk (Kd.R_elder' (by (with_reducible repeat (first | apply Kd.R_alloc | apply Kd.R_drewN | apply Kd.R_drew)); exact HO449.out) (Kd.R_base ho0) hb); have n2_ := Aside0.mk (Kd.R_below (by (with_reducible repeat (first | apply Kd.R_alloc | apply Kd.R_drewN | apply Kd.R_drew)); exact HO455.out) hb); have n3_ := Aside0.mk (Kd.R_elder' (by (with_reducible repeat (first | apply Kd.R_alloc | apply Kd.R_drewN | apply Kd.R_drew)); exact HO458.out) (Kd.R_base ho0) hb); have n4_ := Aside0.mk (Kd.R_elder' (by (with_reducible repeat (first | apply Kd.R_alloc | apply Kd.R_drewN | apply Kd.R_drew)); exact HO463.out) (Kd.R_base ho0) hb); have n5_ := Aside0.mk (Kd.R_lower (Kd.R_new' (Kd.R_new' (Kd.R_new' ho0 (Kd.R_lt (by (with_reducible repeat (first | apply Kd.R_alloc | apply Kd.R_drewN | apply Kd.R_drew)); exact HO449.out))) (Kd.R_lt (by (with_reducible repeat (first | apply Kd.R_alloc | apply Kd.R_drewN | apply Kd.R_drew)); exact HO458.out))) (Kd.R_lt (by (with_reducible repeat (first | apply Kd.R_alloc | apply Kd.R_drewN | apply Kd.R_drew)); exact HO463.out))) (below_size (by repeat (first | (with_reducible first | exact HB.out | apply below_alloc | apply pw_below_drewN | apply below_drew1 | refine below_set ?_ GE452.out) | exact HB.out)))); have n6_ := Aside0.mk (blk_below (g := gb452) (o := .cells #[.slice Ao14 t444.length co14, .slice Ao16 t447.length co16, .bool t450, .bool t451] 29 (0, 0)) (by (with_reducible repeat (first | refine blk_drewN ?_ _ | refine blk_drew ?_ | refine blk_alloc ?_ _)); exact BK452.out) hb); have n7_ := Aside0.mk (below_step (by repeat (first | (with_reducible first | exact HB.out | apply below_alloc | apply pw_below_drewN | apply below_drew1 | refine below_set ?_ GE452.out) | exact HB.out)) hb); clear HO446; clear HO449; clear HO455; clear HO458; clear HO463; clear BK452; clear HB; have HO446 := n0_; have HO449 := n1_; have HO455 := n2_; have HO458 := n3_; have HO463 := n4_; have HO466 := n5_; have BK452 := n6_; have HB := n7_; clear n0_ n1_ n2_ n3_ n4_ n5_ n6_ n7_; (try clear hb); (try clear hb2); (try clear hk); (try clear hi); (try clear ho0)) | ((with_reducible refine gate_callee (f := 11) rfl ?_); refine goesL_ (some 44) rfl rfl Try.func11 (by kernel_rfl) rfl #[.slice Ao19 t453.length co19] rfl (by (try simp only [List.map_toArray, List.map_cons, List.map_nil]); first | done | rfl | (simp only [List.length_drop, List.length_take]; rfl)) ?_; (with_reducible refine (impl_PlainMemory.calls k _ _ t453 t468 t469 _ ?side1 ?side2 A10.out).mono ?_); (case side1 => repeat (first | exact (Kd.R_reads' HO455.out).2.2 | (with_reducible refine Kd.C_alloc ?_ _) | (with_reducible refine Kd.C_drewN ?_ _) | (with_reducible refine Kd.C_drew ?_))); (case side2 => exact (Kd.R_reads' HO455.out).2.1); rintro e w24 ⟨v470, rfl, ho0, hb⟩; refine ⟨_, rfl, ?_⟩; have n0_ := Aside0.mk (Kd.N_elder' (by (with_reducible repeat (first | apply Kd.N_alloc | apply Kd.N_drewN | apply Kd.N_drew)); exact HO446.out) (Kd.R_base ho0) hb); have n1_ := Aside0.mk (Kd.R_elder' (by (with_reducible repeat (first | apply Kd.R_alloc | apply Kd.R_drewN | apply Kd.R_drew)); exact HO449.out) (Kd.R_base ho0) hb); have n2_ := Aside0.mk (Kd.R_below (by (with_reducible repeat (first | apply Kd.R_alloc | apply Kd.R_drewN | apply Kd.R_drew)); exact HO455.out) hb); have n3_ := Aside0.mk (Kd.R_elder' (by (with_reducible repeat (first | apply Kd.R_alloc | apply Kd.R_drewN | apply Kd.R_drew)); exact HO458.out) (Kd.R_base ho0) hb); have n4_ := Aside0.mk (Kd.R_elder' (by (with_reducible repeat (first | apply Kd.R_alloc | apply Kd.R_drewN | apply Kd.R_drew)); exact HO463.out) (Kd.R_base ho0) hb); have n5_ := Aside0.mk (Kd.R_elder' (by (with_reducible repeat (first | apply Kd.R_alloc | apply Kd.R_drewN | apply Kd.R_drew)); exact HO466.out) (Kd.R_base ho0) hb); have n6_ := Aside0.mk (Kd.R_lower (Kd.R_new' (Kd.R_new' (Kd.R_new' (Kd.R_new' ho0 (Kd.R_lt (by (with_reducible repeat (first | apply Kd.R_alloc | apply Kd.R_drewN | apply Kd.R_drew)); exact HO449.out))) (Kd.R_lt (by (with_reducible repeat (first | apply Kd.R_alloc | apply Kd.R_drewN | apply Kd.R_drew)); exact HO458.out))) (Kd.R_lt (by (with_reducible repeat (first | apply Kd.R_alloc | apply Kd.R_drewN | apply Kd.R_drew)); exact HO463.out))) (Kd.R_lt (by (with_reducible repeat (first | apply Kd.R_alloc | apply Kd.R_drewN | apply Kd.R_drew)); exact HO466.out))) (below_size (by repeat (first | (with_reducible first | exact HB.out | apply below_alloc | apply pw_below_drewN | apply below_drew1 | refine below_set ?_ GE452.out) | exact HB.out)))); have n7_ := Aside0.mk (blk_below (g := gb452) (o := .cells #[.slice Ao14 t444.length co14, .slice Ao16 t447.length co16, .bool t450, .bool t451] 29 (0, 0)) (by (with_reducible repeat (first | refine blk_drewN ?_ _ | refine blk_drew ?_ | refine blk_alloc ?_ _)); exact BK452.out) hb); have n8_ := Aside0.mk (below_step (by repeat (first | (with_reducible first | exact HB.out | apply below_alloc | apply pw_below_drewN | apply below_drew1 | refine below_set ?_ GE452.out) | exact HB.out)) hb); clear HO446; clear HO449; clear HO455; clear HO458; clear HO463; clear HO466; clear BK452; clear HB; have HO446 := n0_; have HO449 := n1_; have HO455 := n2_; have HO458 := n3_; have HO463 := n4_; have HO466 := n5_; have HO471 := n6_; have BK452 := n7_; have HB := n8_; clear n0_ n1_ n2_ n3_ n4_ n5_ n6_ n7_ n8_; (try clear hb); (try clear hb2); (try clear hk); (try clear hi); (try clear ho0)))
    (try simp only [Act.put, List.setIfInBounds_toArray, List.set_cons_zero, List.set_cons_succ])
    go_cut [65] (fun v65 wc => ∃ (kq : Nat) (x65_10 : Bool), v65 = .bool x65_10 ∧ Aside0 (laws_FnReads.j0 kq t453 t456 t460 t464 t468 x65_10 = some r) ∧ Aside0 (kq ≤ k) ∧ Aside0 (Kd.R k37 37 wc w.heap.size (fun _ => True) (.slice Ao19 t453.length co19) t453) ∧ Aside0 (Kd.R (Kd.int .i64) 2 wc w.heap.size (fun k_ => some k_ ≠ (v462 : Value).ownBlock ∧ some k_ ≠ (v465 : Value).ownBlock ∧ some k_ ≠ (v470 : Value).ownBlock ∧ some k_ ≠ ((.slice Ao16 t447.length co16) : Value).ownBlock) v457 t456) ∧ Aside0 (Kd.R (Kd.int .i64) 2 wc w.heap.size (fun k_ => some k_ ≠ (v457 : Value).ownBlock ∧ some k_ ≠ (v465 : Value).ownBlock ∧ some k_ ≠ (v470 : Value).ownBlock ∧ some k_ ≠ ((.slice Ao16 t447.length co16) : Value).ownBlock) v462 t460) ∧ Aside0 (Kd.R (Kd.int .i64) 2 wc w.heap.size (fun k_ => some k_ ≠ (v457 : Value).ownBlock ∧ some k_ ≠ (v462 : Value).ownBlock ∧ some k_ ≠ (v470 : Value).ownBlock ∧ some k_ ≠ ((.slice Ao16 t447.length co16) : Value).ownBlock) v465 t464) ∧ Aside0 (Kd.R (Kd.int .i64) 2 wc w.heap.size (fun k_ => some k_ ≠ (v457 : Value).ownBlock ∧ some k_ ≠ (v462 : Value).ownBlock ∧ some k_ ≠ (v465 : Value).ownBlock ∧ some k_ ≠ ((.slice Ao16 t447.length co16) : Value).ownBlock) v470 t468) ∧ Aside0 (Kd.N (Kd.slice 2 (Kd.int .i64)) 25 wc w.heap.size (fun k_ => some k_ ≠ ((.slice Ao19 t453.length co19) : Value).ownBlock ∧ some k_ ≠ (v457 : Value).ownBlock ∧ some k_ ≠ (v462 : Value).ownBlock ∧ some k_ ≠ (v465 : Value).ownBlock ∧ some k_ ≠ (v470 : Value).ownBlock ∧ some k_ ≠ ((.slice Ao16 t447.length co16) : Value).ownBlock ∧ k_ ≠ gb452) (.slice Ao14 t444.length co14) t444) ∧ Aside0 (Kd.R (Kd.int .i64) 2 wc w.heap.size (fun k_ => some k_ ≠ (v457 : Value).ownBlock ∧ some k_ ≠ (v462 : Value).ownBlock ∧ some k_ ≠ (v465 : Value).ownBlock ∧ some k_ ≠ (v470 : Value).ownBlock) (.slice Ao16 t447.length co16) t447) ∧ Aside0 (wc.heap[gb452]? = some (.cells #[(.slice Ao14 t444.length co14), (.slice Ao16 t447.length co16), .bool t450, .bool t451] 29 (0, 0))) ∧ Aside0 (Below w.heap.size w wc))
    case first =>
      have H := HC11.out
      clear HC11
      by_cases c25 : t459 = true
      · subst c25
        have H1 : (if t461 = true then (if t467 = true then (if t469 = true then (laws_FnReads.j0 k t453 t456 t460 t464 t468 ((t468.length : Int) != 64)) else (laws_FnReads.j0 k t453 t456 t460 t464 t468 true)) else (laws_FnReads.j0 k t453 t456 t460 t464 t468 true)) else (laws_FnReads.j0 k t453 t456 t460 t464 t468 true)) = some r := by rw [if_pos rfl] at H; exact H
        clear H
        have H := H1
        clear H1
        by_cases c26 : t461 = true
        · subst c26
          have H1 : (if t467 = true then (if t469 = true then (laws_FnReads.j0 k t453 t456 t460 t464 t468 ((t468.length : Int) != 64)) else (laws_FnReads.j0 k t453 t456 t460 t464 t468 true)) else (laws_FnReads.j0 k t453 t456 t460 t464 t468 true)) = some r := by rw [if_pos rfl] at H; exact H
          clear H
          have H := H1
          clear H1
          by_cases c27 : t467 = true
          · subst c27
            have H1 : (if t469 = true then (laws_FnReads.j0 k t453 t456 t460 t464 t468 ((t468.length : Int) != 64)) else (laws_FnReads.j0 k t453 t456 t460 t464 t468 true)) = some r := by rw [if_pos rfl] at H; exact H
            clear H
            have H := H1
            clear H1
            by_cases c28 : t469 = true
            · subst c28
              have H1 : (laws_FnReads.j0 k t453 t456 t460 t464 t468 ((t468.length : Int) != 64)) = some r := by rw [if_pos rfl] at H; exact H
              clear H
              have H := H1
              clear H1
              have H' := Aside0.mk H
              clear H
              obtain ⟨Ao29, co29, eo29⟩ := Kd.R_slice HO471.out
              subst eo29
              go_wp2
              go_meet
              case rel => exact ⟨_, (((t468.length : Int) != 64)), (by first | rfl | (simp; done) | (simp [*]; done)), H', ⟨by first | omega | exact Nat.le_refl _⟩, ⟨by (with_reducible repeat (first | apply Kd.R_alloc | apply Kd.R_drewN | apply Kd.R_drew)); exact HO455.out⟩, ⟨by (with_reducible repeat (first | apply Kd.R_alloc | apply Kd.R_drewN | apply Kd.R_drew)); exact Kd.R_mono HO458.out (fun _ hk => ⟨hk.1.1.2, ⟨hk.1.2, ⟨hk.2, hk.1.1.1.2⟩⟩⟩)⟩, ⟨by (with_reducible repeat (first | apply Kd.R_alloc | apply Kd.R_drewN | apply Kd.R_drew)); exact Kd.R_mono HO463.out (fun _ hk => ⟨hk.1.1.2, ⟨hk.1.2, ⟨hk.2, hk.1.1.1.2⟩⟩⟩)⟩, ⟨by (with_reducible repeat (first | apply Kd.R_alloc | apply Kd.R_drewN | apply Kd.R_drew)); exact Kd.R_mono HO466.out (fun _ hk => ⟨hk.1.1.2, ⟨hk.1.2, ⟨hk.2, hk.1.1.1.2⟩⟩⟩)⟩, ⟨by (with_reducible repeat (first | apply Kd.R_alloc | apply Kd.R_drewN | apply Kd.R_drew)); exact Kd.R_mono HO471.out (fun _ hk => ⟨hk.1.1.2, ⟨hk.1.2, ⟨hk.2, hk.1.1.1.2⟩⟩⟩)⟩, ⟨by (with_reducible repeat (first | apply Kd.N_alloc | apply Kd.N_drewN | apply Kd.N_drew)); exact Kd.N_mono HO446.out (fun _ hk => ⟨hk.1.1.1.1.2, ⟨hk.1.1.1.2, ⟨hk.1.1.2, ⟨hk.1.2, ⟨hk.2, ⟨hk.1.1.1.1.1.1, hk.1.1.1.1.1.2⟩⟩⟩⟩⟩⟩)⟩, ⟨by (with_reducible repeat (first | apply Kd.R_alloc | apply Kd.R_drewN | apply Kd.R_drew)); exact Kd.R_mono HO449.out (fun _ hk => ⟨hk.1.1.1.2, ⟨hk.1.1.2, ⟨hk.1.2, hk.2⟩⟩⟩)⟩, ⟨by (with_reducible repeat (first | refine blk_drewN ?_ _ | refine blk_drew ?_ | refine blk_alloc ?_ _)); exact BK452.out⟩, ⟨by repeat (first | (with_reducible first | exact HB.out | apply below_alloc | apply pw_below_drewN | apply below_drew1 | refine below_set ?_ GE452.out) | exact HB.out)⟩⟩
            · replace c28 := Bool.eq_false_iff.mpr c28
              subst c28
              have H1 : (laws_FnReads.j0 k t453 t456 t460 t464 t468 true) = some r := by rw [if_neg (show ¬ (false = true) by decide)] at H; exact H
              clear H
              have H := H1
              clear H1
              have H' := Aside0.mk H
              clear H
              go_wp2
              go_meet
              case rel => exact ⟨_, (true), (by first | rfl | (simp; done) | (simp [*]; done)), H', ⟨by first | omega | exact Nat.le_refl _⟩, ⟨by (with_reducible repeat (first | apply Kd.R_alloc | apply Kd.R_drewN | apply Kd.R_drew)); exact HO455.out⟩, ⟨by (with_reducible repeat (first | apply Kd.R_alloc | apply Kd.R_drewN | apply Kd.R_drew)); exact Kd.R_mono HO458.out (fun _ hk => ⟨hk.1.1.2, ⟨hk.1.2, ⟨hk.2, hk.1.1.1.2⟩⟩⟩)⟩, ⟨by (with_reducible repeat (first | apply Kd.R_alloc | apply Kd.R_drewN | apply Kd.R_drew)); exact Kd.R_mono HO463.out (fun _ hk => ⟨hk.1.1.2, ⟨hk.1.2, ⟨hk.2, hk.1.1.1.2⟩⟩⟩)⟩, ⟨by (with_reducible repeat (first | apply Kd.R_alloc | apply Kd.R_drewN | apply Kd.R_drew)); exact Kd.R_mono HO466.out (fun _ hk => ⟨hk.1.1.2, ⟨hk.1.2, ⟨hk.2, hk.1.1.1.2⟩⟩⟩)⟩, ⟨by (with_reducible repeat (first | apply Kd.R_alloc | apply Kd.R_drewN | apply Kd.R_drew)); exact Kd.R_mono HO471.out (fun _ hk => ⟨hk.1.1.2, ⟨hk.1.2, ⟨hk.2, hk.1.1.1.2⟩⟩⟩)⟩, ⟨by (with_reducible repeat (first | apply Kd.N_alloc | apply Kd.N_drewN | apply Kd.N_drew)); exact Kd.N_mono HO446.out (fun _ hk => ⟨hk.1.1.1.1.2, ⟨hk.1.1.1.2, ⟨hk.1.1.2, ⟨hk.1.2, ⟨hk.2, ⟨hk.1.1.1.1.1.1, hk.1.1.1.1.1.2⟩⟩⟩⟩⟩⟩)⟩, ⟨by (with_reducible repeat (first | apply Kd.R_alloc | apply Kd.R_drewN | apply Kd.R_drew)); exact Kd.R_mono HO449.out (fun _ hk => ⟨hk.1.1.1.2, ⟨hk.1.1.2, ⟨hk.1.2, hk.2⟩⟩⟩)⟩, ⟨by (with_reducible repeat (first | refine blk_drewN ?_ _ | refine blk_drew ?_ | refine blk_alloc ?_ _)); exact BK452.out⟩, ⟨by repeat (first | (with_reducible first | exact HB.out | apply below_alloc | apply pw_below_drewN | apply below_drew1 | refine below_set ?_ GE452.out) | exact HB.out)⟩⟩
          · replace c27 := Bool.eq_false_iff.mpr c27
            subst c27
            have H1 : (laws_FnReads.j0 k t453 t456 t460 t464 t468 true) = some r := by rw [if_neg (show ¬ (false = true) by decide)] at H; exact H
            clear H
            have H := H1
            clear H1
            have H' := Aside0.mk H
            clear H
            go_wp2
            go_meet
            case rel => exact ⟨_, (true), (by first | rfl | (simp; done) | (simp [*]; done)), H', ⟨by first | omega | exact Nat.le_refl _⟩, ⟨by (with_reducible repeat (first | apply Kd.R_alloc | apply Kd.R_drewN | apply Kd.R_drew)); exact HO455.out⟩, ⟨by (with_reducible repeat (first | apply Kd.R_alloc | apply Kd.R_drewN | apply Kd.R_drew)); exact Kd.R_mono HO458.out (fun _ hk => ⟨hk.1.1.2, ⟨hk.1.2, ⟨hk.2, hk.1.1.1.2⟩⟩⟩)⟩, ⟨by (with_reducible repeat (first | apply Kd.R_alloc | apply Kd.R_drewN | apply Kd.R_drew)); exact Kd.R_mono HO463.out (fun _ hk => ⟨hk.1.1.2, ⟨hk.1.2, ⟨hk.2, hk.1.1.1.2⟩⟩⟩)⟩, ⟨by (with_reducible repeat (first | apply Kd.R_alloc | apply Kd.R_drewN | apply Kd.R_drew)); exact Kd.R_mono HO466.out (fun _ hk => ⟨hk.1.1.2, ⟨hk.1.2, ⟨hk.2, hk.1.1.1.2⟩⟩⟩)⟩, ⟨by (with_reducible repeat (first | apply Kd.R_alloc | apply Kd.R_drewN | apply Kd.R_drew)); exact Kd.R_mono HO471.out (fun _ hk => ⟨hk.1.1.2, ⟨hk.1.2, ⟨hk.2, hk.1.1.1.2⟩⟩⟩)⟩, ⟨by (with_reducible repeat (first | apply Kd.N_alloc | apply Kd.N_drewN | apply Kd.N_drew)); exact Kd.N_mono HO446.out (fun _ hk => ⟨hk.1.1.1.1.2, ⟨hk.1.1.1.2, ⟨hk.1.1.2, ⟨hk.1.2, ⟨hk.2, ⟨hk.1.1.1.1.1.1, hk.1.1.1.1.1.2⟩⟩⟩⟩⟩⟩)⟩, ⟨by (with_reducible repeat (first | apply Kd.R_alloc | apply Kd.R_drewN | apply Kd.R_drew)); exact Kd.R_mono HO449.out (fun _ hk => ⟨hk.1.1.1.2, ⟨hk.1.1.2, ⟨hk.1.2, hk.2⟩⟩⟩)⟩, ⟨by (with_reducible repeat (first | refine blk_drewN ?_ _ | refine blk_drew ?_ | refine blk_alloc ?_ _)); exact BK452.out⟩, ⟨by repeat (first | (with_reducible first | exact HB.out | apply below_alloc | apply pw_below_drewN | apply below_drew1 | refine below_set ?_ GE452.out) | exact HB.out)⟩⟩
        · replace c26 := Bool.eq_false_iff.mpr c26
          subst c26
          have H1 : (laws_FnReads.j0 k t453 t456 t460 t464 t468 true) = some r := by rw [if_neg (show ¬ (false = true) by decide)] at H; exact H
          clear H
          have H := H1
          clear H1
          have H' := Aside0.mk H
          clear H
          go_wp2
          go_meet
          case rel => exact ⟨_, (true), (by first | rfl | (simp; done) | (simp [*]; done)), H', ⟨by first | omega | exact Nat.le_refl _⟩, ⟨by (with_reducible repeat (first | apply Kd.R_alloc | apply Kd.R_drewN | apply Kd.R_drew)); exact HO455.out⟩, ⟨by (with_reducible repeat (first | apply Kd.R_alloc | apply Kd.R_drewN | apply Kd.R_drew)); exact Kd.R_mono HO458.out (fun _ hk => ⟨hk.1.1.2, ⟨hk.1.2, ⟨hk.2, hk.1.1.1.2⟩⟩⟩)⟩, ⟨by (with_reducible repeat (first | apply Kd.R_alloc | apply Kd.R_drewN | apply Kd.R_drew)); exact Kd.R_mono HO463.out (fun _ hk => ⟨hk.1.1.2, ⟨hk.1.2, ⟨hk.2, hk.1.1.1.2⟩⟩⟩)⟩, ⟨by (with_reducible repeat (first | apply Kd.R_alloc | apply Kd.R_drewN | apply Kd.R_drew)); exact Kd.R_mono HO466.out (fun _ hk => ⟨hk.1.1.2, ⟨hk.1.2, ⟨hk.2, hk.1.1.1.2⟩⟩⟩)⟩, ⟨by (with_reducible repeat (first | apply Kd.R_alloc | apply Kd.R_drewN | apply Kd.R_drew)); exact Kd.R_mono HO471.out (fun _ hk => ⟨hk.1.1.2, ⟨hk.1.2, ⟨hk.2, hk.1.1.1.2⟩⟩⟩)⟩, ⟨by (with_reducible repeat (first | apply Kd.N_alloc | apply Kd.N_drewN | apply Kd.N_drew)); exact Kd.N_mono HO446.out (fun _ hk => ⟨hk.1.1.1.1.2, ⟨hk.1.1.1.2, ⟨hk.1.1.2, ⟨hk.1.2, ⟨hk.2, ⟨hk.1.1.1.1.1.1, hk.1.1.1.1.1.2⟩⟩⟩⟩⟩⟩)⟩, ⟨by (with_reducible repeat (first | apply Kd.R_alloc | apply Kd.R_drewN | apply Kd.R_drew)); exact Kd.R_mono HO449.out (fun _ hk => ⟨hk.1.1.1.2, ⟨hk.1.1.2, ⟨hk.1.2, hk.2⟩⟩⟩)⟩, ⟨by (with_reducible repeat (first | refine blk_drewN ?_ _ | refine blk_drew ?_ | refine blk_alloc ?_ _)); exact BK452.out⟩, ⟨by repeat (first | (with_reducible first | exact HB.out | apply below_alloc | apply pw_below_drewN | apply below_drew1 | refine below_set ?_ GE452.out) | exact HB.out)⟩⟩
      · replace c25 := Bool.eq_false_iff.mpr c25
        subst c25
        have H1 : (laws_FnReads.j0 k t453 t456 t460 t464 t468 true) = some r := by rw [if_neg (show ¬ (false = true) by decide)] at H; exact H
        clear H
        have H := H1
        clear H1
        have H' := Aside0.mk H
        clear H
        go_wp2
        go_meet
        case rel => exact ⟨_, (true), (by first | rfl | (simp; done) | (simp [*]; done)), H', ⟨by first | omega | exact Nat.le_refl _⟩, ⟨by (with_reducible repeat (first | apply Kd.R_alloc | apply Kd.R_drewN | apply Kd.R_drew)); exact HO455.out⟩, ⟨by (with_reducible repeat (first | apply Kd.R_alloc | apply Kd.R_drewN | apply Kd.R_drew)); exact Kd.R_mono HO458.out (fun _ hk => ⟨hk.1.1.2, ⟨hk.1.2, ⟨hk.2, hk.1.1.1.2⟩⟩⟩)⟩, ⟨by (with_reducible repeat (first | apply Kd.R_alloc | apply Kd.R_drewN | apply Kd.R_drew)); exact Kd.R_mono HO463.out (fun _ hk => ⟨hk.1.1.2, ⟨hk.1.2, ⟨hk.2, hk.1.1.1.2⟩⟩⟩)⟩, ⟨by (with_reducible repeat (first | apply Kd.R_alloc | apply Kd.R_drewN | apply Kd.R_drew)); exact Kd.R_mono HO466.out (fun _ hk => ⟨hk.1.1.2, ⟨hk.1.2, ⟨hk.2, hk.1.1.1.2⟩⟩⟩)⟩, ⟨by (with_reducible repeat (first | apply Kd.R_alloc | apply Kd.R_drewN | apply Kd.R_drew)); exact Kd.R_mono HO471.out (fun _ hk => ⟨hk.1.1.2, ⟨hk.1.2, ⟨hk.2, hk.1.1.1.2⟩⟩⟩)⟩, ⟨by (with_reducible repeat (first | apply Kd.N_alloc | apply Kd.N_drewN | apply Kd.N_drew)); exact Kd.N_mono HO446.out (fun _ hk => ⟨hk.1.1.1.1.2, ⟨hk.1.1.1.2, ⟨hk.1.1.2, ⟨hk.1.2, ⟨hk.2, ⟨hk.1.1.1.1.1.1, hk.1.1.1.1.1.2⟩⟩⟩⟩⟩⟩)⟩, ⟨by (with_reducible repeat (first | apply Kd.R_alloc | apply Kd.R_drewN | apply Kd.R_drew)); exact Kd.R_mono HO449.out (fun _ hk => ⟨hk.1.1.1.2, ⟨hk.1.1.2, ⟨hk.1.2, hk.2⟩⟩⟩)⟩, ⟨by (with_reducible repeat (first | refine blk_drewN ?_ _ | refine blk_drew ?_ | refine blk_alloc ?_ _)); exact BK452.out⟩, ⟨by repeat (first | (with_reducible first | exact HB.out | apply below_alloc | apply pw_below_drewN | apply below_drew1 | refine below_set ?_ GE452.out) | exact HB.out)⟩⟩
    case rest =>
      clear HC11
      try clear c1
      try clear c2
      try clear p2
      try clear c3
      try clear c4
      try clear c5
      try clear c6
      try clear c7
      try clear c8
      try clear c9
      try clear c10
      try clear c11
      try clear c25
      try clear c26
      try clear c27
      try clear c28
      try clear hcz15_0
      try clear hcz15_1
      try clear hcz15_2
      try clear hcz15_3
      try clear hcz18_0
      try clear hcz18_1
      try clear hcz18_2
      try clear hcz18_3
      try clear hcz22_0
      try clear hcz22_1
      try clear hcz22_2
      try clear hcz22_3
      try clear hfz15_0
      try clear hfz15_1
      try clear hfz15_2
      try clear hfz15_3
      try clear hfz18_0
      try clear hfz18_1
      try clear hfz18_2
      try clear hfz18_3
      try clear hfz22_0
      try clear hfz22_1
      try clear hfz22_2
      try clear hfz22_3
      obtain ⟨kq, x65_10, rfl, HA, HJ10, HO_6, HO_7, HO_9, HO_11, HO_13, HO_453000, HO_453001, BK452, HB⟩ := hcut
      cases kq with
      | zero => exact absurd HA.out (by simp [laws_FnReads.j0])
      | succ kj10 =>
        have H := HA.out
        clear HA
        simp only [laws_FnReads.j0] at H
        by_cases c30 : x65_10 = true
        · subst c30
          have H1 : (some false) = some r := by rw [if_pos rfl] at H; exact H
          clear H
          have H := H1
          clear H1
          obtain rfl := Option.some.inj H
          go_wp2
          go_ret
          exact ⟨by first | rfl | (simp [errW_none, errW_some] <;> rfl) | (simp [*, errW_none, errW_some] <;> rfl), by repeat (first | (with_reducible first | exact HB.out | apply below_alloc | apply pw_below_drewN | apply below_drew1 | refine below_set ?_ GE452.out) | exact HB.out)⟩
        · replace c30 := Bool.eq_false_iff.mpr c30
          subst c30
          have H1 : (laws_FnReads.l0 kj10 t453 t456 t460 t464 t468 0) = some r := by rw [if_neg (show ¬ (false = true) by decide)] at H; exact H
          clear H
          have H := H1
          clear H1
          have H' := Aside0.mk H
          clear H
          go_wp2
          go_loopg [15] kj10 (fun kq v15 w' => ∃ (x15_2 : Int), v15 = .int .i64 x15_2 ∧ Aside0 (laws_FnReads.l0 kq t453 t456 t460 t464 t468 x15_2 = some r) ∧ Aside0 (kq ≤ kj10) ∧ Aside0 (Kd.R k37 37 w' w.heap.size (fun _ => True) (.slice Ao19 t453.length co19) t453) ∧ Aside0 (Kd.R (Kd.int .i64) 2 w' w.heap.size (fun k_ => some k_ ≠ (v462 : Value).ownBlock ∧ some k_ ≠ (v465 : Value).ownBlock ∧ some k_ ≠ (v470 : Value).ownBlock ∧ some k_ ≠ ((.slice Ao16 t447.length co16) : Value).ownBlock) v457 t456) ∧ Aside0 (Kd.R (Kd.int .i64) 2 w' w.heap.size (fun k_ => some k_ ≠ (v457 : Value).ownBlock ∧ some k_ ≠ (v465 : Value).ownBlock ∧ some k_ ≠ (v470 : Value).ownBlock ∧ some k_ ≠ ((.slice Ao16 t447.length co16) : Value).ownBlock) v462 t460) ∧ Aside0 (Kd.R (Kd.int .i64) 2 w' w.heap.size (fun k_ => some k_ ≠ (v457 : Value).ownBlock ∧ some k_ ≠ (v462 : Value).ownBlock ∧ some k_ ≠ (v470 : Value).ownBlock ∧ some k_ ≠ ((.slice Ao16 t447.length co16) : Value).ownBlock) v465 t464) ∧ Aside0 (Kd.R (Kd.int .i64) 2 w' w.heap.size (fun k_ => some k_ ≠ (v457 : Value).ownBlock ∧ some k_ ≠ (v462 : Value).ownBlock ∧ some k_ ≠ (v465 : Value).ownBlock ∧ some k_ ≠ ((.slice Ao16 t447.length co16) : Value).ownBlock) v470 t468) ∧ Aside0 (Kd.N (Kd.slice 2 (Kd.int .i64)) 25 w' w.heap.size (fun k_ => some k_ ≠ ((.slice Ao19 t453.length co19) : Value).ownBlock ∧ some k_ ≠ (v457 : Value).ownBlock ∧ some k_ ≠ (v462 : Value).ownBlock ∧ some k_ ≠ (v465 : Value).ownBlock ∧ some k_ ≠ (v470 : Value).ownBlock ∧ some k_ ≠ ((.slice Ao16 t447.length co16) : Value).ownBlock ∧ k_ ≠ gb452) (.slice Ao14 t444.length co14) t444) ∧ Aside0 (Kd.R (Kd.int .i64) 2 w' w.heap.size (fun k_ => some k_ ≠ (v457 : Value).ownBlock ∧ some k_ ≠ (v462 : Value).ownBlock ∧ some k_ ≠ (v465 : Value).ownBlock ∧ some k_ ≠ (v470 : Value).ownBlock) (.slice Ao16 t447.length co16) t447) ∧ Aside0 (w'.heap[gb452]? = some (.cells #[(.slice Ao14 t444.length co14), (.slice Ao16 t447.length co16), .bool t450, .bool t451] 29 (0, 0))) ∧ Aside0 (Below w.heap.size w w'))
          case atStart => exact ⟨(0), (by first | rfl | (simp; done) | (simp [*]; done)), H', ⟨Nat.le_refl _⟩, ⟨by (with_reducible repeat (first | apply Kd.R_alloc | apply Kd.R_drewN | apply Kd.R_drew)); exact HO_6.out⟩, ⟨by (with_reducible repeat (first | apply Kd.R_alloc | apply Kd.R_drewN | apply Kd.R_drew)); exact HO_7.out⟩, ⟨by (with_reducible repeat (first | apply Kd.R_alloc | apply Kd.R_drewN | apply Kd.R_drew)); exact HO_9.out⟩, ⟨by (with_reducible repeat (first | apply Kd.R_alloc | apply Kd.R_drewN | apply Kd.R_drew)); exact HO_11.out⟩, ⟨by (with_reducible repeat (first | apply Kd.R_alloc | apply Kd.R_drewN | apply Kd.R_drew)); exact HO_13.out⟩, ⟨by (with_reducible repeat (first | apply Kd.N_alloc | apply Kd.N_drewN | apply Kd.N_drew)); exact HO_453000.out⟩, ⟨by (with_reducible repeat (first | apply Kd.R_alloc | apply Kd.R_drewN | apply Kd.R_drew)); exact HO_453001.out⟩, ⟨by (with_reducible repeat (first | refine blk_drewN ?_ _ | refine blk_drew ?_ | refine blk_alloc ?_ _)); exact BK452.out⟩, ⟨by repeat (first | (with_reducible first | exact HB.out | apply below_alloc | apply pw_below_drewN | apply below_drew1 | refine below_set ?_ GE452.out) | exact HB.out)⟩⟩
          case round =>
            clear H'
            try clear c1
            try clear c2
            try clear p2
            try clear c3
            try clear c4
            try clear c5
            try clear c6
            try clear c7
            try clear c8
            try clear c9
            try clear c10
            try clear c11
            try clear c25
            try clear c26
            try clear c27
            try clear c28
            try clear c30
            try clear hcz15_0
            try clear hcz15_1
            try clear hcz15_2
            try clear hcz15_3
            try clear hcz18_0
            try clear hcz18_1
            try clear hcz18_2
            try clear hcz18_3
            try clear hcz22_0
            try clear hcz22_1
            try clear hcz22_2
            try clear hcz22_3
            try clear hfz15_0
            try clear hfz15_1
            try clear hfz15_2
            try clear hfz15_3
            try clear hfz18_0
            try clear hfz18_1
            try clear hfz18_2
            try clear hfz18_3
            try clear hfz22_0
            try clear hfz22_1
            try clear hfz22_2
            try clear hfz22_3
            try clear p2
            obtain ⟨x15_2, rfl, HA, HK2, HO_6, HO_7, HO_9, HO_11, HO_13, HO_453000, HO_453001, BK452, HB⟩ := hrel
            cases gk with
            | zero => exact absurd HA.out (by simp [laws_FnReads.l0])
            | succ k2 =>
              have H := HA.out
              clear HA
              simp only [laws_FnReads.l0] at H
              by_cases c31 : x15_2 < (t468.length : Int)
              · rw [if_pos c31] at H
                have c31b0 : decide (x15_2 < (t468.length : Int)) = true := decide_eq_true c31
                clear c31
                have H' := Aside0.mk H
                clear H
                obtain ⟨Ao32, co32, eo32⟩ := Kd.R_slice HO_13.out
                subst eo32
                go_wp2
                go_loopg [16, 17] k2 (fun kq v16 v17 w' => ∃ (x16_3 : Int) (x17_3 : Int), v16 = .int .i64 x16_3 ∧ v17 = .int .i64 x17_3 ∧ Aside0 (laws_FnReads.l1 kq t453 t456 t460 t464 t468 x15_2 x16_3 x17_3 = some r) ∧ Aside0 (kq ≤ k2) ∧ Aside0 (Kd.R k37 37 w' w.heap.size (fun _ => True) (.slice Ao19 t453.length co19) t453) ∧ Aside0 (Kd.R (Kd.int .i64) 2 w' w.heap.size (fun k_ => some k_ ≠ (v462 : Value).ownBlock ∧ some k_ ≠ (v465 : Value).ownBlock ∧ some k_ ≠ ((.slice Ao32 t468.length co32) : Value).ownBlock ∧ some k_ ≠ ((.slice Ao16 t447.length co16) : Value).ownBlock) v457 t456) ∧ Aside0 (Kd.R (Kd.int .i64) 2 w' w.heap.size (fun k_ => some k_ ≠ (v457 : Value).ownBlock ∧ some k_ ≠ (v465 : Value).ownBlock ∧ some k_ ≠ ((.slice Ao32 t468.length co32) : Value).ownBlock ∧ some k_ ≠ ((.slice Ao16 t447.length co16) : Value).ownBlock) v462 t460) ∧ Aside0 (Kd.R (Kd.int .i64) 2 w' w.heap.size (fun k_ => some k_ ≠ (v457 : Value).ownBlock ∧ some k_ ≠ (v462 : Value).ownBlock ∧ some k_ ≠ ((.slice Ao32 t468.length co32) : Value).ownBlock ∧ some k_ ≠ ((.slice Ao16 t447.length co16) : Value).ownBlock) v465 t464) ∧ Aside0 (Kd.R (Kd.int .i64) 2 w' w.heap.size (fun k_ => some k_ ≠ (v457 : Value).ownBlock ∧ some k_ ≠ (v462 : Value).ownBlock ∧ some k_ ≠ (v465 : Value).ownBlock ∧ some k_ ≠ ((.slice Ao16 t447.length co16) : Value).ownBlock) (.slice Ao32 t468.length co32) t468) ∧ Aside0 (Kd.N (Kd.slice 2 (Kd.int .i64)) 25 w' w.heap.size (fun k_ => some k_ ≠ ((.slice Ao19 t453.length co19) : Value).ownBlock ∧ some k_ ≠ (v457 : Value).ownBlock ∧ some k_ ≠ (v462 : Value).ownBlock ∧ some k_ ≠ (v465 : Value).ownBlock ∧ some k_ ≠ ((.slice Ao32 t468.length co32) : Value).ownBlock ∧ some k_ ≠ ((.slice Ao16 t447.length co16) : Value).ownBlock ∧ k_ ≠ gb452) (.slice Ao14 t444.length co14) t444) ∧ Aside0 (Kd.R (Kd.int .i64) 2 w' w.heap.size (fun k_ => some k_ ≠ (v457 : Value).ownBlock ∧ some k_ ≠ (v462 : Value).ownBlock ∧ some k_ ≠ (v465 : Value).ownBlock ∧ some k_ ≠ ((.slice Ao32 t468.length co32) : Value).ownBlock) (.slice Ao16 t447.length co16) t447) ∧ Aside0 (w'.heap[gb452]? = some (.cells #[(.slice Ao14 t444.length co14), (.slice Ao16 t447.length co16), .bool t450, .bool t451] 29 (0, 0))) ∧ Aside0 (Below w.heap.size w w'))
                case atStart => exact ⟨(0), (0), (by first | rfl | (simp; done) | (simp [*]; done)), (by first | rfl | (simp; done) | (simp [*]; done)), H', ⟨Nat.le_refl _⟩, ⟨by (with_reducible repeat (first | apply Kd.R_alloc | apply Kd.R_drewN | apply Kd.R_drew)); exact HO_6.out⟩, ⟨by (with_reducible repeat (first | apply Kd.R_alloc | apply Kd.R_drewN | apply Kd.R_drew)); exact HO_7.out⟩, ⟨by (with_reducible repeat (first | apply Kd.R_alloc | apply Kd.R_drewN | apply Kd.R_drew)); exact HO_9.out⟩, ⟨by (with_reducible repeat (first | apply Kd.R_alloc | apply Kd.R_drewN | apply Kd.R_drew)); exact HO_11.out⟩, ⟨by (with_reducible repeat (first | apply Kd.R_alloc | apply Kd.R_drewN | apply Kd.R_drew)); exact HO_13.out⟩, ⟨by (with_reducible repeat (first | apply Kd.N_alloc | apply Kd.N_drewN | apply Kd.N_drew)); exact HO_453000.out⟩, ⟨by (with_reducible repeat (first | apply Kd.R_alloc | apply Kd.R_drewN | apply Kd.R_drew)); exact HO_453001.out⟩, ⟨by (with_reducible repeat (first | refine blk_drewN ?_ _ | refine blk_drew ?_ | refine blk_alloc ?_ _)); exact BK452.out⟩, ⟨by repeat (first | (with_reducible first | exact HB.out | apply below_alloc | apply pw_below_drewN | apply below_drew1 | refine below_set ?_ GE452.out) | exact HB.out)⟩⟩
                case round =>
                  clear H'
                  try clear c1
                  try clear c2
                  try clear p2
                  try clear c3
                  try clear c4
                  try clear c5
                  try clear c6
                  try clear c7
                  try clear c8
                  try clear c9
                  try clear c10
                  try clear c11
                  try clear c25
                  try clear c26
                  try clear c27
                  try clear c28
                  try clear c30
                  try clear c31
                  try clear c31b0
                  try clear hcz15_0
                  try clear hcz15_1
                  try clear hcz15_2
                  try clear hcz15_3
                  try clear hcz18_0
                  try clear hcz18_1
                  try clear hcz18_2
                  try clear hcz18_3
                  try clear hcz22_0
                  try clear hcz22_1
                  try clear hcz22_2
                  try clear hcz22_3
                  try clear hfz15_0
                  try clear hfz15_1
                  try clear hfz15_2
                  try clear hfz15_3
                  try clear hfz18_0
                  try clear hfz18_1
                  try clear hfz18_2
                  try clear hfz18_3
                  try clear hfz22_0
                  try clear hfz22_1
                  try clear hfz22_2
                  try clear hfz22_3
                  try clear p2
                  obtain ⟨x16_3, x17_3, rfl, rfl, HA, HK3, HO_6, HO_7, HO_9, HO_11, HO_13, HO_453000, HO_453001, BK452, HB⟩ := hrel
                  cases gk with
                  | zero => exact absurd HA.out (by simp [laws_FnReads.l1])
                  | succ k3 =>
                    have H := HA.out
                    clear HA
                    simp only [laws_FnReads.l1] at H
                    by_cases c33 : x17_3 < (t453.length : Int)
                    · rw [if_pos c33] at H
                      have c33b0 : decide (x17_3 < (t453.length : Int)) = true := decide_eq_true c33
                      clear c33
                      by_cases c34 : 0 ≤ x17_3
                      · rw [if_pos c34] at H
                        have c34b0 : decide (0 ≤ x17_3) = true := decide_eq_true c34
                        clear c34
                        by_cases c35 : ((rd_T37 t453 x17_3).f0) = 1
                        · rw [if_pos c35] at H
                          have c35b0 : (((rd_T37 t453 x17_3).f0) == 1) = true := beq_iff_eq.mpr c35
                          have c35b1 : (((rd_T37 t453 x17_3).f0) != 1) = false := bne_eq_false_iff_eq.mpr c35
                          clear c35
                          by_cases c36 : ((rd_T37 t453 x17_3).f1) = x15_2
                          · rw [if_pos c36] at H
                            have c36b0 : (((rd_T37 t453 x17_3).f1) == x15_2) = true := beq_iff_eq.mpr c36
                            have c36b1 : (((rd_T37 t453 x17_3).f1) != x15_2) = false := bne_eq_false_iff_eq.mpr c36
                            clear c36
                            have H' := Aside0.mk H
                            clear H
                            have p474 : 0 ≤ (x17_3 : Int) := of_decide_eq_true (by first | (with_reducible assumption) | assumption)
                            have q474 : x17_3 < (t453.length : Int) := of_decide_eq_true (by first | (with_reducible assumption) | assumption)
                            obtain ⟨ad474, e474, hx474_0, hx474_1⟩ := at_T37 (Kd.R_reads' HO_6.out).2.2 x17_3 p474 q474
                            cases e474
                            replace p474 := eq_true p474
                            replace q474 := eq_true q474
                            have p475 : 0 ≤ (x17_3 : Int) := of_decide_eq_true (by first | (with_reducible assumption) | assumption)
                            have q475 : x17_3 < (t453.length : Int) := of_decide_eq_true (by first | (with_reducible assumption) | assumption)
                            obtain ⟨ad475, e475, hx475_0, hx475_1⟩ := at_T37 (Kd.R_reads' HO_6.out).2.2 x17_3 p475 q475
                            obtain rfl : ad474 = ad475 := (by injection e475)
                            replace p475 := eq_true p475
                            replace q475 := eq_true q475
                            go_wp2
                            go_roundg k3
                            case measure => have := HJ10.out; have := HK2.out; have := HK3.out; omega
                            case rel => exact ⟨(wrap64 (x17_3 + 1)), (wrap64 (x17_3 + 1)), (by first | rfl | (simp; done) | (simp [*]; done)), (by first | rfl | (simp; done) | (simp [*]; done)), H', ⟨by have := HJ10.out; have := HK2.out; have := HK3.out; omega⟩, ⟨by (with_reducible repeat (first | apply Kd.R_alloc | apply Kd.R_drewN | apply Kd.R_drew)); exact HO_6.out⟩, ⟨by (with_reducible repeat (first | apply Kd.R_alloc | apply Kd.R_drewN | apply Kd.R_drew)); exact HO_7.out⟩, ⟨by (with_reducible repeat (first | apply Kd.R_alloc | apply Kd.R_drewN | apply Kd.R_drew)); exact HO_9.out⟩, ⟨by (with_reducible repeat (first | apply Kd.R_alloc | apply Kd.R_drewN | apply Kd.R_drew)); exact HO_11.out⟩, ⟨by (with_reducible repeat (first | apply Kd.R_alloc | apply Kd.R_drewN | apply Kd.R_drew)); exact HO_13.out⟩, ⟨by (with_reducible repeat (first | apply Kd.N_alloc | apply Kd.N_drewN | apply Kd.N_drew)); exact HO_453000.out⟩, ⟨by (with_reducible repeat (first | apply Kd.R_alloc | apply Kd.R_drewN | apply Kd.R_drew)); exact HO_453001.out⟩, ⟨by (with_reducible repeat (first | refine blk_drewN ?_ _ | refine blk_drew ?_ | refine blk_alloc ?_ _)); exact BK452.out⟩, ⟨by repeat (first | (with_reducible first | exact HB.out | apply below_alloc | apply pw_below_drewN | apply below_drew1 | refine below_set ?_ GE452.out) | exact HB.out)⟩⟩
                          · rw [if_neg c36] at H
                            have c36b0 : (((rd_T37 t453 x17_3).f1) == x15_2) = false := beq_eq_false_iff_ne.mpr c36
                            have c36b1 : (((rd_T37 t453 x17_3).f1) != x15_2) = true := bne_iff_ne.mpr c36
                            have H' := Aside0.mk H
                            clear H
                            have p474 : 0 ≤ (x17_3 : Int) := of_decide_eq_true (by first | (with_reducible assumption) | assumption)
                            have q474 : x17_3 < (t453.length : Int) := of_decide_eq_true (by first | (with_reducible assumption) | assumption)
                            obtain ⟨ad474, e474, hx474_0, hx474_1⟩ := at_T37 (Kd.R_reads' HO_6.out).2.2 x17_3 p474 q474
                            cases e474
                            replace p474 := eq_true p474
                            replace q474 := eq_true q474
                            have p475 : 0 ≤ (x17_3 : Int) := of_decide_eq_true (by first | (with_reducible assumption) | assumption)
                            have q475 : x17_3 < (t453.length : Int) := of_decide_eq_true (by first | (with_reducible assumption) | assumption)
                            obtain ⟨ad475, e475, hx475_0, hx475_1⟩ := at_T37 (Kd.R_reads' HO_6.out).2.2 x17_3 p475 q475
                            obtain rfl : ad474 = ad475 := (by injection e475)
                            replace p475 := eq_true p475
                            replace q475 := eq_true q475
                            go_wp2
                            go_roundg k3
                            case measure => have := HJ10.out; have := HK2.out; have := HK3.out; omega
                            case rel => exact ⟨(x16_3), (wrap64 (x17_3 + 1)), (by first | rfl | (simp; done) | (simp [*]; done)), (by first | rfl | (simp; done) | (simp [*]; done)), H', ⟨by have := HJ10.out; have := HK2.out; have := HK3.out; omega⟩, ⟨by (with_reducible repeat (first | apply Kd.R_alloc | apply Kd.R_drewN | apply Kd.R_drew)); exact HO_6.out⟩, ⟨by (with_reducible repeat (first | apply Kd.R_alloc | apply Kd.R_drewN | apply Kd.R_drew)); exact HO_7.out⟩, ⟨by (with_reducible repeat (first | apply Kd.R_alloc | apply Kd.R_drewN | apply Kd.R_drew)); exact HO_9.out⟩, ⟨by (with_reducible repeat (first | apply Kd.R_alloc | apply Kd.R_drewN | apply Kd.R_drew)); exact HO_11.out⟩, ⟨by (with_reducible repeat (first | apply Kd.R_alloc | apply Kd.R_drewN | apply Kd.R_drew)); exact HO_13.out⟩, ⟨by (with_reducible repeat (first | apply Kd.N_alloc | apply Kd.N_drewN | apply Kd.N_drew)); exact HO_453000.out⟩, ⟨by (with_reducible repeat (first | apply Kd.R_alloc | apply Kd.R_drewN | apply Kd.R_drew)); exact HO_453001.out⟩, ⟨by (with_reducible repeat (first | refine blk_drewN ?_ _ | refine blk_drew ?_ | refine blk_alloc ?_ _)); exact BK452.out⟩, ⟨by repeat (first | (with_reducible first | exact HB.out | apply below_alloc | apply pw_below_drewN | apply below_drew1 | refine below_set ?_ GE452.out) | exact HB.out)⟩⟩
                        · rw [if_neg c35] at H
                          have c35b0 : (((rd_T37 t453 x17_3).f0) == 1) = false := beq_eq_false_iff_ne.mpr c35
                          have c35b1 : (((rd_T37 t453 x17_3).f0) != 1) = true := bne_iff_ne.mpr c35
                          have H' := Aside0.mk H
                          clear H
                          have p474 : 0 ≤ (x17_3 : Int) := of_decide_eq_true (by first | (with_reducible assumption) | assumption)
                          have q474 : x17_3 < (t453.length : Int) := of_decide_eq_true (by first | (with_reducible assumption) | assumption)
                          obtain ⟨ad474, e474, hx474_0, hx474_1⟩ := at_T37 (Kd.R_reads' HO_6.out).2.2 x17_3 p474 q474
                          cases e474
                          replace p474 := eq_true p474
                          replace q474 := eq_true q474
                          go_wp2
                          go_roundg k3
                          case measure => have := HJ10.out; have := HK2.out; have := HK3.out; omega
                          case rel => exact ⟨(x16_3), (wrap64 (x17_3 + 1)), (by first | rfl | (simp; done) | (simp [*]; done)), (by first | rfl | (simp; done) | (simp [*]; done)), H', ⟨by have := HJ10.out; have := HK2.out; have := HK3.out; omega⟩, ⟨by (with_reducible repeat (first | apply Kd.R_alloc | apply Kd.R_drewN | apply Kd.R_drew)); exact HO_6.out⟩, ⟨by (with_reducible repeat (first | apply Kd.R_alloc | apply Kd.R_drewN | apply Kd.R_drew)); exact HO_7.out⟩, ⟨by (with_reducible repeat (first | apply Kd.R_alloc | apply Kd.R_drewN | apply Kd.R_drew)); exact HO_9.out⟩, ⟨by (with_reducible repeat (first | apply Kd.R_alloc | apply Kd.R_drewN | apply Kd.R_drew)); exact HO_11.out⟩, ⟨by (with_reducible repeat (first | apply Kd.R_alloc | apply Kd.R_drewN | apply Kd.R_drew)); exact HO_13.out⟩, ⟨by (with_reducible repeat (first | apply Kd.N_alloc | apply Kd.N_drewN | apply Kd.N_drew)); exact HO_453000.out⟩, ⟨by (with_reducible repeat (first | apply Kd.R_alloc | apply Kd.R_drewN | apply Kd.R_drew)); exact HO_453001.out⟩, ⟨by (with_reducible repeat (first | refine blk_drewN ?_ _ | refine blk_drew ?_ | refine blk_alloc ?_ _)); exact BK452.out⟩, ⟨by repeat (first | (with_reducible first | exact HB.out | apply below_alloc | apply pw_below_drewN | apply below_drew1 | refine below_set ?_ GE452.out) | exact HB.out)⟩⟩
                      · rw [if_neg c34] at H
                        exact absurd H (by simp)
                    · rw [if_neg c33] at H
                      have c33b0 : decide (x17_3 < (t453.length : Int)) = false := decide_eq_false c33
                      clear c33
                      by_cases c37 : 0 ≤ x15_2
                      · rw [if_pos c37] at H
                        have c37b0 : decide (0 ≤ x15_2) = true := decide_eq_true c37
                        clear c37
                        by_cases c38 : x15_2 < (t468.length : Int)
                        · rw [if_pos c38] at H
                          have c38b0 : decide (x15_2 < (t468.length : Int)) = true := decide_eq_true c38
                          clear c38
                          by_cases c39 : (rd t468 x15_2) = x16_3
                          · rw [if_pos c39] at H
                            have c39b0 : ((rd t468 x15_2) == x16_3) = true := beq_iff_eq.mpr c39
                            have c39b1 : ((rd t468 x15_2) != x16_3) = false := bne_eq_false_iff_eq.mpr c39
                            clear c39
                            have H' := Aside0.mk H
                            clear H
                            have p476 : 0 ≤ (x15_2 : Int) := of_decide_eq_true (by first | (with_reducible assumption) | assumption)
                            have q476 : x15_2 < (t468.length : Int) := of_decide_eq_true (by first | (with_reducible assumption) | assumption)
                            obtain ⟨ad476, e476, hx476_0⟩ := Kd.at_int (Kd.R_reads' HO_13.out).2.2 x15_2 p476 q476
                            cases e476
                            replace p476 := eq_true p476
                            replace q476 := eq_true q476
                            go_wp2
                            go_roundg k3
                            case measure => have := HJ10.out; have := HK2.out; have := HK3.out; omega
                            case rel => exact ⟨(wrap64 (x15_2 + 1)), (by first | rfl | (simp; done) | (simp [*]; done)), H', ⟨by have := HJ10.out; have := HK2.out; have := HK3.out; omega⟩, ⟨by (with_reducible repeat (first | apply Kd.R_alloc | apply Kd.R_drewN | apply Kd.R_drew)); exact HO_6.out⟩, ⟨by (with_reducible repeat (first | apply Kd.R_alloc | apply Kd.R_drewN | apply Kd.R_drew)); exact HO_7.out⟩, ⟨by (with_reducible repeat (first | apply Kd.R_alloc | apply Kd.R_drewN | apply Kd.R_drew)); exact HO_9.out⟩, ⟨by (with_reducible repeat (first | apply Kd.R_alloc | apply Kd.R_drewN | apply Kd.R_drew)); exact HO_11.out⟩, ⟨by (with_reducible repeat (first | apply Kd.R_alloc | apply Kd.R_drewN | apply Kd.R_drew)); exact HO_13.out⟩, ⟨by (with_reducible repeat (first | apply Kd.N_alloc | apply Kd.N_drewN | apply Kd.N_drew)); exact HO_453000.out⟩, ⟨by (with_reducible repeat (first | apply Kd.R_alloc | apply Kd.R_drewN | apply Kd.R_drew)); exact HO_453001.out⟩, ⟨by (with_reducible repeat (first | refine blk_drewN ?_ _ | refine blk_drew ?_ | refine blk_alloc ?_ _)); exact BK452.out⟩, ⟨by repeat (first | (with_reducible first | exact HB.out | apply below_alloc | apply pw_below_drewN | apply below_drew1 | refine below_set ?_ GE452.out) | exact HB.out)⟩⟩
                          · rw [if_neg c39] at H
                            have c39b0 : ((rd t468 x15_2) == x16_3) = false := beq_eq_false_iff_ne.mpr c39
                            have c39b1 : ((rd t468 x15_2) != x16_3) = true := bne_iff_ne.mpr c39
                            obtain rfl := Option.some.inj H
                            have p476 : 0 ≤ (x15_2 : Int) := of_decide_eq_true (by first | (with_reducible assumption) | assumption)
                            have q476 : x15_2 < (t468.length : Int) := of_decide_eq_true (by first | (with_reducible assumption) | assumption)
                            obtain ⟨ad476, e476, hx476_0⟩ := Kd.at_int (Kd.R_reads' HO_13.out).2.2 x15_2 p476 q476
                            cases e476
                            replace p476 := eq_true p476
                            replace q476 := eq_true q476
                            go_wp2
                            go_ret
                            exact ⟨by first | rfl | (simp [errW_none, errW_some] <;> rfl) | (simp [*, errW_none, errW_some] <;> rfl), by repeat (first | (with_reducible first | exact HB.out | apply below_alloc | apply pw_below_drewN | apply below_drew1 | refine below_set ?_ GE452.out) | exact HB.out)⟩
                        · rw [if_neg c38] at H
                          exact absurd H (by simp)
                      · rw [if_neg c37] at H
                        exact absurd H (by simp)
              · rw [if_neg c31] at H
                have c31b0 : decide (x15_2 < (t468.length : Int)) = false := decide_eq_false c31
                clear c31
                replace H := Option.bind_eq_some_iff.mp H
                obtain ⟨t472, A400, H⟩ := H
                replace H : (if t472 = true then ((laws_b10Nums.f k2 t464 t468).bind fun t473 => (some t473)) else (some false)) = some r := H
                have A40 := Aside0.mk A400
                clear A400
                by_cases c41 : t472 = true
                · subst c41
                  have H1 : ((laws_b10Nums.f k2 t464 t468).bind fun t473 => (some t473)) = some r := by rw [if_pos rfl] at H; exact H
                  clear H
                  have H := H1
                  clear H1
                  replace H := Option.bind_eq_some_iff.mp H
                  obtain ⟨t473, A420, H⟩ := H
                  replace H : (some t473) = some r := H
                  have A42 := Aside0.mk A420
                  clear A420
                  obtain rfl := Option.some.inj H
                  obtain ⟨Ao43, co43, eo43⟩ := Kd.R_slice HO_13.out
                  subst eo43
                  obtain ⟨Ao44, co44, eo44⟩ := Kd.R_slice HO_7.out
                  subst eo44
                  obtain ⟨Ao45, co45, eo45⟩ := Kd.R_slice HO_9.out
                  subst eo45
                  go_wp2_with (first | ((with_reducible refine gate_callee (f := 12) rfl ?_); refine goesL_ (some 103) rfl rfl Try.func12 (by kernel_rfl) rfl #[.slice Ao44 t456.length co44, .slice Ao45 t460.length co45] rfl (by (try simp only [List.map_toArray, List.map_cons, List.map_nil]); first | done | rfl | (simp only [List.length_drop, List.length_take]; rfl)) ?_; (with_reducible refine (laws_b10Nums.calls k2 _ _ t456 _ _ t460 true _ ?side1 ?side2 ?side3 ?side4 A40.out).mono ?_); (case side1 => repeat (first | exact (Kd.R_reads' HO_7.out).2.2 | (with_reducible refine Kd.C_alloc ?_ _) | (with_reducible refine Kd.C_drewN ?_ _) | (with_reducible refine Kd.C_drew ?_))); (case side2 => exact (Kd.R_reads' HO_7.out).2.1); (case side3 => repeat (first | exact (Kd.R_reads' HO_9.out).2.2 | (with_reducible refine Kd.C_alloc ?_ _) | (with_reducible refine Kd.C_drewN ?_ _) | (with_reducible refine Kd.C_drew ?_))); (case side4 => exact (Kd.R_reads' HO_9.out).2.1); rintro e w' ⟨rfl, ⟨nd, rfl⟩⟩; refine ⟨_, rfl, ?_⟩; obtain ⟨Ao46, co46, eo46⟩ := Kd.R_slice HO_11.out; subst eo46) | (go_at_call 12; (with_reducible refine (laws_b10Nums.calls k2 _ _ t464 _ _ t468 t473 _ ?side1 ?side2 ?side3 ?side4 A42.out).mono ?_); (case side1 => repeat (first | exact (Kd.R_reads' HO_11.out).2.2 | (with_reducible refine Kd.C_alloc ?_ _) | (with_reducible refine Kd.C_drewN ?_ _) | (with_reducible refine Kd.C_drew ?_))); (case side2 => exact (Kd.R_reads' HO_11.out).2.1); (case side3 => repeat (first | exact (Kd.R_reads' HO_13.out).2.2 | (with_reducible refine Kd.C_alloc ?_ _) | (with_reducible refine Kd.C_drewN ?_ _) | (with_reducible refine Kd.C_drew ?_))); (case side4 => exact (Kd.R_reads' HO_13.out).2.1); rintro e w' ⟨rfl, ⟨nd, rfl⟩⟩))
                  go_ret
                  exact ⟨by first | rfl | (simp [errW_none, errW_some] <;> rfl) | (simp [*, errW_none, errW_some] <;> rfl), by repeat (first | (with_reducible first | exact HB.out | apply below_alloc | apply pw_below_drewN | apply below_drew1 | refine below_set ?_ GE452.out) | exact HB.out)⟩
                · replace c41 := Bool.eq_false_iff.mpr c41
                  subst c41
                  have H1 : (some false) = some r := by rw [if_neg (show ¬ (false = true) by decide)] at H; exact H
                  clear H
                  have H := H1
                  clear H1
                  obtain rfl := Option.some.inj H
                  obtain ⟨Ao47, co47, eo47⟩ := Kd.R_slice HO_13.out
                  subst eo47
                  obtain ⟨Ao48, co48, eo48⟩ := Kd.R_slice HO_7.out
                  subst eo48
                  obtain ⟨Ao49, co49, eo49⟩ := Kd.R_slice HO_9.out
                  subst eo49
                  go_wp2_with (first | ((with_reducible refine gate_callee (f := 12) rfl ?_); refine goesL_ (some 103) rfl rfl Try.func12 (by kernel_rfl) rfl #[.slice Ao48 t456.length co48, .slice Ao49 t460.length co49] rfl (by (try simp only [List.map_toArray, List.map_cons, List.map_nil]); first | done | rfl | (simp only [List.length_drop, List.length_take]; rfl)) ?_; (with_reducible refine (laws_b10Nums.calls k2 _ _ t456 _ _ t460 false _ ?side1 ?side2 ?side3 ?side4 A40.out).mono ?_); (case side1 => repeat (first | exact (Kd.R_reads' HO_7.out).2.2 | (with_reducible refine Kd.C_alloc ?_ _) | (with_reducible refine Kd.C_drewN ?_ _) | (with_reducible refine Kd.C_drew ?_))); (case side2 => exact (Kd.R_reads' HO_7.out).2.1); (case side3 => repeat (first | exact (Kd.R_reads' HO_9.out).2.2 | (with_reducible refine Kd.C_alloc ?_ _) | (with_reducible refine Kd.C_drewN ?_ _) | (with_reducible refine Kd.C_drew ?_))); (case side4 => exact (Kd.R_reads' HO_9.out).2.1); rintro e w' ⟨rfl, ⟨nd, rfl⟩⟩; refine ⟨_, rfl, ?_⟩))
                  go_ret
                  exact ⟨by first | rfl | (simp [errW_none, errW_some] <;> rfl) | (simp [*, errW_none, errW_some] <;> rfl), by repeat (first | (with_reducible first | exact HB.out | apply below_alloc | apply pw_below_drewN | apply below_drew1 | refine below_set ?_ GE452.out) | exact HB.out)⟩
/-- THE ONE PURE STATEMENT of laws_FnReads: yours. -/
def laws_FnReads.Pure : Prop := ∀ (l0 : List Int) (l1 : List Int), l0.length ≤ maxLen → l0.length * 1 ≤ 140737488351232 → (∀ x ∈ l0, (Lit.int .u8 x).wf = true) → l1.length ≤ maxLen → l1.length * 1 ≤ 140737488351232 → (∀ x ∈ l1, (Lit.int .u8 x).wf = true) → ∃ k, laws_FnReads.f k l0 l1 = some true
theorem laws_FnReads.walk (P : laws_FnReads.Pure) (a0 : Option Addr) (len0 cap0 : Nat) (z0 : List Int) (a1 : Option Addr) (len1 cap1 : Nat) (z1 : List Int) (w : World) (w0 : (a0 = none ∧ len0 = 0 ∧ cap0 = 0 ∧ z0 = []) ∨ ∃ x, a0 = some x ∧ len0 ≤ cap0 ∧ cap0 ≤ maxLen ∧ z0.length = cap0 ∧ (∀ i, i < z0.length → w.cell? (x.add i) = some (.int .u8 (z0.getD i 0))) ∧ ∀ n ∈ z0, (Lit.int .u8 n).wf = true) (y0 : len0 * 1 ≤ 140737488351232) (w1 : (a1 = none ∧ len1 = 0 ∧ cap1 = 0 ∧ z1 = []) ∨ ∃ x, a1 = some x ∧ len1 ≤ cap1 ∧ cap1 ≤ maxLen ∧ z1.length = cap1 ∧ (∀ i, i < z1.length → w.cell? (x.add i) = some (.int .u8 (z1.getD i 0))) ∧ ∀ n ∈ z1, (Lit.int .u8 n).wf = true) (y1 : len1 * 1 ≤ 140737488351232) :
    Calls Try.prog 3 #[.slice a0 len0 cap0, .slice a1 len1 cap1] w fun e w' => e = .returned (.bool true) ∧ Below w.heap.size w w' := by
  obtain ⟨l0, rfl, hr0, hm0, hw0, hc0⟩ := ReadsInt.ofRowC w0
  obtain ⟨l1, rfl, hr1, hm1, hw1, hc1⟩ := ReadsInt.ofRowC w1
  obtain ⟨k, h⟩ := P l0 l1 hm0 y0 hw0 hm1 y1 hw1
  refine (laws_FnReads.calls k _ _ l0 _ _ l1 true w (Kd.C_of_reads (d := (0 : Int)) (h1 := fun _ => rfl) hr0) hc0 (Kd.C_of_reads (d := (0 : Int)) (h1 := fun _ => rfl) hr1) hc1 h).mono ?_
  rintro e w' ⟨rfl, hd⟩
  exact ⟨rfl, hd⟩
end Go.Proofs.Ytdkpdpdaggnmhaa.PFnReads
