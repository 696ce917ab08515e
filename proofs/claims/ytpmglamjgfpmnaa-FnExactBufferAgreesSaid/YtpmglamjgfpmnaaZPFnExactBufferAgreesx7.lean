-- Printed by this session's own program (wip/tools/xprint.py) over the kit's print; not trusted: Lean checks it.
import Derived.Test.YtpmglamjgfpmnaaZPFnExactBufferAgreesx0
namespace Go.Proofs.Ytpmglamjgfpmnaa.PFnExactBufferAgrees
open Go.RowKit Go.Proofs.YtpmglamjgfpmnaaW.PrintWords Go.Proofs.YtpmglamjgfpmnaaW.PrintLast Go.Proofs.YtpmglamjgfpmnaaW.PrintMore
attribute [local go_sem] max2_int min2_int max_two min_two max_three min_three max_four min_four   -- for this text's walks alone
set_option linter.unusedVariables false
set_option linter.unusedSimpArgs false

/-! ### impl_bufferPlace: function 70 -/
set_option maxHeartbeats 400000 in
/-- slices.IndexFunc over Cached, at whatever closure. -/
theorem xIdxGCached (cl : Nat) (lb : Array Value) (eg : Enters Try.prog cl) (p : S53 → Bool) (A0 : Option Addr) (c0 : Nat) (l0 : List S53) (w : World) (hr0 : Kd.C k53 w A0 l0.length l0)
    (hp : ∀ (W : World) (y : S53), y ∈ l0 → Below w.heap.size w W → Calls Try.prog cl (#[.agg #[.int .i64 y.f0, .int .i64 y.f1, .bool y.f2]] ++ lb) W fun e w' => e = .returned (.bool (p y)) ∧ Below W.heap.size W w') :
    Calls Try.prog 72 #[.slice A0 l0.length c0, .func (.func cl) #[] lb] w fun e w' => e = .returned (.int .i64 (xIdx p l0 0)) ∧ Below w.heap.size w w' := by
  have HR0 := Aside0.mk hr0
  have HP := Aside0.mk hp
  have hbig := hr0.2.1
  have eg' : ∀ args w, (callFunc cl args).run Try.prog w = .ok (.enter cl args) w := eg
  clear hr0 hp
  go_enter Try.func72, Try.ntmps72
  go_wp2
  go_loopg [5, 8] l0.length (fun gg _ s8 wr => ∃ kk : Nat, kk ≤ l0.length ∧ l0.length - kk ≤ gg ∧ s8 = .int .i64 kk ∧ Aside0 (Below w.heap.size w wr) ∧ Aside0 (xIdx p l0 0 = xIdx p (l0.drop kk) (kk : Int)))
  case atStart => exact ⟨0, Nat.zero_le _, by omega, rfl, ⟨Below.refl _ w⟩, ⟨by simp⟩⟩
  case round =>
    obtain ⟨kk, hkk, hg, rfl, BW, AX⟩ := hrel
    by_cases hlt : kk < l0.length
    · have hltz : (kk : Int) < (l0.length : Int) := by omega
      obtain ⟨ad, e, hx0, hx1, hx2⟩ := at_T53 (Kd.C_below HR0.out BW.out) (kk : Int) (by omega) hltz
      subst e
      obtain ⟨y, hy⟩ : ∃ y, y = rd_T53 l0 (kk : Int) := ⟨_, rfl⟩
      have hmem : y ∈ l0 := by rw [hy]; unfold rd_T53; rw [Int.toNat_natCast, getD_lt l0 kk _ hlt]; exact List.getElem_mem _
      rw [← hy] at hx0 hx1 hx2
      simp only [Int.toNat_natCast] at hx0 hx1 hx2
      have HY := Aside0.mk hy
      clear hy
      have hcall := HP.out _ y hmem BW.out
      cases hq : p y with
      | true =>
        rw [hq] at hcall
        have HQ := Aside0.mk hq
        have HCL := Aside0.mk hcall
        clear hq hcall
        go_wp2_with (go_at_fn cl; refine HCL.out.mono ?_; rintro e w' ⟨rfl, hb'⟩)
        go_ret
        refine ⟨?_, below_le BW.out hb'⟩
        have hyy : p (l0.getD kk z53) = true := by have := HQ.out; rw [HY.out] at this; exact this
        rw [AX.out, xIdx_drop_hit _ _ _ _ hlt _ hyy]
        rfl
      | false =>
        rw [hq] at hcall
        have HQ := Aside0.mk hq
        have HCL := Aside0.mk hcall
        clear hq hcall
        go_wp2_with (go_at_fn cl; refine HCL.out.mono ?_; rintro e w' ⟨rfl, hb'⟩)
        go_roundg (l0.length - (kk + 1))
        case measure => omega
        case rel =>
          have hyy : p (l0.getD kk z53) = false := by have := HQ.out; rw [HY.out] at this; exact this
          exact ⟨kk + 1, by omega, by omega, by go_num, ⟨below_le BW.out hb'⟩, ⟨by rw [AX.out, xIdx_drop_miss _ _ _ _ hlt _ hyy]; rfl⟩⟩
    · have hltz : ¬ (kk : Int) < (l0.length : Int) := by omega
      have hle : l0.length ≤ kk := by omega
      go_wp2
      go_ret
      refine ⟨?_, BW.out⟩
      rw [AX.out, xIdx_drop_end _ _ _ hle]
      rfl
set_option maxHeartbeats 400000 in
theorem xHasGCached (cl : Nat) (lb : Array Value) (eg : Enters Try.prog cl) (p : S53 → Bool) (A0 : Option Addr) (c0 : Nat) (l0 : List S53) (w : World) (hr0 : Kd.C k53 w A0 l0.length l0)
    (hp : ∀ (W : World) (y : S53), y ∈ l0 → Below w.heap.size w W → Calls Try.prog cl (#[.agg #[.int .i64 y.f0, .int .i64 y.f1, .bool y.f2]] ++ lb) W fun e w' => e = .returned (.bool (p y)) ∧ Below W.heap.size W w') :
    Calls Try.prog 35 #[.slice A0 l0.length c0, .func (.func cl) #[] lb] w fun e w' => e = .returned (.bool (l0.any p)) ∧ Below w.heap.size w w' := by
  have HE := Aside0.mk (xIdx_nonneg p l0 0 (Int.le_refl _))
  have HR0 := Aside0.mk hr0
  have HP := Aside0.mk hp
  clear hr0 hp
  go_enter Try.func35, Try.ntmps35
  go_wp2_with (go_at_call 72; (refine (xIdxGCached cl lb eg p A0 c0 l0 _ HR0.out HP.out).mono ?_); rintro e w' ⟨rfl, hb'⟩)
  go_ret
  exact ⟨by rw [← HE.out]; rfl, hb'⟩
set_option maxHeartbeats 400000 in
theorem xBpCl (p : Int) (g : Nat) (W : World) (y : S53) (h : W.cell? ⟨g, 0, none⟩ = some (.int .i64 p)) :
    Calls Try.prog 88 (#[.agg #[.int .i64 y.f0, .int .i64 y.f1, .bool y.f2]] ++ #[.pointer (some ⟨g, 0, none⟩)]) W fun e w' => e = .returned (.bool (decide (y.f0 = p))) ∧ Below W.heap.size W w' := by
  show Calls _ _ #[.agg #[.int .i64 y.f0, .int .i64 y.f1, .bool y.f2], .pointer (some ⟨g, 0, none⟩)] _ _
  obtain ⟨b, hb⟩ : ∃ b, b = decide (y.f0 = p) := ⟨_, rfl⟩
  have hb' : (y.f0 == p) = b := by rw [hb]; rfl
  have hg : g < W.heap.size := World.block_lt_of_cell? _ _ h
  rw [← hb]
  clear hb
  go_enter Try.func88, Try.ntmps88
  go_wp2
  all_goals (go_ret; exact ⟨by first | rfl | (rw [hb']) | (simp [hb']), by first | exact below_alloc (Below.refl _ _) _ | exact Below.refl _ _⟩)
def impl_bufferPlace.f (l0 : List S53) (a1 : Int) : Option Int := some (xIdx (fun c => decide (c.f0 = a1)) l0 0)
set_option maxHeartbeats 400000 in
theorem impl_bufferPlace.calls (A0 : Option Addr) (c0 : Nat) (l0 : List S53) (a1 : Int) (r : Int) (w : World) (hr0 : Kd.C k53 w A0 l0.length l0) (hc0 : l0.length ≤ c0) (h : impl_bufferPlace.f l0 a1 = some r) :
    Calls Try.prog 70 #[.slice A0 l0.length c0, .int .i64 a1] w fun e w' => e = .returned (.int .i64 r) ∧ Below w.heap.size w w' := by
  obtain rfl := Option.some.inj h
  have HR0 := Aside0.mk hr0
  clear hr0 h
  have hB : Below w.heap.size w (w.alloc (.cells #[.int .i64 a1] 2)) := below_alloc (Below.refl _ _) _
  have HC := Aside0.mk (xIdxGCached 88 #[.pointer (some ⟨w.heap.size, 0, none⟩)] (enters_of Try.func88 (by kernel_rfl) rfl) (fun c => decide (c.f0 = a1)) A0 c0 l0 (w.alloc (.cells #[.int .i64 a1] 2)) (Kd.C_alloc HR0.out _)
    (fun W y _ hW => xBpCl a1 w.heap.size W y (blk_cell ((hW.block w.heap.size (by simp)).trans (heap_alloc_new w _)) 0)))
  obtain ⟨q, hq⟩ : ∃ q, q = xIdx (fun c : S53 => decide (c.f0 = a1)) l0 0 := ⟨_, rfl⟩
  rw [← hq] at HC ⊢
  clear hq
  go_enter Try.func70, Try.ntmps70
  go_wp2_with (go_at_call 72; (refine HC.out.mono ?_); rintro e w' ⟨rfl, hb'⟩)
  go_ret
  exact ⟨rfl, below_le hB hb'⟩


/-! ### impl_setOf: function 71 -/
def impl_setOf.f (l0 : List Int) : Option (List Int) := if l0.length ≤ 1048576 then some (setI l0) else none
theorem impl_setOf.calls (A0 : Option Addr) (c0 : Nat) (l0 : List Int) (r : List Int) (w : World) (hr0 : Kd.C (Kd.int .i64) w A0 l0.length l0) (hc0 : l0.length ≤ c0) (h : impl_setOf.f l0 = some r) :
    Calls Try.prog 71 #[.slice A0 l0.length c0] w fun e w' => ∃ v0_ : Value, e = .returned v0_ ∧ Kd.R (Kd.int .i64) 2 w' w.heap.size (fun _ => True) v0_ r ∧ Below w.heap.size w w' := by
  unfold impl_setOf.f at h
  split at h
  · obtain rfl := Option.some.inj h
    exact svSetOf A0 c0 l0 w hr0 (by omega)
  · cases h


end Go.Proofs.Ytpmglamjgfpmnaa.PFnExactBufferAgrees
