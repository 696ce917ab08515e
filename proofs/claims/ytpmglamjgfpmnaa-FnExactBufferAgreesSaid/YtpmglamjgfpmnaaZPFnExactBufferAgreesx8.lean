-- Printed by this session's own program (wip/tools/xprint.py) over the kit's print; not trusted: Lean checks it.
import Derived.Test.YtpmglamjgfpmnaaZPFnExactBufferAgreesx0
import Derived.Test.YtpmglamjgfpmnaaZPFnExactBufferAgreesx6
import Derived.Test.YtpmglamjgfpmnaaZPFnExactBufferAgreesx7
namespace Go.Proofs.Ytpmglamjgfpmnaa.PFnExactBufferAgrees
open Go.RowKit Go.Proofs.YtpmglamjgfpmnaaW.PrintWords Go.Proofs.YtpmglamjgfpmnaaW.PrintLast Go.Proofs.YtpmglamjgfpmnaaW.PrintMore
attribute [local go_sem] max2_int min2_int max_two min_two max_three min_three max_four min_four   -- for this text's walks alone
set_option linter.unusedVariables false
set_option linter.unusedSimpArgs false

/-! ### impl_ValidSpace: function 34 -/
set_option maxHeartbeats 400000 in
/-- slices.IndexFunc over whole numbers, at whatever closure. -/
theorem xIdxInts (cl : Nat) (lb : Array Value) (eg : Enters Try.prog cl) (p : Int → Bool) (A0 : Option Addr) (c0 : Nat) (l0 : List Int) (w : World) (hr0 : Kd.C (Kd.int .i64) w A0 l0.length l0)
    (hp : ∀ (W : World) (y : Int), y ∈ l0 → Below w.heap.size w W → Calls Try.prog cl (#[.int .i64 y] ++ lb) W fun e w' => e = .returned (.bool (p y)) ∧ Below W.heap.size W w') :
    Calls Try.prog 79 #[.slice A0 l0.length c0, .func (.func cl) #[] lb] w fun e w' => e = .returned (.int .i64 (xIdx p l0 0)) ∧ Below w.heap.size w w' := by
  have HR0 := Aside0.mk hr0
  have HP := Aside0.mk hp
  have hbig := hr0.2.1
  have eg' : ∀ args w, (callFunc cl args).run Try.prog w = .ok (.enter cl args) w := eg
  clear hr0 hp
  go_enter Try.func79, Try.ntmps79
  go_wp2
  go_loopg [5, 8] l0.length (fun gg _ s8 wr => ∃ kk : Nat, kk ≤ l0.length ∧ l0.length - kk ≤ gg ∧ s8 = .int .i64 kk ∧ Aside0 (Below w.heap.size w wr) ∧ Aside0 (xIdx p l0 0 = xIdx p (l0.drop kk) (kk : Int)))
  case atStart => exact ⟨0, Nat.zero_le _, by omega, rfl, ⟨Below.refl _ w⟩, ⟨by simp⟩⟩
  case round =>
    obtain ⟨kk, hkk, hg, rfl, BW, AX⟩ := hrel
    by_cases hlt : kk < l0.length
    · have hltz : (kk : Int) < (l0.length : Int) := by omega
      obtain ⟨ad, e, hx0⟩ := at_int (Kd.C_below HR0.out BW.out) kk hlt
      subst e
      obtain ⟨y, hy⟩ : ∃ y, y = l0.getD kk 0 := ⟨_, rfl⟩
      have hmem : y ∈ l0 := by rw [hy, getD_lt l0 kk 0 hlt]; exact List.getElem_mem _
      rw [← hy] at hx0
      have HY := Aside0.mk hy
      clear hy
      have hcall := HP.out _ y hmem BW.out
      cases hq : p y with
      | true =>
        rw [hq] at hcall
        have HQ := Aside0.mk hq
        have HCL := Aside0.mk hcall
        clear hq hcall
        go_wp2_with (go_at_fn cl; refine HCL.out.mono ?_; rintro e w' ⟨rfl, hb'⟩)
        go_ret
        refine ⟨?_, below_le BW.out hb'⟩
        have hyy : p (l0.getD kk 0) = true := by have := HQ.out; rw [HY.out] at this; exact this
        rw [AX.out, xIdx_drop_hit _ _ _ _ hlt _ hyy]
        rfl
      | false =>
        rw [hq] at hcall
        have HQ := Aside0.mk hq
        have HCL := Aside0.mk hcall
        clear hq hcall
        go_wp2_with (go_at_fn cl; refine HCL.out.mono ?_; rintro e w' ⟨rfl, hb'⟩)
        go_roundg (l0.length - (kk + 1))
        case measure => omega
        case rel =>
          have hyy : p (l0.getD kk 0) = false := by have := HQ.out; rw [HY.out] at this; exact this
          exact ⟨kk + 1, by omega, by omega, by go_num, ⟨below_le BW.out hb'⟩, ⟨by rw [AX.out, xIdx_drop_miss _ _ _ _ hlt _ hyy]; rfl⟩⟩
    · have hltz : ¬ (kk : Int) < (l0.length : Int) := by omega
      have hle : l0.length ≤ kk := by omega
      go_wp2
      go_ret
      refine ⟨?_, BW.out⟩
      rw [AX.out, xIdx_drop_end _ _ _ hle]
      rfl
theorem xVsCl (n : Int) (W : World) : FnGives Try.prog 62 #[] #[.int .i64 n] (.bool (decide (n = -1))) W := by
  show Calls Try.prog 62 #[.int .i64 n] W _
  obtain ⟨b, hb⟩ : ∃ b, b = decide (n = -1) := ⟨_, rfl⟩
  have hb' : (n == -1) = b := by rw [hb]; rfl
  rw [← hb]
  clear hb
  go_enter Try.func62, Try.ntmps62
  go_wp2
  all_goals (go_ret; exact ⟨by first | rfl | (rw [hb']) | (simp [hb']), 0, rfl⟩)
theorem xVsClC (n : Int) (W : World) : Calls Try.prog 62 (#[.int .i64 n] ++ #[]) W fun e w' => e = .returned (.bool (decide (n = -1))) ∧ Below W.heap.size W w' := by
  refine Calls.mono (xVsCl n W) ?_
  rintro e w' ⟨rfl, k, rfl⟩
  exact ⟨rfl, pw_below_drewN (Below.refl _ _) k⟩
def usedL (root : List Int) : List Int := root.filter fun n => !decide (n = -1)
set_option maxHeartbeats 800000 in
theorem xVsDelEmpty (A : Option Addr) (c : Nat) (w : World) (hC : Kd.C (Kd.int .i64) w A 0 []) :
    Calls Try.prog 50 #[.slice A 0 c, .func (.func 62) #[] #[]] w fun e w' => e = .returned (.slice A 0 c) ∧ Below w.heap.size w w' := by
  have HX := Aside0.mk (xIdxInts 62 #[] (enters_of Try.func62 (by kernel_rfl) rfl) (fun n => decide (n = -1)) A c [] w hC (fun W y _ _ => xVsClC y W))
  clear hC
  go_enter Try.func50, Try.ntmps50
  go_wp2_with fail
  refine HX.out.mono ?_
  rintro e w' ⟨rfl, hb⟩
  have HB := Aside0.mk hb
  clear hb
  have e0 : xIdx (fun n : Int => decide (n = -1)) [] 0 = -1 := rfl
  rw [e0]
  go_wp2_with fail
  go_ret
  exact ⟨rfl, HB.out⟩
open Go.Shelf Go.Sort in
set_option maxHeartbeats 1000000 in
theorem xVsUsed (A0 : Option Addr) (c0 : Nat) (l : List Int) (w : World) (hr0 : Kd.C (Kd.int .i64) w A0 l.length l) (hl : l.length ≤ 1048576) :
    Calls Try.prog 61 #[.slice A0 l.length c0] w fun e w1 => ∃ v, e = .returned v ∧ Below w.heap.size w w1 ∧ Calls Try.prog 50 #[v, .func (.func 62) #[] #[]] w1 fun e w2 => ∃ A c, e = .returned (.slice A (usedL l).length c) ∧ (usedL l).length ≤ c ∧ Kd.C (Kd.int .i64) w2 A (usedL l).length (usedL l) ∧ Below w.heap.size w w2 := by
  rcases sv_of_C c0 hr0 with ⟨p, rfl, rfl⟩ | ⟨b, off, rfl, hpos, hb, hc⟩
  · have emp : ∀ (A : Option Addr) (c : Nat) (w1 : World), Kd.C (Kd.int .i64) w1 A 0 [] → Below w.heap.size w w1 → Calls Try.prog 50 #[.slice A 0 c, .func (.func 62) #[] #[]] w1 fun e w2 => ∃ A c, e = .returned (.slice A (usedL []).length c) ∧ (usedL []).length ≤ c ∧ Kd.C (Kd.int .i64) w2 A (usedL []).length (usedL []) ∧ Below w.heap.size w w2 := by
      intro A c w1 hC hb
      refine (xVsDelEmpty A c w1 hC).mono ?_
      rintro e w' ⟨rfl, hb'⟩
      exact ⟨A, c, rfl, Nat.zero_le _, Kd.C_below hC hb', below_le hb hb'⟩
    cases A0 with
    | none =>
      refine (Go.Proofs.AnyG.slices_Clone_int_nil Ytpmglamjgfpmnaa.layClone 0 c0 w).mono ?_
      rintro e w' ⟨rfl, rfl⟩
      exact ⟨_, rfl, Below.refl _ _, emp none 0 _ (Kd.C_nil _ _) (Below.refl _ _)⟩
    | some a =>
      refine (Go.Proofs.AnyG.slices_Clone_int_zero Ytpmglamjgfpmnaa.layClone a c0 w).mono ?_
      rintro e w' ⟨v, rfl, hown, _, hb⟩
      have hR : Kd.R (Kd.int .i64) 2 w' w.heap.size (fun _ => True) v [] := Kd.R_of_own hown (fun _ _ => trivial)
      obtain ⟨A, c, rfl, hc, hC⟩ := Kd.R_reads hR
      exact ⟨_, rfl, hb, emp A c w' hC hb⟩
  · refine (Go.Proofs.AnyG.slices_Clone_int Ytpmglamjgfpmnaa.layClone b off l.length c0 l w (Nat.le_refl _) (by omega) (fun j hj => by rw [hc j hj]; simp [List.getD_eq_getElem?_getD])).mono ?_
    rintro e w3 ⟨v, rfl, hown, _, hb3⟩
    rw [List.take_length] at hown
    refine ⟨v, rfl, hb3, ?_⟩
    rcases hown.2 with ⟨rfl, hz⟩ | ⟨g, cap, cur, rfl, hbase, hgb, r1, r2, r3, r4⟩
    · exact absurd hz (by omega)
    · have r4' : cur.toList.take l.length = l.map (Value.int .i64) := by simpa using r4
      have hH : Holds (Value.int .i64) w3 g 0 l.toArray := holds_of_block_i hgb r4'
      have hD := Go.Proofs.AnyE.slices_DeleteFunc Ytpmglamjgfpmnaa.layDeleteFunc (Value.int .i64) (fun _ => rfl) (fun n => decide (n = -1)) 62 #[] (enters_of Try.func62 (by kernel_rfl) rfl) 0 Try.zeroValue2 g 0 cap l.toArray w3
        (fun W x _ => xVsCl x W) (fun n os dk x _ => xVsCl x _) hH (by simp; omega) (by simpa using r1)
      simp only [List.size_toArray] at hD
      refine Calls.mono hD ?_
      rintro e w4 ⟨rfl, q, rfl⟩
      have htl : (usedL l).length ≤ l.length := List.length_filter_le _ _
      have hown := ownsRow_cut (q := q) (ts := usedL l) htl (base := w.heap.size) hbase hgb r1 r2 r3
      have hR : Kd.R (Kd.int .i64) 2 _ w.heap.size (fun _ => True) _ (usedL l) := Kd.R_of_own hown (fun _ _ => trivial)
      have hg := grownBy_sorted_i (w := w3) (g := g) (n := q) (os := #[]) (usedL l ++ List.replicate (l.length - (usedL l).length) 0).toArray
      rw [show ∀ W : World, grow W #[] = W from fun W => by simp [grow]] at hg
      refine ⟨_, _, rfl, ?_, (Kd.R_reads' hR).2.2, hb3.grown hg hb3.size (fun j hj => by cases hj; exact hbase)⟩
      exact Nat.le_trans htl r1
set_option maxHeartbeats 4000000 in
theorem xVs_bad (A0 : Option Addr) (c0 : Nat) (root : List Int) (A1 : Option Addr) (c1 : Nat) (tabs : List (List S37)) (A2 : Option Addr) (c2 : Nat) (buf : List S53) (w : World) (hr0 : Kd.C (Kd.int .i64) w A0 root.length root) (hc0 : root.length ≤ c0) (hr1 : Kd.C (Kd.slice 37 k37) w A1 tabs.length tabs) (hc1 : tabs.length ≤ c1) (hr2 : Kd.C k53 w A2 buf.length buf) (hc2 : buf.length ≤ c2) (hl : root.length ≤ 1048576)
    (e1 b2 o b4 : Bool) (h1 : ((root.length : Int) == 8) = e1) (h2 : decide ((tabs.length : Int) > 8) = b2) (h3 : impl_isOrderOf.f (usedL root) (tabs.length : Int) = some o) (h4 : decide ((buf.length : Int) > 4) = b4) (hbad : (e1 && (!b2 && (o && !b4))) = false) :
    Calls Try.prog 34 #[.agg #[.slice A0 root.length c0, .slice A1 tabs.length c1, .slice A2 buf.length c2]] w fun ed w' => ed = .returned (.bool false) ∧ Below w.heap.size w w' := by
  have h1' : ((root.length : Int) != 8) = !e1 := by rw [← h1]; rfl
  have h2' : decide (8 < (tabs.length : Int)) = b2 := h2
  have h4' : decide (4 < (buf.length : Int)) = b4 := h4
  have HO := Aside0.mk h3
  have hB0 : Below w.heap.size w (w.alloc (.cells #[.slice A0 root.length c0, .slice A1 tabs.length c1, .slice A2 buf.length c2] 32)) := below_alloc (Below.refl _ _) _
  have hn : (w.alloc (.cells #[.slice A0 root.length c0, .slice A1 tabs.length c1, .slice A2 buf.length c2] 32)).heap[w.heap.size]? = some (.cells #[.slice A0 root.length c0, .slice A1 tabs.length c1, .slice A2 buf.length c2] 32 (0, 0)) := heap_alloc_new w _
  have HU := Aside0.mk (xVsUsed A0 c0 root (w.alloc (.cells #[.slice A0 root.length c0, .slice A1 tabs.length c1, .slice A2 buf.length c2] 32)) (Kd.C_below hr0 hB0) hl)
  have HR1 := Aside0.mk hr1
  have HC1 := Aside0.mk hc1
  have HB0 := Aside0.mk hB0
  have HN := Aside0.mk hn
  have HBAD := Aside0.mk hbad
  clear hr0 hc0 hr1 hc1 hr2 hc2 hl h1 h2 h3 h4 hbad hB0 hn
  rcases e1 <;> rcases b2 <;> rcases o <;> rcases b4 <;> (first | (have hb_ := HBAD.out; simp at hb_; done) | skip)
  all_goals simp only [Bool.not_true, Bool.not_false] at h1'
  all_goals go_enter Try.func34, Try.ntmps34
  all_goals go_wp2_with fail
  all_goals refine HU.out.mono ?_
  all_goals rintro ed w1 ⟨v, rfl, hb1, hD⟩
  all_goals clear hb1
  all_goals have HD := Aside0.mk hD
  all_goals clear hD
  all_goals go_wp2_with fail
  all_goals refine HD.out.mono ?_
  all_goals rintro ed w2 ⟨A, c, rfl, hcu, hCu, hb2⟩
  all_goals have HB2 := Aside0.mk (below_le HB0.out hb2)
  all_goals have HCU := Aside0.mk hcu
  all_goals have HU2 := Aside0.mk hCu
  all_goals have hq0 : w2.cell? ⟨w.heap.size, 0, none⟩ = some (.slice A0 root.length c0) := (blk_cell ((hb2.block w.heap.size (by simp)).trans HN.out) 0).trans rfl
  all_goals have hq1 : w2.cell? ⟨w.heap.size, 1, none⟩ = some (.slice A1 tabs.length c1) := (blk_cell ((hb2.block w.heap.size (by simp)).trans HN.out) 1).trans rfl
  all_goals have hq2 : w2.cell? ⟨w.heap.size, 2, none⟩ = some (.slice A2 buf.length c2) := (blk_cell ((hb2.block w.heap.size (by simp)).trans HN.out) 2).trans rfl
  all_goals clear hcu hCu hb2
  all_goals go_wp2_with (first
    | (go_at_call 64; (refine (impl_Entry.calls A1 c1 tabs _ _ (Kd.C_below HR1.out HB2.out) HC1.out rfl).mono ?_); rintro ed w3 ⟨rfl, hd3⟩; have HB3 := Aside0.mk (below_le HB2.out (drawn_below hd3)); have hq2 : w3.cell? ⟨w.heap.size, 2, none⟩ = some (.slice A2 buf.length c2) := ((drawn_below hd3).cell (World.block_lt_of_cell? _ _ hq2)).trans hq2; have HU3 := Aside0.mk (Kd.C_below HU2.out (drawn_below hd3)); clear hd3)
    | (go_at_call 63; (refine (impl_isOrderOf.calls A c (usedL root) _ _ _ HU3.out HCU.out HO.out).mono ?_); rintro ed w4 ⟨rfl, hb4⟩; have HB4 := Aside0.mk (below_le HB3.out hb4); have hq2 : w4.cell? ⟨w.heap.size, 2, none⟩ = some (.slice A2 buf.length c2) := (hb4.cell (World.block_lt_of_cell? _ _ hq2)).trans hq2; clear hb4))
  all_goals go_ret
  all_goals exact ⟨rfl, by first | exact HB4.out | exact HB3.out | exact HB2.out⟩
set_option maxHeartbeats 400000 in
/-- slices.IndexFunc over Entry, at whatever closure. -/
theorem xIdxGEntry (cl : Nat) (lb : Array Value) (eg : Enters Try.prog cl) (p : S37 → Bool) (A0 : Option Addr) (c0 : Nat) (l0 : List S37) (w : World) (hr0 : Kd.C k37 w A0 l0.length l0)
    (hp : ∀ (W : World) (y : S37), y ∈ l0 → Below w.heap.size w W → Calls Try.prog cl (#[.agg #[.int .i64 y.f0, .bool y.f1, .bool y.f2, .bool y.f3]] ++ lb) W fun e w' => e = .returned (.bool (p y)) ∧ Below W.heap.size W w') :
    Calls Try.prog 86 #[.slice A0 l0.length c0, .func (.func cl) #[] lb] w fun e w' => e = .returned (.int .i64 (xIdx p l0 0)) ∧ Below w.heap.size w w' := by
  have HR0 := Aside0.mk hr0
  have HP := Aside0.mk hp
  have hbig := hr0.2.1
  have eg' : ∀ args w, (callFunc cl args).run Try.prog w = .ok (.enter cl args) w := eg
  clear hr0 hp
  go_enter Try.func86, Try.ntmps86
  go_wp2
  go_loopg [5, 8] l0.length (fun gg _ s8 wr => ∃ kk : Nat, kk ≤ l0.length ∧ l0.length - kk ≤ gg ∧ s8 = .int .i64 kk ∧ Aside0 (Below w.heap.size w wr) ∧ Aside0 (xIdx p l0 0 = xIdx p (l0.drop kk) (kk : Int)))
  case atStart => exact ⟨0, Nat.zero_le _, by omega, rfl, ⟨Below.refl _ w⟩, ⟨by simp⟩⟩
  case round =>
    obtain ⟨kk, hkk, hg, rfl, BW, AX⟩ := hrel
    by_cases hlt : kk < l0.length
    · have hltz : (kk : Int) < (l0.length : Int) := by omega
      obtain ⟨ad, e, hx0, hx1, hx2, hx3⟩ := at_T37 (Kd.C_below HR0.out BW.out) (kk : Int) (by omega) hltz
      subst e
      obtain ⟨y, hy⟩ : ∃ y, y = rd_T37 l0 (kk : Int) := ⟨_, rfl⟩
      have hmem : y ∈ l0 := by rw [hy]; unfold rd_T37; rw [Int.toNat_natCast, getD_lt l0 kk _ hlt]; exact List.getElem_mem _
      rw [← hy] at hx0 hx1 hx2 hx3
      simp only [Int.toNat_natCast] at hx0 hx1 hx2 hx3
      have HY := Aside0.mk hy
      clear hy
      have hcall := HP.out _ y hmem BW.out
      cases hq : p y with
      | true =>
        rw [hq] at hcall
        have HQ := Aside0.mk hq
        have HCL := Aside0.mk hcall
        clear hq hcall
        go_wp2_with (go_at_fn cl; refine HCL.out.mono ?_; rintro e w' ⟨rfl, hb'⟩)
        go_ret
        refine ⟨?_, below_le BW.out hb'⟩
        have hyy : p (l0.getD kk z37) = true := by have := HQ.out; rw [HY.out] at this; exact this
        rw [AX.out, xIdx_drop_hit _ _ _ _ hlt _ hyy]
        rfl
      | false =>
        rw [hq] at hcall
        have HQ := Aside0.mk hq
        have HCL := Aside0.mk hcall
        clear hq hcall
        go_wp2_with (go_at_fn cl; refine HCL.out.mono ?_; rintro e w' ⟨rfl, hb'⟩)
        go_roundg (l0.length - (kk + 1))
        case measure => omega
        case rel =>
          have hyy : p (l0.getD kk z37) = false := by have := HQ.out; rw [HY.out] at this; exact this
          exact ⟨kk + 1, by omega, by omega, by go_num, ⟨below_le BW.out hb'⟩, ⟨by rw [AX.out, xIdx_drop_miss _ _ _ _ hlt _ hyy]; rfl⟩⟩
    · have hltz : ¬ (kk : Int) < (l0.length : Int) := by omega
      have hle : l0.length ≤ kk := by omega
      go_wp2
      go_ret
      refine ⟨?_, BW.out⟩
      rw [AX.out, xIdx_drop_end _ _ _ hle]
      rfl
set_option maxHeartbeats 400000 in
theorem xHasGEntry (cl : Nat) (lb : Array Value) (eg : Enters Try.prog cl) (p : S37 → Bool) (A0 : Option Addr) (c0 : Nat) (l0 : List S37) (w : World) (hr0 : Kd.C k37 w A0 l0.length l0)
    (hp : ∀ (W : World) (y : S37), y ∈ l0 → Below w.heap.size w W → Calls Try.prog cl (#[.agg #[.int .i64 y.f0, .bool y.f1, .bool y.f2, .bool y.f3]] ++ lb) W fun e w' => e = .returned (.bool (p y)) ∧ Below W.heap.size W w') :
    Calls Try.prog 65 #[.slice A0 l0.length c0, .func (.func cl) #[] lb] w fun e w' => e = .returned (.bool (l0.any p)) ∧ Below w.heap.size w w' := by
  have HE := Aside0.mk (xIdx_nonneg p l0 0 (Int.le_refl _))
  have HR0 := Aside0.mk hr0
  have HP := Aside0.mk hp
  clear hr0 hp
  go_enter Try.func65, Try.ntmps65
  go_wp2_with (go_at_call 86; (refine (xIdxGEntry cl lb eg p A0 c0 l0 _ HR0.out HP.out).mono ?_); rintro e w' ⟨rfl, hb'⟩)
  go_ret
  exact ⟨by rw [← HE.out]; rfl, hb'⟩
def entB (y : S37) : Bool := if y.f0 = -1 then (!y.f1 && (!y.f2 && !y.f3)) else ((decide (0 ≤ y.f0) && decide (y.f0 ≤ 15)) && (y.f2 || !y.f3))
theorem frameI_f (a : Int) : impl_isFrame.f a = some (decide (0 ≤ a) && decide (a ≤ 15)) := by
  unfold impl_isFrame.f impl_inRange.f
  by_cases h : 0 ≤ a <;> simp [h]
theorem entB_f (y : S37) : impl_ValidSpace_2.f y.f0 y.f1 y.f2 y.f3 = some (!entB y) := by
  unfold impl_ValidSpace_2.f impl_isEntry.f entB
  rw [frameI_f]
  by_cases h : y.f0 = -1
  · rw [if_pos h, if_pos h, h]
    rfl
  · rw [if_neg h, if_neg h]
    cases (decide (0 ≤ y.f0) && decide (y.f0 ≤ 15)) <;> cases y.f2 <;> rfl
def badT (t : List S37) : Bool := !((t.length : Int) == 8) || t.any fun y => !entB y
def badAt (buf : List S53) (i : Nat) : Bool := !(decide (0 ≤ (buf.getD i z53).f0) && decide ((buf.getD i z53).f0 ≤ 63)) || (!(decide (0 ≤ (buf.getD i z53).f1) && decide ((buf.getD i z53).f1 ≤ 15)) || decide (xIdx (fun c : S53 => decide (c.f0 = (buf.getD i z53).f0)) (buf.take i) 0 ≥ 0))
def restB (tabs : List (List S37)) (buf : List S53) (fr : List Int) : Bool := !(tabs.any badT) && (!((List.range buf.length).any (badAt buf)) && (((setI fr).length : Int) == (fr.length : Int)))
set_option maxHeartbeats 8000000 in
set_option maxRecDepth 100000 in
theorem xVs_good (A0 : Option Addr) (c0 : Nat) (root : List Int) (A1 : Option Addr) (c1 : Nat) (tabs : List (List S37)) (A2 : Option Addr) (c2 : Nat) (buf : List S53) (w : World) (hr0 : Kd.C (Kd.int .i64) w A0 root.length root) (hc0 : root.length ≤ c0) (hr1 : Kd.C (Kd.slice 37 k37) w A1 tabs.length tabs) (hc1 : tabs.length ≤ c1) (hr2 : Kd.C k53 w A2 buf.length buf) (hc2 : buf.length ≤ c2) (hl : root.length ≤ 1048576)
    (h1 : ((root.length : Int) == 8) = true) (h2 : decide ((tabs.length : Int) > 8) = false) (h3 : impl_isOrderOf.f (usedL root) (tabs.length : Int) = some true) (h4 : decide ((buf.length : Int) > 4) = false)
    (k : Nat) (fr : List Int) (hfr : tabs.any badT = false → impl_Space_frames.f k root tabs buf = some fr) (hfl : tabs.any badT = false → fr.length ≤ 1048576) :
    Calls Try.prog 34 #[.agg #[.slice A0 root.length c0, .slice A1 tabs.length c1, .slice A2 buf.length c2]] w fun ed w' => ed = .returned (.bool (restB tabs buf fr)) ∧ Below w.heap.size w w' := by
  have h1' : ((root.length : Int) != 8) = false := by rw [bne, h1]; rfl
  have h2' : decide (8 < (tabs.length : Int)) = false := h2
  have h4' : decide (4 < (buf.length : Int)) = false := h4
  have HO := Aside0.mk h3
  have hB0 : Below w.heap.size w (w.alloc (.cells #[.slice A0 root.length c0, .slice A1 tabs.length c1, .slice A2 buf.length c2] 32)) := below_alloc (Below.refl _ _) _
  have hn : (w.alloc (.cells #[.slice A0 root.length c0, .slice A1 tabs.length c1, .slice A2 buf.length c2] 32)).heap[w.heap.size]? = some (.cells #[.slice A0 root.length c0, .slice A1 tabs.length c1, .slice A2 buf.length c2] 32 (0, 0)) := heap_alloc_new w _
  have HU := Aside0.mk (xVsUsed A0 c0 root (w.alloc (.cells #[.slice A0 root.length c0, .slice A1 tabs.length c1, .slice A2 buf.length c2] 32)) (Kd.C_below hr0 hB0) hl)
  have HR0 := Aside0.mk hr0
  have HC0 := Aside0.mk hc0
  have HR1 := Aside0.mk hr1
  have HC1 := Aside0.mk hc1
  have HR2 := Aside0.mk hr2
  have HC2 := Aside0.mk hc2
  have HB0 := Aside0.mk hB0
  have HN := Aside0.mk hn
  have HFR := Aside0.mk hfr
  have HFL := Aside0.mk hfl
  have HT8 : Aside0 (tabs.length ≤ 8) := ⟨by have := of_decide_eq_false h2; omega⟩
  have HB4 : Aside0 (buf.length ≤ 4) := ⟨by have := of_decide_eq_false h4; omega⟩
  clear hr0 hc0 hr1 hc1 hr2 hc2 hl h1 h2 h3 h4 hB0 hn hfr hfl
  go_enter Try.func34, Try.ntmps34
  go_wp2_with fail
  refine HU.out.mono ?_
  rintro ed w1 ⟨v, rfl, hb1, hD⟩
  clear hb1
  have HD := Aside0.mk hD
  clear hD
  go_wp2_with fail
  refine HD.out.mono ?_
  rintro ed w2 ⟨A, c, rfl, hcu, hCu, hb2⟩
  have HB2 := Aside0.mk (below_le HB0.out hb2)
  have HCU := Aside0.mk hcu
  have HU2 := Aside0.mk hCu
  have HN2 : Aside0 (w2.heap[w.heap.size]? = some (.cells #[.slice A0 root.length c0, .slice A1 tabs.length c1, .slice A2 buf.length c2] 32 (0, 0))) := ⟨(hb2.block w.heap.size (by simp)).trans HN.out⟩
  have hq0 : w2.cell? ⟨w.heap.size, 0, none⟩ = some (.slice A0 root.length c0) := (blk_cell HN2.out 0).trans rfl
  have hq1 : w2.cell? ⟨w.heap.size, 1, none⟩ = some (.slice A1 tabs.length c1) := (blk_cell HN2.out 1).trans rfl
  clear hcu hCu hb2
  go_wp2_with (first
    | (go_at_call 64; (refine (impl_Entry.calls A1 c1 tabs _ _ (Kd.C_below HR1.out HB2.out) HC1.out rfl).mono ?_); rintro ed w3 ⟨rfl, hd3⟩; have HB3 := Aside0.mk (below_le HB2.out (drawn_below hd3)); have HN3 : Aside0 (w3.heap[w.heap.size]? = some (.cells #[.slice A0 root.length c0, .slice A1 tabs.length c1, .slice A2 buf.length c2] 32 (0, 0))) := ⟨blk_below HN2.out (drawn_below hd3)⟩; have HU3 := Aside0.mk (Kd.C_below HU2.out (drawn_below hd3)); clear hd3)
    | (go_at_call 63; (refine (impl_isOrderOf.calls A c (usedL root) _ _ _ HU3.out HCU.out HO.out).mono ?_); rintro ed w4 ⟨rfl, hb4⟩; have HB4_ := Aside0.mk (below_le HB3.out hb4); have HN4 : Aside0 (w4.heap[w.heap.size]? = some (.cells #[.slice A0 root.length c0, .slice A1 tabs.length c1, .slice A2 buf.length c2] 32 (0, 0))) := ⟨blk_below HN3.out hb4⟩; have hq1 : w4.cell? ⟨w.heap.size, 1, none⟩ = some (.slice A1 tabs.length c1) := (blk_cell HN4.out 1).trans rfl; have hq2 : w4.cell? ⟨w.heap.size, 2, none⟩ = some (.slice A2 buf.length c2) := (blk_cell HN4.out 2).trans rfl; clear hb4))
  clear hq0
  have HW1 := HB4_
  have HNW1 := HN4
  have HTK : Aside0 ((tabs.take 0).any badT = false) := ⟨by simp⟩
  go_loopg [5, 40] tabs.length (fun gg _ s40 wr => ∃ kk : Nat, kk ≤ tabs.length ∧ tabs.length - kk ≤ gg ∧ s40 = .int .i64 kk ∧ Aside0 (Below w.heap.size w wr) ∧ Aside0 (wr.heap[w.heap.size]? = some (.cells #[.slice A0 root.length c0, .slice A1 tabs.length c1, .slice A2 buf.length c2] 32 (0, 0))) ∧ Aside0 ((tabs.take kk).any badT = false))
  case atStart => exact ⟨0, Nat.zero_le _, by omega, rfl, HB4_, HN4, HTK⟩
  case round =>
    obtain ⟨kk, hkk, hg, rfl, BW, BN, AX⟩ := hrel
    by_cases hlt : kk < tabs.length
    · have hltz : (kk : Int) < (tabs.length : Int) := by omega
      obtain ⟨ad, A', c', e, hx, hcl, hC⟩ := at_row (Kd.C_below HR1.out BW.out) kk hlt
      subst e
      have htk := take_succ tabs kk [] hlt
      have hmem : tabs.getD kk [] ∈ tabs := by rw [getD_lt tabs kk [] hlt]; exact List.getElem_mem _
      obtain ⟨t, ht⟩ : ∃ t, t = tabs.getD kk [] := ⟨_, rfl⟩
      rw [← ht] at hx hcl hC htk hmem
      have HTK2 := Aside0.mk htk
      have HMEM := Aside0.mk hmem
      have HCL := Aside0.mk hcl
      have HC' := Aside0.mk hC
      clear ht htk hmem hcl hC
      obtain ⟨e8, he8⟩ : ∃ b, ((t.length : Int) == 8) = b := ⟨_, rfl⟩
      have he8' : ((t.length : Int) != 8) = !e8 := by rw [bne, he8]
      obtain ⟨an, han⟩ : ∃ b, (t.any fun y => !entB y) = b := ⟨_, rfl⟩
      have HAS := Aside0.mk (xHasGEntry 66 #[] (enters_of Try.func66 (by kernel_rfl) rfl) (fun y => !entB y) A' c' t wr HC'.out
        (fun W y _ _ => (impl_ValidSpace_2.calls y.f0 y.f1 y.f2 y.f3 _ W (entB_f y)).mono (fun e w' h => ⟨h.1, by first | exact h.2 | exact drawn_below h.2⟩)))
      rw [han] at HAS
      have HBT : Aside0 (badT t = (!e8 || an)) := ⟨by unfold badT; rw [he8, han]⟩
      clear han he8
      cases e8 with
      | false =>
        simp only [Bool.not_false] at he8'
        go_wp2_with fail
        go_ret
        refine ⟨?_, BW.out⟩
        have hb : tabs.any badT = true := List.any_eq_true.2 ⟨t, HMEM.out, by rw [HBT.out]; rfl⟩
        unfold restB
        rw [hb]
        rfl
      | true =>
        simp only [Bool.not_true] at he8'
        cases an with
        | true =>
          go_wp2_with fail
          refine HAS.out.mono ?_
          rintro ed w5 ⟨rfl, hb5⟩
          have HB5 := Aside0.mk (below_le BW.out hb5)
          clear hb5
          go_wp2_with fail
          go_ret
          refine ⟨?_, HB5.out⟩
          have hb : tabs.any badT = true := List.any_eq_true.2 ⟨t, HMEM.out, by rw [HBT.out]; rfl⟩
          unfold restB
          rw [hb]
          rfl
        | false =>
          go_wp2_with fail
          refine HAS.out.mono ?_
          rintro ed w5 ⟨rfl, hb5⟩
          have HB5 := Aside0.mk (below_le BW.out hb5)
          have HN5 := Aside0.mk (blk_below BN.out hb5)
          clear hb5
          go_wp2_with fail
          go_roundg (tabs.length - (kk + 1))
          case measure => omega
          case rel => exact ⟨kk + 1, by omega, by omega, by have h8_ := HT8.out; rw [show wrap64 ((kk : Int) + 1) = ((kk + 1 : Nat) : Int) from by unfold wrap64; omega], HB5, HN5, ⟨by rw [HTK2.out, List.any_append, AX.out, List.any_cons, HBT.out]; rfl⟩⟩
    · have hle : tabs.length ≤ kk := by omega
      have hltz : ¬ (kk : Int) < (tabs.length : Int) := by omega
      have HTA : Aside0 (tabs.any badT = false) := ⟨by have := AX.out; rwa [List.take_of_length_le hle] at this⟩
      have hp2 : wr.cell? ⟨w.heap.size, 2, none⟩ = some (.slice A2 buf.length c2) := (blk_cell BN.out 2).trans rfl
      go_wp2_with fail
      have HBK : Aside0 (∀ j, j < 0 → badAt buf j = false) := ⟨fun j hj => absurd hj (Nat.not_lt_zero j)⟩
      go_loopg [6, 7, 55] buf.length (fun gg _ _ s55 wr2 => ∃ kk : Nat, kk ≤ buf.length ∧ buf.length - kk ≤ gg ∧ s55 = .int .i64 kk ∧ Aside0 (Below w.heap.size w wr2) ∧ Aside0 (wr2.heap[w.heap.size]? = some (.cells #[.slice A0 root.length c0, .slice A1 tabs.length c1, .slice A2 buf.length c2] 32 (0, 0))) ∧ Aside0 (∀ j, j < kk → badAt buf j = false))
      case atStart => exact ⟨0, Nat.zero_le _, by omega, rfl, BW, BN, HBK⟩
      case round =>
        obtain ⟨kk, hkk, hg, rfl, BW2, BN2, AX2⟩ := hrel
        by_cases hlt2 : kk < buf.length
        · have hltz2 : (kk : Int) < (buf.length : Int) := by omega
          obtain ⟨ad, e, hx0, hx1, hx2⟩ := at_T53 (Kd.C_below HR2.out BW2.out) (kk : Int) (by omega) hltz2
          subst e
          obtain ⟨y, hy⟩ : ∃ y, y = rd_T53 buf (kk : Int) := ⟨_, rfl⟩
          simp only [Int.toNat_natCast] at hx0 hx1 hx2
          rw [← hy] at hx0 hx1 hx2
          have HY : Aside0 (buf.getD kk z53 = y) := ⟨by rw [hy]; rfl⟩
          clear hy
          obtain ⟨ea, hea⟩ : ∃ b, (decide (0 ≤ y.f0) && decide (y.f0 ≤ 63)) = b := ⟨_, rfl⟩
          obtain ⟨ef, hef⟩ : ∃ b, (decide (0 ≤ y.f1) && decide (y.f1 ≤ 15)) = b := ⟨_, rfl⟩
          obtain ⟨q, hq⟩ : ∃ q, xIdx (fun c : S53 => decide (c.f0 = y.f0)) (buf.take kk) 0 = q := ⟨_, rfl⟩
          obtain ⟨bq, hbq⟩ : ∃ b, decide (q ≥ 0) = b := ⟨_, rfl⟩
          have HBAD : Aside0 (badAt buf kk = (!ea || (!ef || bq))) := ⟨by unfold badAt; rw [HY.out, hea, hef, hq, hbq]⟩
          have HA : Aside0 (impl_isAddress.f y.f0 = some ea) := ⟨by unfold impl_isAddress.f impl_inRange.f; rw [← hea]; by_cases h_ : 0 ≤ y.f0 <;> simp [h_]⟩
          have HF : Aside0 (impl_isFrame.f y.f1 = some ef) := ⟨by rw [frameI_f, hef]⟩
          have HQ := Aside0.mk hq
          clear hea hef hq
          have hp2 : wr.cell? ⟨w.heap.size, 2, none⟩ = some (.slice (some ad) buf.length c2) := (blk_cell BN2.out 2).trans rfl
          go_wp2_with fail
          obtain ⟨W, hW⟩ : ∃ W, W = wr.alloc (.cells #[.int .i64 y.f0, .int .i64 y.f1, .bool y.f2] 53) := ⟨_, rfl⟩
          have hbW : Below wr.heap.size wr W := by rw [hW]; exact below_alloc (Below.refl _ _) _
          have hgw : W.heap[wr.heap.size]? = some (.cells #[.int .i64 y.f0, .int .i64 y.f1, .bool y.f2] 53 (0, 0)) := by rw [hW]; exact heap_alloc_new _ _
          have hgp := blk_below BN2.out hbW
          have HBW := Aside0.mk (below_le BW2.out hbW)
          have HGP := Aside0.mk hgp
          have q0 : W.drew.cell? ⟨wr.heap.size, 0, none⟩ = some (.int .i64 y.f0) := blk_cell hgw 0
          have q1 : W.drew.cell? ⟨wr.heap.size, 1, none⟩ = some (.int .i64 y.f1) := blk_cell hgw 1
          have q2 : W.drew.cell? ⟨w.heap.size, 2, none⟩ = some (.slice (some ad) buf.length c2) := blk_cell hgp 2
          have HP : Aside0 (∀ V : World, Below W.heap.size W V → Calls Try.prog 70 #[.slice (some ad) kk c2, .int .i64 y.f0] V fun e w' => e = .returned (.int .i64 q) ∧ Below V.heap.size V w') := ⟨fun V hV => by
            have hC := Kd.C_below HR2.out (below_le HBW.out hV)
            have hlen : (buf.take kk).length = kk := by rw [List.length_take]; omega
            have h_ := impl_bufferPlace.calls (some ad) c2 (buf.take kk) y.f0 q V (by have h_ := Kd.C_take (m := kk) hC (by omega); first | exact h_ | (rw [hlen]; exact h_) | (rw [hlen] at h_; rw [hlen]; exact h_)) (by have := HC2.out; omega) (by unfold impl_bufferPlace.f; rw [HQ.out])
            rw [hlen] at h_
            exact h_⟩
          rw [← hW]
          clear hW hbW hgw hgp
          have hkc : (kk ≤ c2) = True := eq_true (by have := HC2.out; omega)
          cases ea with
          | false =>
            refine start_ (n := 20) (S := fun w' => w'.cell? ⟨wr.heap.size, 0, none⟩ = some (.int .i64 y.f0) ∧ w'.cell? ⟨wr.heap.size, 1, none⟩ = some (.int .i64 y.f1) ∧ w'.cell? ⟨w.heap.size, 2, none⟩ = some (.slice (some ad) buf.length c2) ∧ Below W.heap.size W w') (ds := []) #[false, false, false, false, false, false, false, false, false, false, false, false, false, false, false, false, false, false, false, false] (by kernel_rfl) rfl rfl ⟨q0, q1, q2, below_drew (Below.refl _ _)⟩ (fun hHeld => ?_)
            refine pure_ (i := 0) (N := some 60) (v := ?_) (a' := ?_) #[true, false, false, false, false, false, false, false, false, false, false, false, false, false, false, false, false, false, false, false] rfl rfl (by kernel_rfl) (fun _ _ _ h => h) (Or.inl ⟨by rfl, ?_⟩) ?_ ?_
            rotate_left
            · intro w'
              go_simp
              with_reducible rfl
            rotate_left
            · simp only [Act.put, List.setIfInBounds_toArray, List.set_cons_zero, List.set_cons_succ, i64_w, i32_w]
              rfl
            refine take_ (i := 1) (N := some 61) (v := ?_) (a' := ?_) #[true, true, false, false, false, false, false, false, false, false, false, false, false, false, false, false, false, false, false, false] rfl rfl (by kernel_rfl) (fun _ _ _ h => h) (Or.inl ⟨by rfl, ?_⟩) hHeld ?_ ?_
            rotate_left
            · rintro w' ⟨s0, s1, s2, s3⟩
              go_simp
              with_reducible rfl
            rotate_left
            · simp only [Act.put, List.setIfInBounds_toArray, List.set_cons_zero, List.set_cons_succ, i64_w, i32_w]
              rfl
            refine one_ (i := 2) (N := some 62) #[true, true, true, false, false, false, false, false, false, false, false, false, false, false, false, false, false, false, false, false] rfl rfl (by kernel_rfl) (by decide) (fun K hK => ?_)
            refine goes_ Try.func68 (by kernel_rfl) rfl #[.int .i64 y.f0] (by rfl) rfl rfl (by simp only [List.map_toArray, List.map_cons, List.map_nil]; rfl) ?_
            with_reducible refine (impl_isAddress.calls y.f0 _ _ HA.out).mono ?_
            rintro e w2_ ⟨rfl, hd⟩
            refine ⟨_, rfl, ?_⟩
            have hb := drawn_below hd
            refine hK.out _ _ ⟨((Below.cell hb (World.block_lt_of_cell? _ _ hHeld.1)).trans hHeld.1), ((Below.cell hb (World.block_lt_of_cell? _ _ hHeld.2.1)).trans hHeld.2.1), ((Below.cell hb (World.block_lt_of_cell? _ _ hHeld.2.2.1)).trans hHeld.2.2.1), (below_le hHeld.2.2.2 hb)⟩ (fun hHeld => ?_)
            clear hK K
            refine norm_ (a' := ?_) ?_ ?_
            rotate_left
            · show Act.put _ (some 62) _ = _
              simp only [Act.put, List.setIfInBounds_toArray, List.set_cons_zero, List.set_cons_succ, i64_w, i32_w]
              rfl
            refine pure_ (i := 3) (N := some 63) (v := ?_) (a' := ?_) #[true, true, true, true, false, false, false, false, false, false, false, false, false, false, false, false, false, false, false, false] rfl rfl (by kernel_rfl) (fun _ _ _ h => h) (Or.inl ⟨by rfl, ?_⟩) ?_ ?_
            rotate_left
            · intro w'
              go_simp
              with_reducible rfl
            rotate_left
            · simp only [Act.put, List.setIfInBounds_toArray, List.set_cons_zero, List.set_cons_succ, i64_w, i32_w]
              rfl
            refine pure_ (i := 4) (N := some 64) (v := ?_) (a' := ?_) #[true, true, true, true, true, false, false, false, false, false, false, false, false, false, false, false, false, false, false, false] rfl rfl (by kernel_rfl) (fun _ _ _ h => h) (Or.inl ⟨by rfl, ?_⟩) ?_ ?_
            rotate_left
            · intro w'
              go_simp
              with_reducible rfl
            rotate_left
            · simp only [Act.put, List.setIfInBounds_toArray, List.set_cons_zero, List.set_cons_succ, i64_w, i32_w]
              rfl
            refine pure_ (i := 5) (N := some 65) (v := undef) (a' := ?_) #[true, true, true, true, true, true, false, false, false, false, false, false, false, false, false, false, false, false, false, false] rfl rfl (by kernel_rfl) (fun _ _ _ h => h) (Or.inr ⟨by rfl, rfl⟩) ?_ ?_
            rotate_left
            · simp only [Act.put, List.setIfInBounds_toArray, List.set_cons_zero, List.set_cons_succ, i64_w, i32_w]
              rfl
            refine pure_ (i := 6) (N := some 66) (v := undef) (a' := ?_) #[true, true, true, true, true, true, true, false, false, false, false, false, false, false, false, false, false, false, false, false] rfl rfl (by kernel_rfl) (fun _ _ _ h => h) (Or.inr ⟨by rfl, rfl⟩) ?_ ?_
            rotate_left
            · simp only [Act.put, List.setIfInBounds_toArray, List.set_cons_zero, List.set_cons_succ, i64_w, i32_w]
              rfl
            refine pure_ (i := 7) (N := some 67) (v := undef) (a' := ?_) #[true, true, true, true, true, true, true, true, false, false, false, false, false, false, false, false, false, false, false, false] rfl rfl (by kernel_rfl) (fun _ _ _ h => h) (Or.inr ⟨by rfl, rfl⟩) ?_ ?_
            rotate_left
            · simp only [Act.put, List.setIfInBounds_toArray, List.set_cons_zero, List.set_cons_succ, i64_w, i32_w]
              rfl
            refine pure_ (i := 8) (N := some 68) (v := undef) (a' := ?_) #[true, true, true, true, true, true, true, true, true, false, false, false, false, false, false, false, false, false, false, false] rfl rfl (by kernel_rfl) (fun _ _ _ h => h) (Or.inr ⟨by rfl, rfl⟩) ?_ ?_
            rotate_left
            · simp only [Act.put, List.setIfInBounds_toArray, List.set_cons_zero, List.set_cons_succ, i64_w, i32_w]
              rfl
            refine pure_ (i := 9) (N := some 69) (v := ?_) (a' := ?_) #[true, true, true, true, true, true, true, true, true, true, false, false, false, false, false, false, false, false, false, false] rfl rfl (by kernel_rfl) (fun _ _ _ h => h) (Or.inl ⟨by rfl, ?_⟩) ?_ ?_
            rotate_left
            · intro w'
              go_simp
              with_reducible rfl
            rotate_left
            · simp only [Act.put, List.setIfInBounds_toArray, List.set_cons_zero, List.set_cons_succ, i64_w, i32_w]
              rfl
            refine pure_ (i := 10) (N := some 70) (v := ?_) (a' := ?_) #[true, true, true, true, true, true, true, true, true, true, true, false, false, false, false, false, false, false, false, false] rfl rfl (by kernel_rfl) (fun _ _ _ h => h) (Or.inl ⟨by rfl, ?_⟩) ?_ ?_
            rotate_left
            · intro w'
              go_simp
              with_reducible rfl
            rotate_left
            · simp only [Act.put, List.setIfInBounds_toArray, List.set_cons_zero, List.set_cons_succ, i64_w, i32_w]
              rfl
            refine pure_ (i := 11) (N := some 71) (v := undef) (a' := ?_) #[true, true, true, true, true, true, true, true, true, true, true, true, false, false, false, false, false, false, false, false] rfl rfl (by kernel_rfl) (fun _ _ _ h => h) (Or.inr ⟨by rfl, rfl⟩) ?_ ?_
            rotate_left
            · simp only [Act.put, List.setIfInBounds_toArray, List.set_cons_zero, List.set_cons_succ, i64_w, i32_w]
              rfl
            refine pure_ (i := 12) (N := some 72) (v := undef) (a' := ?_) #[true, true, true, true, true, true, true, true, true, true, true, true, true, false, false, false, false, false, false, false] rfl rfl (by kernel_rfl) (fun _ _ _ h => h) (Or.inr ⟨by rfl, rfl⟩) ?_ ?_
            rotate_left
            · simp only [Act.put, List.setIfInBounds_toArray, List.set_cons_zero, List.set_cons_succ, i64_w, i32_w]
              rfl
            refine pure_ (i := 13) (N := some 73) (v := undef) (a' := ?_) #[true, true, true, true, true, true, true, true, true, true, true, true, true, true, false, false, false, false, false, false] rfl rfl (by kernel_rfl) (fun _ _ _ h => h) (Or.inr ⟨by rfl, rfl⟩) ?_ ?_
            rotate_left
            · simp only [Act.put, List.setIfInBounds_toArray, List.set_cons_zero, List.set_cons_succ, i64_w, i32_w]
              rfl
            refine pure_ (i := 14) (N := some 74) (v := undef) (a' := ?_) #[true, true, true, true, true, true, true, true, true, true, true, true, true, true, true, false, false, false, false, false] rfl rfl (by kernel_rfl) (fun _ _ _ h => h) (Or.inr ⟨by rfl, rfl⟩) ?_ ?_
            rotate_left
            · simp only [Act.put, List.setIfInBounds_toArray, List.set_cons_zero, List.set_cons_succ, i64_w, i32_w]
              rfl
            refine pure_ (i := 15) (N := some 75) (v := undef) (a' := ?_) #[true, true, true, true, true, true, true, true, true, true, true, true, true, true, true, true, false, false, false, false] rfl rfl (by kernel_rfl) (fun _ _ _ h => h) (Or.inr ⟨by rfl, rfl⟩) ?_ ?_
            rotate_left
            · simp only [Act.put, List.setIfInBounds_toArray, List.set_cons_zero, List.set_cons_succ, i64_w, i32_w]
              rfl
            refine pure_ (i := 16) (N := some 76) (v := undef) (a' := ?_) #[true, true, true, true, true, true, true, true, true, true, true, true, true, true, true, true, true, false, false, false] rfl rfl (by kernel_rfl) (fun _ _ _ h => h) (Or.inr ⟨by rfl, rfl⟩) ?_ ?_
            rotate_left
            · simp only [Act.put, List.setIfInBounds_toArray, List.set_cons_zero, List.set_cons_succ, i64_w, i32_w]
              rfl
            refine pure_ (i := 17) (N := some 77) (v := undef) (a' := ?_) #[true, true, true, true, true, true, true, true, true, true, true, true, true, true, true, true, true, true, false, false] rfl rfl (by kernel_rfl) (fun _ _ _ h => h) (Or.inr ⟨by rfl, rfl⟩) ?_ ?_
            rotate_left
            · simp only [Act.put, List.setIfInBounds_toArray, List.set_cons_zero, List.set_cons_succ, i64_w, i32_w]
              rfl
            refine pure_ (i := 18) (N := some 78) (v := undef) (a' := ?_) #[true, true, true, true, true, true, true, true, true, true, true, true, true, true, true, true, true, true, true, false] rfl rfl (by kernel_rfl) (fun _ _ _ h => h) (Or.inr ⟨by rfl, rfl⟩) ?_ ?_
            rotate_left
            · simp only [Act.put, List.setIfInBounds_toArray, List.set_cons_zero, List.set_cons_succ, i64_w, i32_w]
              rfl
            refine pure_ (i := 19) (N := some 79) (v := ?_) (a' := ?_) #[true, true, true, true, true, true, true, true, true, true, true, true, true, true, true, true, true, true, true, true] rfl rfl (by kernel_rfl) (fun _ _ _ h => h) (Or.inl ⟨by rfl, ?_⟩) ?_ ?_
            rotate_left
            · intro w'
              go_simp
              with_reducible rfl
            rotate_left
            · simp only [Act.put, List.setIfInBounds_toArray, List.set_cons_zero, List.set_cons_succ, i64_w, i32_w]
              rfl
            refine done_ (by kernel_rfl) ?_
            go_wp2_with fail
            go_ret
            refine ⟨?_, below_le HBW.out hHeld.2.2.2⟩
            have hb : (List.range buf.length).any (badAt buf) = true := List.any_eq_true.2 ⟨kk, List.mem_range.2 hlt2, by rw [HBAD.out]; rfl⟩
            unfold restB
            rw [HTA.out, hb]
            rfl
          | true =>
            cases ef with
            | false =>
              refine start_ (n := 20) (S := fun w' => w'.cell? ⟨wr.heap.size, 0, none⟩ = some (.int .i64 y.f0) ∧ w'.cell? ⟨wr.heap.size, 1, none⟩ = some (.int .i64 y.f1) ∧ w'.cell? ⟨w.heap.size, 2, none⟩ = some (.slice (some ad) buf.length c2) ∧ Below W.heap.size W w') (ds := []) #[false, false, false, false, false, false, false, false, false, false, false, false, false, false, false, false, false, false, false, false] (by kernel_rfl) rfl rfl ⟨q0, q1, q2, below_drew (Below.refl _ _)⟩ (fun hHeld => ?_)
              refine pure_ (i := 0) (N := some 60) (v := ?_) (a' := ?_) #[true, false, false, false, false, false, false, false, false, false, false, false, false, false, false, false, false, false, false, false] rfl rfl (by kernel_rfl) (fun _ _ _ h => h) (Or.inl ⟨by rfl, ?_⟩) ?_ ?_
              rotate_left
              · intro w'
                go_simp
                with_reducible rfl
              rotate_left
              · simp only [Act.put, List.setIfInBounds_toArray, List.set_cons_zero, List.set_cons_succ, i64_w, i32_w]
                rfl
              refine take_ (i := 1) (N := some 61) (v := ?_) (a' := ?_) #[true, true, false, false, false, false, false, false, false, false, false, false, false, false, false, false, false, false, false, false] rfl rfl (by kernel_rfl) (fun _ _ _ h => h) (Or.inl ⟨by rfl, ?_⟩) hHeld ?_ ?_
              rotate_left
              · rintro w' ⟨s0, s1, s2, s3⟩
                go_simp
                with_reducible rfl
              rotate_left
              · simp only [Act.put, List.setIfInBounds_toArray, List.set_cons_zero, List.set_cons_succ, i64_w, i32_w]
                rfl
              refine one_ (i := 2) (N := some 62) #[true, true, true, false, false, false, false, false, false, false, false, false, false, false, false, false, false, false, false, false] rfl rfl (by kernel_rfl) (by decide) (fun K hK => ?_)
              refine goes_ Try.func68 (by kernel_rfl) rfl #[.int .i64 y.f0] (by rfl) rfl rfl (by simp only [List.map_toArray, List.map_cons, List.map_nil]; rfl) ?_
              with_reducible refine (impl_isAddress.calls y.f0 _ _ HA.out).mono ?_
              rintro e w2_ ⟨rfl, hd⟩
              refine ⟨_, rfl, ?_⟩
              have hb := drawn_below hd
              refine hK.out _ _ ⟨((Below.cell hb (World.block_lt_of_cell? _ _ hHeld.1)).trans hHeld.1), ((Below.cell hb (World.block_lt_of_cell? _ _ hHeld.2.1)).trans hHeld.2.1), ((Below.cell hb (World.block_lt_of_cell? _ _ hHeld.2.2.1)).trans hHeld.2.2.1), (below_le hHeld.2.2.2 hb)⟩ (fun hHeld => ?_)
              clear hK K
              refine norm_ (a' := ?_) ?_ ?_
              rotate_left
              · show Act.put _ (some 62) _ = _
                simp only [Act.put, List.setIfInBounds_toArray, List.set_cons_zero, List.set_cons_succ, i64_w, i32_w]
                rfl
              refine pure_ (i := 3) (N := some 63) (v := ?_) (a' := ?_) #[true, true, true, true, false, false, false, false, false, false, false, false, false, false, false, false, false, false, false, false] rfl rfl (by kernel_rfl) (fun _ _ _ h => h) (Or.inl ⟨by rfl, ?_⟩) ?_ ?_
              rotate_left
              · intro w'
                go_simp
                with_reducible rfl
              rotate_left
              · simp only [Act.put, List.setIfInBounds_toArray, List.set_cons_zero, List.set_cons_succ, i64_w, i32_w]
                rfl
              refine pure_ (i := 4) (N := some 64) (v := ?_) (a' := ?_) #[true, true, true, true, true, false, false, false, false, false, false, false, false, false, false, false, false, false, false, false] rfl rfl (by kernel_rfl) (fun _ _ _ h => h) (Or.inl ⟨by rfl, ?_⟩) ?_ ?_
              rotate_left
              · intro w'
                go_simp
                with_reducible rfl
              rotate_left
              · simp only [Act.put, List.setIfInBounds_toArray, List.set_cons_zero, List.set_cons_succ, i64_w, i32_w]
                rfl
              refine pure_ (i := 5) (N := some 65) (v := ?_) (a' := ?_) #[true, true, true, true, true, true, false, false, false, false, false, false, false, false, false, false, false, false, false, false] rfl rfl (by kernel_rfl) (fun _ _ _ h => h) (Or.inl ⟨by rfl, ?_⟩) ?_ ?_
              rotate_left
              · intro w'
                go_simp
                with_reducible rfl
              rotate_left
              · simp only [Act.put, List.setIfInBounds_toArray, List.set_cons_zero, List.set_cons_succ, i64_w, i32_w]
                rfl
              refine take_ (i := 6) (N := some 66) (v := ?_) (a' := ?_) #[true, true, true, true, true, true, true, false, false, false, false, false, false, false, false, false, false, false, false, false] rfl rfl (by kernel_rfl) (fun _ _ _ h => h) (Or.inl ⟨by rfl, ?_⟩) hHeld ?_ ?_
              rotate_left
              · rintro w' ⟨s0, s1, s2, s3⟩
                go_simp
                with_reducible rfl
              rotate_left
              · simp only [Act.put, List.setIfInBounds_toArray, List.set_cons_zero, List.set_cons_succ, i64_w, i32_w]
                rfl
              refine one_ (i := 7) (N := some 67) #[true, true, true, true, true, true, true, true, false, false, false, false, false, false, false, false, false, false, false, false] rfl rfl (by kernel_rfl) (by decide) (fun K hK => ?_)
              refine goes_ Try.func69 (by kernel_rfl) rfl #[.int .i64 y.f1] (by rfl) rfl rfl (by simp only [List.map_toArray, List.map_cons, List.map_nil]; rfl) ?_
              with_reducible refine (impl_isFrame.calls y.f1 _ _ HF.out).mono ?_
              rintro e w7_ ⟨rfl, hd⟩
              refine ⟨_, rfl, ?_⟩
              have hb := drawn_below hd
              refine hK.out _ _ ⟨((Below.cell hb (World.block_lt_of_cell? _ _ hHeld.1)).trans hHeld.1), ((Below.cell hb (World.block_lt_of_cell? _ _ hHeld.2.1)).trans hHeld.2.1), ((Below.cell hb (World.block_lt_of_cell? _ _ hHeld.2.2.1)).trans hHeld.2.2.1), (below_le hHeld.2.2.2 hb)⟩ (fun hHeld => ?_)
              clear hK K
              refine norm_ (a' := ?_) ?_ ?_
              rotate_left
              · show Act.put _ (some 67) _ = _
                simp only [Act.put, List.setIfInBounds_toArray, List.set_cons_zero, List.set_cons_succ, i64_w, i32_w]
                rfl
              refine pure_ (i := 8) (N := some 68) (v := ?_) (a' := ?_) #[true, true, true, true, true, true, true, true, true, false, false, false, false, false, false, false, false, false, false, false] rfl rfl (by kernel_rfl) (fun _ _ _ h => h) (Or.inl ⟨by rfl, ?_⟩) ?_ ?_
              rotate_left
              · intro w'
                go_simp
                with_reducible rfl
              rotate_left
              · simp only [Act.put, List.setIfInBounds_toArray, List.set_cons_zero, List.set_cons_succ, i64_w, i32_w]
                rfl
              refine pure_ (i := 9) (N := some 69) (v := ?_) (a' := ?_) #[true, true, true, true, true, true, true, true, true, true, false, false, false, false, false, false, false, false, false, false] rfl rfl (by kernel_rfl) (fun _ _ _ h => h) (Or.inl ⟨by rfl, ?_⟩) ?_ ?_
              rotate_left
              · intro w'
                go_simp
                with_reducible rfl
              rotate_left
              · simp only [Act.put, List.setIfInBounds_toArray, List.set_cons_zero, List.set_cons_succ, i64_w, i32_w]
                rfl
              refine pure_ (i := 10) (N := some 70) (v := ?_) (a' := ?_) #[true, true, true, true, true, true, true, true, true, true, true, false, false, false, false, false, false, false, false, false] rfl rfl (by kernel_rfl) (fun _ _ _ h => h) (Or.inl ⟨by rfl, ?_⟩) ?_ ?_
              rotate_left
              · intro w'
                go_simp
                with_reducible rfl
              rotate_left
              · simp only [Act.put, List.setIfInBounds_toArray, List.set_cons_zero, List.set_cons_succ, i64_w, i32_w]
                rfl
              refine pure_ (i := 11) (N := some 71) (v := undef) (a' := ?_) #[true, true, true, true, true, true, true, true, true, true, true, true, false, false, false, false, false, false, false, false] rfl rfl (by kernel_rfl) (fun _ _ _ h => h) (Or.inr ⟨by rfl, rfl⟩) ?_ ?_
              rotate_left
              · simp only [Act.put, List.setIfInBounds_toArray, List.set_cons_zero, List.set_cons_succ, i64_w, i32_w]
                rfl
              refine pure_ (i := 12) (N := some 72) (v := undef) (a' := ?_) #[true, true, true, true, true, true, true, true, true, true, true, true, true, false, false, false, false, false, false, false] rfl rfl (by kernel_rfl) (fun _ _ _ h => h) (Or.inr ⟨by rfl, rfl⟩) ?_ ?_
              rotate_left
              · simp only [Act.put, List.setIfInBounds_toArray, List.set_cons_zero, List.set_cons_succ, i64_w, i32_w]
                rfl
              refine pure_ (i := 13) (N := some 73) (v := undef) (a' := ?_) #[true, true, true, true, true, true, true, true, true, true, true, true, true, true, false, false, false, false, false, false] rfl rfl (by kernel_rfl) (fun _ _ _ h => h) (Or.inr ⟨by rfl, rfl⟩) ?_ ?_
              rotate_left
              · simp only [Act.put, List.setIfInBounds_toArray, List.set_cons_zero, List.set_cons_succ, i64_w, i32_w]
                rfl
              refine pure_ (i := 14) (N := some 74) (v := undef) (a' := ?_) #[true, true, true, true, true, true, true, true, true, true, true, true, true, true, true, false, false, false, false, false] rfl rfl (by kernel_rfl) (fun _ _ _ h => h) (Or.inr ⟨by rfl, rfl⟩) ?_ ?_
              rotate_left
              · simp only [Act.put, List.setIfInBounds_toArray, List.set_cons_zero, List.set_cons_succ, i64_w, i32_w]
                rfl
              refine pure_ (i := 15) (N := some 75) (v := undef) (a' := ?_) #[true, true, true, true, true, true, true, true, true, true, true, true, true, true, true, true, false, false, false, false] rfl rfl (by kernel_rfl) (fun _ _ _ h => h) (Or.inr ⟨by rfl, rfl⟩) ?_ ?_
              rotate_left
              · simp only [Act.put, List.setIfInBounds_toArray, List.set_cons_zero, List.set_cons_succ, i64_w, i32_w]
                rfl
              refine pure_ (i := 16) (N := some 76) (v := undef) (a' := ?_) #[true, true, true, true, true, true, true, true, true, true, true, true, true, true, true, true, true, false, false, false] rfl rfl (by kernel_rfl) (fun _ _ _ h => h) (Or.inr ⟨by rfl, rfl⟩) ?_ ?_
              rotate_left
              · simp only [Act.put, List.setIfInBounds_toArray, List.set_cons_zero, List.set_cons_succ, i64_w, i32_w]
                rfl
              refine pure_ (i := 17) (N := some 77) (v := undef) (a' := ?_) #[true, true, true, true, true, true, true, true, true, true, true, true, true, true, true, true, true, true, false, false] rfl rfl (by kernel_rfl) (fun _ _ _ h => h) (Or.inr ⟨by rfl, rfl⟩) ?_ ?_
              rotate_left
              · simp only [Act.put, List.setIfInBounds_toArray, List.set_cons_zero, List.set_cons_succ, i64_w, i32_w]
                rfl
              refine pure_ (i := 18) (N := some 78) (v := undef) (a' := ?_) #[true, true, true, true, true, true, true, true, true, true, true, true, true, true, true, true, true, true, true, false] rfl rfl (by kernel_rfl) (fun _ _ _ h => h) (Or.inr ⟨by rfl, rfl⟩) ?_ ?_
              rotate_left
              · simp only [Act.put, List.setIfInBounds_toArray, List.set_cons_zero, List.set_cons_succ, i64_w, i32_w]
                rfl
              refine pure_ (i := 19) (N := some 79) (v := ?_) (a' := ?_) #[true, true, true, true, true, true, true, true, true, true, true, true, true, true, true, true, true, true, true, true] rfl rfl (by kernel_rfl) (fun _ _ _ h => h) (Or.inl ⟨by rfl, ?_⟩) ?_ ?_
              rotate_left
              · intro w'
                go_simp
                with_reducible rfl
              rotate_left
              · simp only [Act.put, List.setIfInBounds_toArray, List.set_cons_zero, List.set_cons_succ, i64_w, i32_w]
                rfl
              refine done_ (by kernel_rfl) ?_
              go_wp2_with fail
              go_ret
              refine ⟨?_, below_le HBW.out hHeld.2.2.2⟩
              have hb : (List.range buf.length).any (badAt buf) = true := List.any_eq_true.2 ⟨kk, List.mem_range.2 hlt2, by rw [HBAD.out]; rfl⟩
              unfold restB
              rw [HTA.out, hb]
              rfl
            | true =>
              refine start_ (n := 20) (S := fun w' => w'.cell? ⟨wr.heap.size, 0, none⟩ = some (.int .i64 y.f0) ∧ w'.cell? ⟨wr.heap.size, 1, none⟩ = some (.int .i64 y.f1) ∧ w'.cell? ⟨w.heap.size, 2, none⟩ = some (.slice (some ad) buf.length c2) ∧ Below W.heap.size W w') (ds := []) #[false, false, false, false, false, false, false, false, false, false, false, false, false, false, false, false, false, false, false, false] (by kernel_rfl) rfl rfl ⟨q0, q1, q2, below_drew (Below.refl _ _)⟩ (fun hHeld => ?_)
              refine pure_ (i := 0) (N := some 60) (v := ?_) (a' := ?_) #[true, false, false, false, false, false, false, false, false, false, false, false, false, false, false, false, false, false, false, false] rfl rfl (by kernel_rfl) (fun _ _ _ h => h) (Or.inl ⟨by rfl, ?_⟩) ?_ ?_
              rotate_left
              · intro w'
                go_simp
                with_reducible rfl
              rotate_left
              · simp only [Act.put, List.setIfInBounds_toArray, List.set_cons_zero, List.set_cons_succ, i64_w, i32_w]
                rfl
              refine take_ (i := 1) (N := some 61) (v := ?_) (a' := ?_) #[true, true, false, false, false, false, false, false, false, false, false, false, false, false, false, false, false, false, false, false] rfl rfl (by kernel_rfl) (fun _ _ _ h => h) (Or.inl ⟨by rfl, ?_⟩) hHeld ?_ ?_
              rotate_left
              · rintro w' ⟨s0, s1, s2, s3⟩
                go_simp
                with_reducible rfl
              rotate_left
              · simp only [Act.put, List.setIfInBounds_toArray, List.set_cons_zero, List.set_cons_succ, i64_w, i32_w]
                rfl
              refine one_ (i := 2) (N := some 62) #[true, true, true, false, false, false, false, false, false, false, false, false, false, false, false, false, false, false, false, false] rfl rfl (by kernel_rfl) (by decide) (fun K hK => ?_)
              refine goes_ Try.func68 (by kernel_rfl) rfl #[.int .i64 y.f0] (by rfl) rfl rfl (by simp only [List.map_toArray, List.map_cons, List.map_nil]; rfl) ?_
              with_reducible refine (impl_isAddress.calls y.f0 _ _ HA.out).mono ?_
              rintro e w2_ ⟨rfl, hd⟩
              refine ⟨_, rfl, ?_⟩
              have hb := drawn_below hd
              refine hK.out _ _ ⟨((Below.cell hb (World.block_lt_of_cell? _ _ hHeld.1)).trans hHeld.1), ((Below.cell hb (World.block_lt_of_cell? _ _ hHeld.2.1)).trans hHeld.2.1), ((Below.cell hb (World.block_lt_of_cell? _ _ hHeld.2.2.1)).trans hHeld.2.2.1), (below_le hHeld.2.2.2 hb)⟩ (fun hHeld => ?_)
              clear hK K
              refine norm_ (a' := ?_) ?_ ?_
              rotate_left
              · show Act.put _ (some 62) _ = _
                simp only [Act.put, List.setIfInBounds_toArray, List.set_cons_zero, List.set_cons_succ, i64_w, i32_w]
                rfl
              refine pure_ (i := 3) (N := some 63) (v := ?_) (a' := ?_) #[true, true, true, true, false, false, false, false, false, false, false, false, false, false, false, false, false, false, false, false] rfl rfl (by kernel_rfl) (fun _ _ _ h => h) (Or.inl ⟨by rfl, ?_⟩) ?_ ?_
              rotate_left
              · intro w'
                go_simp
                with_reducible rfl
              rotate_left
              · simp only [Act.put, List.setIfInBounds_toArray, List.set_cons_zero, List.set_cons_succ, i64_w, i32_w]
                rfl
              refine pure_ (i := 4) (N := some 64) (v := ?_) (a' := ?_) #[true, true, true, true, true, false, false, false, false, false, false, false, false, false, false, false, false, false, false, false] rfl rfl (by kernel_rfl) (fun _ _ _ h => h) (Or.inl ⟨by rfl, ?_⟩) ?_ ?_
              rotate_left
              · intro w'
                go_simp
                with_reducible rfl
              rotate_left
              · simp only [Act.put, List.setIfInBounds_toArray, List.set_cons_zero, List.set_cons_succ, i64_w, i32_w]
                rfl
              refine pure_ (i := 5) (N := some 65) (v := ?_) (a' := ?_) #[true, true, true, true, true, true, false, false, false, false, false, false, false, false, false, false, false, false, false, false] rfl rfl (by kernel_rfl) (fun _ _ _ h => h) (Or.inl ⟨by rfl, ?_⟩) ?_ ?_
              rotate_left
              · intro w'
                go_simp
                with_reducible rfl
              rotate_left
              · simp only [Act.put, List.setIfInBounds_toArray, List.set_cons_zero, List.set_cons_succ, i64_w, i32_w]
                rfl
              refine take_ (i := 6) (N := some 66) (v := ?_) (a' := ?_) #[true, true, true, true, true, true, true, false, false, false, false, false, false, false, false, false, false, false, false, false] rfl rfl (by kernel_rfl) (fun _ _ _ h => h) (Or.inl ⟨by rfl, ?_⟩) hHeld ?_ ?_
              rotate_left
              · rintro w' ⟨s0, s1, s2, s3⟩
                go_simp
                with_reducible rfl
              rotate_left
              · simp only [Act.put, List.setIfInBounds_toArray, List.set_cons_zero, List.set_cons_succ, i64_w, i32_w]
                rfl
              refine one_ (i := 7) (N := some 67) #[true, true, true, true, true, true, true, true, false, false, false, false, false, false, false, false, false, false, false, false] rfl rfl (by kernel_rfl) (by decide) (fun K hK => ?_)
              refine goes_ Try.func69 (by kernel_rfl) rfl #[.int .i64 y.f1] (by rfl) rfl rfl (by simp only [List.map_toArray, List.map_cons, List.map_nil]; rfl) ?_
              with_reducible refine (impl_isFrame.calls y.f1 _ _ HF.out).mono ?_
              rintro e w7_ ⟨rfl, hd⟩
              refine ⟨_, rfl, ?_⟩
              have hb := drawn_below hd
              refine hK.out _ _ ⟨((Below.cell hb (World.block_lt_of_cell? _ _ hHeld.1)).trans hHeld.1), ((Below.cell hb (World.block_lt_of_cell? _ _ hHeld.2.1)).trans hHeld.2.1), ((Below.cell hb (World.block_lt_of_cell? _ _ hHeld.2.2.1)).trans hHeld.2.2.1), (below_le hHeld.2.2.2 hb)⟩ (fun hHeld => ?_)
              clear hK K
              refine norm_ (a' := ?_) ?_ ?_
              rotate_left
              · show Act.put _ (some 67) _ = _
                simp only [Act.put, List.setIfInBounds_toArray, List.set_cons_zero, List.set_cons_succ, i64_w, i32_w]
                rfl
              refine pure_ (i := 8) (N := some 68) (v := ?_) (a' := ?_) #[true, true, true, true, true, true, true, true, true, false, false, false, false, false, false, false, false, false, false, false] rfl rfl (by kernel_rfl) (fun _ _ _ h => h) (Or.inl ⟨by rfl, ?_⟩) ?_ ?_
              rotate_left
              · intro w'
                go_simp
                with_reducible rfl
              rotate_left
              · simp only [Act.put, List.setIfInBounds_toArray, List.set_cons_zero, List.set_cons_succ, i64_w, i32_w]
                rfl
              refine pure_ (i := 9) (N := some 69) (v := ?_) (a' := ?_) #[true, true, true, true, true, true, true, true, true, true, false, false, false, false, false, false, false, false, false, false] rfl rfl (by kernel_rfl) (fun _ _ _ h => h) (Or.inl ⟨by rfl, ?_⟩) ?_ ?_
              rotate_left
              · intro w'
                go_simp
                with_reducible rfl
              rotate_left
              · simp only [Act.put, List.setIfInBounds_toArray, List.set_cons_zero, List.set_cons_succ, i64_w, i32_w]
                rfl
              refine pure_ (i := 10) (N := some 70) (v := ?_) (a' := ?_) #[true, true, true, true, true, true, true, true, true, true, true, false, false, false, false, false, false, false, false, false] rfl rfl (by kernel_rfl) (fun _ _ _ h => h) (Or.inl ⟨by rfl, ?_⟩) ?_ ?_
              rotate_left
              · intro w'
                go_simp
                with_reducible rfl
              rotate_left
              · simp only [Act.put, List.setIfInBounds_toArray, List.set_cons_zero, List.set_cons_succ, i64_w, i32_w]
                rfl
              refine pure_ (i := 11) (N := some 71) (v := ?_) (a' := ?_) #[true, true, true, true, true, true, true, true, true, true, true, true, false, false, false, false, false, false, false, false] rfl rfl (by kernel_rfl) (fun _ _ _ h => h) (Or.inl ⟨by rfl, ?_⟩) ?_ ?_
              rotate_left
              · intro w'
                go_simp
                with_reducible rfl
              rotate_left
              · simp only [Act.put, List.setIfInBounds_toArray, List.set_cons_zero, List.set_cons_succ, i64_w, i32_w]
                rfl
              refine pure_ (i := 13) (N := some 73) (v := ?_) (a' := ?_) #[true, true, true, true, true, true, true, true, true, true, true, true, false, true, false, false, false, false, false, false] rfl rfl (by kernel_rfl) (fun _ _ _ h => h) (Or.inl ⟨by rfl, ?_⟩) ?_ ?_
              rotate_left
              · intro w'
                go_simp
                with_reducible rfl
              rotate_left
              · simp only [Act.put, List.setIfInBounds_toArray, List.set_cons_zero, List.set_cons_succ, i64_w, i32_w]
                rfl
              refine pure_ (i := 15) (N := some 75) (v := ?_) (a' := ?_) #[true, true, true, true, true, true, true, true, true, true, true, true, false, true, false, true, false, false, false, false] rfl rfl (by kernel_rfl) (fun _ _ _ h => h) (Or.inl ⟨by rfl, ?_⟩) ?_ ?_
              rotate_left
              · intro w'
                go_simp
                with_reducible rfl
              rotate_left
              · simp only [Act.put, List.setIfInBounds_toArray, List.set_cons_zero, List.set_cons_succ, i64_w, i32_w]
                rfl
              refine take_ (i := 12) (N := some 72) (v := ?_) (a' := ?_) #[true, true, true, true, true, true, true, true, true, true, true, true, true, true, false, true, false, false, false, false] rfl rfl (by kernel_rfl) (fun _ _ _ h => h) (Or.inl ⟨by rfl, ?_⟩) hHeld ?_ ?_
              rotate_left
              · rintro w' ⟨s0, s1, s2, s3⟩
                go_simp
                with_reducible rfl
              rotate_left
              · simp only [Act.put, List.setIfInBounds_toArray, List.set_cons_zero, List.set_cons_succ, i64_w, i32_w]
                rfl
              refine pure_ (i := 14) (N := some 74) (v := ?_) (a' := ?_) #[true, true, true, true, true, true, true, true, true, true, true, true, true, true, true, true, false, false, false, false] rfl rfl (by kernel_rfl) (fun _ _ _ h => h) (Or.inl ⟨by rfl, ?_⟩) ?_ ?_
              rotate_left
              · intro w'
                go_simp
                with_reducible rfl
              rotate_left
              · simp only [Act.put, List.setIfInBounds_toArray, List.set_cons_zero, List.set_cons_succ, i64_w, i32_w]
                rfl
              refine take_ (i := 16) (N := some 76) (v := ?_) (a' := ?_) #[true, true, true, true, true, true, true, true, true, true, true, true, true, true, true, true, true, false, false, false] rfl rfl (by kernel_rfl) (fun _ _ _ h => h) (Or.inl ⟨by rfl, ?_⟩) hHeld ?_ ?_
              rotate_left
              · rintro w' ⟨s0, s1, s2, s3⟩
                go_simp
                with_reducible rfl
              rotate_left
              · simp only [Act.put, List.setIfInBounds_toArray, List.set_cons_zero, List.set_cons_succ, i64_w, i32_w]
                rfl
              refine one_ (i := 17) (N := some 77) #[true, true, true, true, true, true, true, true, true, true, true, true, true, true, true, true, true, true, false, false] rfl rfl (by kernel_rfl) (by decide) (fun K hK => ?_)
              refine goes_ Try.func70 (by kernel_rfl) rfl #[.slice (some ad) kk c2, .int .i64 y.f0] (by rfl) rfl rfl (by simp only [List.map_toArray, List.map_cons, List.map_nil]; rfl) ?_
              with_reducible refine (HP.out _ hHeld.2.2.2).mono ?_
              rintro e w17_ ⟨rfl, hb⟩
              refine ⟨_, rfl, ?_⟩
              refine hK.out _ _ ⟨((Below.cell hb (World.block_lt_of_cell? _ _ hHeld.1)).trans hHeld.1), ((Below.cell hb (World.block_lt_of_cell? _ _ hHeld.2.1)).trans hHeld.2.1), ((Below.cell hb (World.block_lt_of_cell? _ _ hHeld.2.2.1)).trans hHeld.2.2.1), (below_le hHeld.2.2.2 hb)⟩ (fun hHeld => ?_)
              clear hK K
              refine norm_ (a' := ?_) ?_ ?_
              rotate_left
              · show Act.put _ (some 77) _ = _
                simp only [Act.put, List.setIfInBounds_toArray, List.set_cons_zero, List.set_cons_succ, i64_w, i32_w]
                rfl
              refine pure_ (i := 18) (N := some 78) (v := ?_) (a' := ?_) #[true, true, true, true, true, true, true, true, true, true, true, true, true, true, true, true, true, true, true, false] rfl rfl (by kernel_rfl) (fun _ _ _ h => h) (Or.inl ⟨by rfl, ?_⟩) ?_ ?_
              rotate_left
              · intro w'
                go_simp
                with_reducible rfl
              rotate_left
              · simp only [Act.put, List.setIfInBounds_toArray, List.set_cons_zero, List.set_cons_succ, i64_w, i32_w]
                rfl
              refine pure_ (i := 19) (N := some 79) (v := ?_) (a' := ?_) #[true, true, true, true, true, true, true, true, true, true, true, true, true, true, true, true, true, true, true, true] rfl rfl (by kernel_rfl) (fun _ _ _ h => h) (Or.inl ⟨by rfl, ?_⟩) ?_ ?_
              rotate_left
              · intro w'
                go_simp
                with_reducible rfl
              rotate_left
              · simp only [Act.put, List.setIfInBounds_toArray, List.set_cons_zero, List.set_cons_succ, i64_w, i32_w]
                rfl
              refine done_ (by kernel_rfl) ?_
              cases bq with
              | true =>
                go_wp2_with fail
                go_ret
                refine ⟨?_, below_le HBW.out hHeld.2.2.2⟩
                have hb : (List.range buf.length).any (badAt buf) = true := List.any_eq_true.2 ⟨kk, List.mem_range.2 hlt2, by rw [HBAD.out]; rfl⟩
                unfold restB
                rw [HTA.out, hb]
                rfl
              | false =>
                go_wp2_with fail
                go_roundg (buf.length - (kk + 1))
                case measure => omega
                case rel => exact ⟨kk + 1, by omega, by omega, by have h8_ := HB4.out; rw [show wrap64 ((kk : Int) + 1) = ((kk + 1 : Nat) : Int) from by unfold wrap64; omega], ⟨below_le HBW.out hHeld.2.2.2⟩, ⟨blk_below HGP.out hHeld.2.2.2⟩, ⟨fun j hj => by
                  by_cases hjk : j = kk
                  · rw [hjk, HBAD.out]; rfl
                  · exact AX2.out j (by omega)⟩⟩
        · have hle2 : buf.length ≤ kk := by omega
          have hltz2 : ¬ (kk : Int) < (buf.length : Int) := by omega
          have HBA : Aside0 ((List.range buf.length).any (badAt buf) = false) := ⟨List.any_eq_false.2 (fun i hi => by rw [AX2.out i (by have := List.mem_range.1 hi; omega)]; simp)⟩
          have hp0 : wr.cell? ⟨w.heap.size, 0, none⟩ = some (.slice A0 root.length c0) := (blk_cell BN2.out 0).trans rfl
          have hp1 : wr.cell? ⟨w.heap.size, 1, none⟩ = some (.slice A1 tabs.length c1) := (blk_cell BN2.out 1).trans rfl
          have hp2 : wr.cell? ⟨w.heap.size, 2, none⟩ = some (.slice A2 buf.length c2) := (blk_cell BN2.out 2).trans rfl
          go_wp2_with fail
          refine (impl_Space_frames.calls k A0 c0 root A1 c1 tabs A2 c2 buf fr _ (Kd.C_below HR0.out BW2.out) HC0.out (Kd.C_below HR1.out BW2.out) HC1.out (Kd.C_below HR2.out BW2.out) HC2.out (HFR.out HTA.out)).mono ?_
          rintro ed w8 ⟨v8, rfl, hR8, hb8⟩
          obtain ⟨A8, c8, rfl, hc8, hC8⟩ := Kd.R_reads hR8
          have HB8 := Aside0.mk (below_le BW2.out hb8)
          have HC8 := Aside0.mk hC8
          have HCC8 := Aside0.mk hc8
          clear hR8 hb8 hC8 hc8
          go_wp2_with fail
          refine (impl_setOf.calls A8 c8 fr (setI fr) _ HC8.out HCC8.out (by unfold impl_setOf.f; rw [if_pos (HFL.out HTA.out)])).mono ?_
          rintro ed w9 ⟨v9, rfl, hR9, hb9⟩
          obtain ⟨A9, c9, rfl, hc9, hC9⟩ := Kd.R_reads hR9
          have HB9 := Aside0.mk (below_le HB8.out hb9)
          clear hR9 hb9 hC9 hc9
          have hres : restB tabs buf fr = (((setI fr).length : Int) == (fr.length : Int)) := by unfold restB; rw [HTA.out, HBA.out]; rfl
          go_wp2_with fail
          go_ret
          exact ⟨by rw [hres]; first | rfl | simp, HB9.out⟩
def framesT (t : List S37) : List Int := (t.filter fun y => decide (y.f0 ≥ 0)).map fun y => y.f0
def framesL (tabs : List (List S37)) : List Int := (tabs.map framesT).flatten
theorem framesT_length (t : List S37) : (framesT t).length ≤ t.length := by
  unfold framesT; rw [List.length_map]; exact List.length_filter_le _ _
theorem framesT_cons (y : S37) (t : List S37) : framesT (y :: t) = if y.f0 ≥ 0 then y.f0 :: framesT t else framesT t := by
  unfold framesT
  rw [List.filter_cons]
  by_cases h : y.f0 ≥ 0 <;> simp [h]
theorem framesL_length (tabs : List (List S37)) (h : ∀ t ∈ tabs, t.length = 8) : (framesL tabs).length ≤ 8 * tabs.length := by
  unfold framesL
  induction tabs with
  | nil => simp
  | cons t l ih =>
    have h1 := framesT_length t
    have h2 := h t List.mem_cons_self
    have h3 := ih (fun x hx => h x (List.mem_cons_of_mem _ hx))
    rw [List.map_cons, List.flatten_cons, List.length_append, List.length_cons]
    omega
theorem frames_ev (root : List Int) (tabs : List (List S37)) (buf : List S53) (h8 : tabs.length ≤ 8) (ht : ∀ t ∈ tabs, t.length = 8) : Ev (fun k => impl_Space_frames.f k root tabs buf) (framesL tabs) := by
  unfold impl_Space_frames.f
  have key : ∀ d i (acc : List Int), tabs.length - i = d → i ≤ tabs.length → acc.length ≤ 8 * i → Ev (fun k => impl_Space_frames.l0 k acc tabs (tabs.length : Int) (i : Int)) (acc ++ framesL (tabs.drop i)) := by
    intro d
    induction d with
    | zero =>
      intro i acc hd hi ha
      refine Ev.succ ?_
      simp only [impl_Space_frames.l0]
      refine Ev.neg (by omega) (Ev.some ?_)
      rw [List.drop_eq_nil_of_le (by omega)]
      simp [framesL]
    | succ d ih =>
      intro i acc hd hi ha
      have hlt : i < tabs.length := by omega
      have hm : (tabs.getD i []).length = 8 := ht _ (by rw [getD_lt tabs i [] hlt]; exact List.getElem_mem _)
      have hdr : framesL (tabs.drop i) = framesT (tabs.getD i []) ++ framesL (tabs.drop (i + 1)) := by
        rw [drop_cons tabs i [] hlt]
        unfold framesL
        rw [List.map_cons, List.flatten_cons]
      refine Ev.succ ?_
      simp only [impl_Space_frames.l0]
      rw [hdr]
      change Ev (fun k => if (i : Int) < (tabs.length : Int) then (if 0 ≤ (i : Int) then (if (i : Int) < (tabs.length : Int) then impl_Space_frames.l1 k acc tabs (tabs.length : Int) (i : Int) (tabs.getD i []) ((tabs.getD i []).length : Int) 0 else none) else none) else some acc) _
      generalize tabs.getD i [] = t at hm ⊢
      refine Ev.pos (by omega) (Ev.pos (by omega) (Ev.pos (by omega) ?_))
      have inner : ∀ e j (acc' : List Int), t.length - j = e → j ≤ t.length → acc'.length ≤ 8 * i + j → Ev (fun k => impl_Space_frames.l1 k acc' tabs (tabs.length : Int) (i : Int) t (t.length : Int) (j : Int)) (acc' ++ (framesT (t.drop j) ++ framesL (tabs.drop (i + 1)))) := by
        intro e
        induction e with
        | zero =>
          intro j acc' he hj ha'
          refine Ev.succ ?_
          simp only [impl_Space_frames.l1]
          rw [wrap_succ hlt (by omega), List.drop_eq_nil_of_le (show t.length ≤ j by omega)]
          exact Ev.neg (by omega) (ih (i + 1) acc' (by omega) (by omega) (by omega))
        | succ e ihe =>
          intro j acc' he hj ha'
          have hjl : j < t.length := by omega
          refine Ev.succ ?_
          simp only [impl_Space_frames.l1]
          have hrd2 : rd_T37 t (j : Int) = t.getD j z37 := rfl
          rw [hrd2, drop_cons t j z37 hjl, framesT_cons, wrap_succ hjl (by omega)]
          refine Ev.pos (by omega) (Ev.pos (by omega) (Ev.pos (by omega) ?_))
          by_cases hp : (t.getD j z37).f0 ≥ 0
          · refine Ev.pos hp (Ev.pos (by omega) ?_)
            rw [if_pos hp]
            have := ihe (j + 1) (acc' ++ [(t.getD j z37).f0]) (by omega) (by omega) (by simp; omega)
            simpa using this
          · refine Ev.neg hp ?_
            rw [if_neg hp]
            exact ihe (j + 1) acc' (by omega) (by omega) (by omega)
      have := inner t.length 0 acc (by omega) (by omega) (by omega)
      simpa using this
  have := key tabs.length 0 [] (by omega) (by omega) (by simp)
  simpa using this
def condB (root : List Int) (tabs : List (List S37)) (buf : List S53) : Bool := ((root.length : Int) == 8) && (!(decide ((tabs.length : Int) > 8)) && (orderB (usedL root) (tabs.length : Int) && !(decide ((buf.length : Int) > 4))))
def spaceB (root : List Int) (tabs : List (List S37)) (buf : List S53) : Bool := condB root tabs buf && restB tabs buf (framesL tabs)
def impl_ValidSpace.f (root : List Int) (tabs : List (List S37)) (buf : List S53) : Option Bool := if root.length ≤ 1048576 then some (spaceB root tabs buf) else none
theorem impl_ValidSpace.calls (A0_0 : Option Addr) (c0_0 : Nat) (l0_0 : List Int) (A0_1 : Option Addr) (c0_1 : Nat) (l0_1 : List (List S37)) (A0_2 : Option Addr) (c0_2 : Nat) (l0_2 : List S53) (r : Bool) (w : World) (hr0_0 : Kd.C (Kd.int .i64) w A0_0 l0_0.length l0_0) (hc0_0 : l0_0.length ≤ c0_0) (hr0_1 : Kd.C (Kd.slice 37 k37) w A0_1 l0_1.length l0_1) (hc0_1 : l0_1.length ≤ c0_1) (hr0_2 : Kd.C k53 w A0_2 l0_2.length l0_2) (hc0_2 : l0_2.length ≤ c0_2) (h : impl_ValidSpace.f l0_0 l0_1 l0_2 = some r) :
    Calls Try.prog 34 #[.agg #[.slice A0_0 l0_0.length c0_0, .slice A0_1 l0_1.length c0_1, .slice A0_2 l0_2.length c0_2]] w fun e w' => e = .returned (.bool r) ∧ Below w.heap.size w w' := by
  unfold impl_ValidSpace.f at h
  split at h
  · rename_i hl
    obtain rfl := Option.some.inj h
    have h3 : impl_isOrderOf.f (usedL l0_0) (l0_1.length : Int) = some (orderB (usedL l0_0) (l0_1.length : Int)) := by
      unfold impl_isOrderOf.f
      rw [if_pos (show (usedL l0_0).length ≤ 1048576 from Nat.le_trans (List.length_filter_le _ _) hl)]
    by_cases hc : condB l0_0 l0_1 l0_2 = false
    · have e : spaceB l0_0 l0_1 l0_2 = false := by unfold spaceB; rw [hc, Bool.false_and]
      rw [e]
      exact xVs_bad A0_0 c0_0 l0_0 A0_1 c0_1 l0_1 A0_2 c0_2 l0_2 w hr0_0 hc0_0 hr0_1 hc0_1 hr0_2 hc0_2 hl _ _ _ _ rfl rfl h3 rfl hc
    · rw [Bool.not_eq_false] at hc
      have e : spaceB l0_0 l0_1 l0_2 = restB l0_1 l0_2 (framesL l0_1) := by unfold spaceB; rw [hc, Bool.true_and]
      rw [e]
      unfold condB at hc
      simp only [Bool.and_eq_true, Bool.not_eq_true'] at hc
      obtain ⟨g1, g2, g3, g4⟩ := hc
      rw [g3] at h3
      have h8 : l0_1.length ≤ 8 := by have := of_decide_eq_false g2; omega
      have ht : l0_1.any badT = false → ∀ t ∈ l0_1, t.length = 8 := fun hb t hm => by
        have h_ := List.any_eq_false.1 hb t hm
        unfold badT at h_
        simp at h_
        omega
      by_cases hb : l0_1.any badT = false
      · obtain ⟨k, hk⟩ := frames_ev l0_0 l0_1 l0_2 h8 (ht hb)
        exact xVs_good A0_0 c0_0 l0_0 A0_1 c0_1 l0_1 A0_2 c0_2 l0_2 w hr0_0 hc0_0 hr0_1 hc0_1 hr0_2 hc0_2 hl g1 g2 h3 g4 k _ (fun _ => hk k (Nat.le_refl _)) (fun _ => by have := framesL_length l0_1 (ht hb); omega)
      · exact xVs_good A0_0 c0_0 l0_0 A0_1 c0_1 l0_1 A0_2 c0_2 l0_2 w hr0_0 hc0_0 hr0_1 hc0_1 hr0_2 hc0_2 hl g1 g2 h3 g4 0 _ (fun hb' => absurd hb' hb) (fun hb' => absurd hb' hb)
  · cases h


end Go.Proofs.Ytpmglamjgfpmnaa.PFnExactBufferAgrees
