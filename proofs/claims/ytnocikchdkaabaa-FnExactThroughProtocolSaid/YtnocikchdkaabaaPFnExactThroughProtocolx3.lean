-- Printed by this session's own program (wip/tools/xprint.py) over the kit's print; not trusted: Lean checks it.
import Derived.Test.YtnocikchdkaabaaPFnExactThroughProtocolx0
import Derived.Test.YtnocikchdkaabaaPFnExactThroughProtocolx1
import Derived.Test.YtnocikchdkaabaaPFnExactThroughProtocolx2
namespace Go.Proofs.Ytnocikchdkaabaa.PFnExactThroughProtocol
open Go.RowKit Go.Proofs.YtnocikchdkaabaaW.PrintWords Go.Proofs.YtnocikchdkaabaaW.PrintLast Go.Proofs.YtnocikchdkaabaaW.PrintMore
attribute [local go_sem] max2_int min2_int max_two min_two max_three min_three max_four min_four   -- for this text's walks alone
set_option linter.unusedVariables false
set_option linter.unusedSimpArgs false

/-! ### laws_FnExactThroughProtocol: function 11 -/
def sumLen {α : Type} (l : List (List α)) : Nat := (l.map List.length).sum
theorem sumLen_cons {α : Type} (x : List α) (l : List (List α)) : sumLen (x :: l) = x.length + sumLen l := by simp [sumLen]
theorem sumLen_mem {α : Type} {l : List (List α)} {x : List α} (h : x ∈ l) : x.length ≤ sumLen l := by
  induction l with
  | nil => simp at h
  | cons y l ih =>
    rw [sumLen_cons]
    rcases List.mem_cons.1 h with rfl | h
    · omega
    · have := ih h; omega
theorem getD_mem {α : Type} (l : List α) (i : Nat) (z : α) (h : i < l.length) : l.getD i z ∈ l := by
  rw [getD_lt l i z h]; exact List.getElem_mem h
theorem sumLen_le {α : Type} (l : List (List α)) (m : Nat) (h : ∀ x ∈ l, x.length ≤ m) : sumLen l ≤ l.length * m := by
  induction l with
  | nil => simp [sumLen]
  | cons y l ih =>
    rw [sumLen_cons, List.length_cons, Nat.succ_mul]
    have h1 := h y List.mem_cons_self
    have h2 := ih (fun x hx => h x (List.mem_cons_of_mem _ hx))
    omega
theorem implIndex_ev (l : List Int) (x : Int) (h : l.length ≤ 1048576) : Ev (fun k => slices_Index_int64_int64.f k l x) (xIdx (fun y => decide (y = x)) l 0) := by
  unfold slices_Index_int64_int64.f
  have key : ∀ d i, l.length - i = d → i ≤ l.length → Ev (fun k => slices_Index_int64_int64.l0 k l x (l.length : Int) (i : Int)) (xIdx (fun y => decide (y = x)) (l.drop i) (i : Int)) := by
    intro d
    induction d with
    | zero =>
      intro i hd hi
      refine Ev.succ ?_
      simp only [slices_Index_int64_int64.l0]
      refine Ev.neg (by omega) (Ev.some ?_)
      rw [xIdx_drop_end _ _ _ (by omega)]
    | succ d ih =>
      intro i hd hi
      refine Ev.succ ?_
      simp only [slices_Index_int64_int64.l0]
      refine Ev.pos (by omega) (Ev.pos (by omega) (Ev.pos (by omega) ?_))
      have hrd : rd l (i : Int) = l.getD i 0 := rfl
      rw [hrd, wrap_succ (show i < l.length by omega) (by omega)]
      by_cases hx : l.getD i 0 = x
      · refine Ev.pos hx.symm (Ev.some ?_)
        rw [xIdx_drop_hit _ _ _ 0 (by omega) _ (by rw [hx]; simp)]
      · refine Ev.neg (fun e => hx e.symm) ?_
        rw [xIdx_drop_miss _ _ _ 0 (by omega) _ (by simpa using hx)]
        exact ih (i + 1) (by omega) (by omega)
  have := key l.length 0 (by omega) (by omega)
  simpa using this
theorem implHas_ev (l : List Int) (x : Int) (h : l.length ≤ 1048576) : Ev (fun k => slices_Contains_int64_int64.f k l x) (l.any fun y => decide (y = x)) := by
  unfold slices_Contains_int64_int64.f
  refine Ev.bind (implIndex_ev l x h) (Ev.some ?_)
  rw [xIdx_nonneg _ _ _ (by omega)]
def ruleOf (n : Int) (back : Bool) : S139 := ⟨n, 1, back⟩
def rulesN (n0 n1 n2 n3 : Int) (l : List Int) : Nat → List S139
  | 0 => []
  | 1 => [ruleOf n0 (l.any fun y => decide (y = 0))]
  | 2 => [ruleOf n0 (l.any fun y => decide (y = 0)), ruleOf n1 (l.any fun y => decide (y = 1))]
  | 3 => [ruleOf n0 (l.any fun y => decide (y = 0)), ruleOf n1 (l.any fun y => decide (y = 1)), ruleOf n2 (l.any fun y => decide (y = 2))]
  | _ => [ruleOf n0 (l.any fun y => decide (y = 0)), ruleOf n1 (l.any fun y => decide (y = 1)), ruleOf n2 (l.any fun y => decide (y = 2)), ruleOf n3 (l.any fun y => decide (y = 3))]
set_option maxHeartbeats 1600000 in
set_option maxRecDepth 100000 in
theorem implRules (n0 n1 n2 n3 : Int) (A1 : Option Addr) (c1 : Nat) (l1 : List Int) (w : World) (hr1 : Kd.C (Kd.int .i64) w A1 l1.length l1) (hc1 : l1.length ≤ c1) (hl : l1.length ≤ 1048576) :
    Calls Try.prog 123 #[.agg #[.int .i64 n0, .int .i64 n1, .int .i64 n2, .int .i64 n3], .slice A1 l1.length c1] w fun e w' => ∃ v, e = .returned v ∧ Kd.R k139 139 w' w.heap.size (fun _ => True) v (rulesN n0 n1 n2 n3 l1 4) ∧ Below w.heap.size w w' := by
  have HR1 := Aside0.mk hr1
  have HC1 := Aside0.mk hc1
  have hhas : ∀ x : Int, Ev (fun k => slices_Contains_int64_int64.f k l1 x) (l1.any fun y => decide (y = x)) := fun x => implHas_ev l1 x hl
  obtain ⟨kq0, hk0⟩ := hhas 0
  obtain ⟨kq1, hk1⟩ := hhas 1
  obtain ⟨kq2, hk2⟩ := hhas 2
  obtain ⟨kq3, hk3⟩ := hhas 3
  have E0 := Aside0.mk (hk0 kq0 (Nat.le_refl _))
  have E1 := Aside0.mk (hk1 kq1 (Nat.le_refl _))
  have E2 := Aside0.mk (hk2 kq2 (Nat.le_refl _))
  have E3 := Aside0.mk (hk3 kq3 (Nat.le_refl _))
  have HB := Aside0.mk (Below.refl w.heap.size w)
  clear hr1 hc1 hhas hk0 hk1 hk2 hk3
  have hi0 : ∀ W : World, (Instr.index 169 (.agg #[.int .i64 n0, .int .i64 n1, .int .i64 n2, .int .i64 n3]) (.int .i64 0)).run Try.prog W = .ok (.int .i64 n0) W := fun W => by
    simp [Instr.index, run_underlying Try.underlying169, asIntOf, go_sem]
  have hi1 : ∀ W : World, (Instr.index 169 (.agg #[.int .i64 n0, .int .i64 n1, .int .i64 n2, .int .i64 n3]) (.int .i64 1)).run Try.prog W = .ok (.int .i64 n1) W := fun W => by
    simp [Instr.index, run_underlying Try.underlying169, asIntOf, go_sem]
  have hi2 : ∀ W : World, (Instr.index 169 (.agg #[.int .i64 n0, .int .i64 n1, .int .i64 n2, .int .i64 n3]) (.int .i64 2)).run Try.prog W = .ok (.int .i64 n2) W := fun W => by
    simp [Instr.index, run_underlying Try.underlying169, asIntOf, go_sem]
  have hi3 : ∀ W : World, (Instr.index 169 (.agg #[.int .i64 n0, .int .i64 n1, .int .i64 n2, .int .i64 n3]) (.int .i64 3)).run Try.prog W = .ok (.int .i64 n3) W := fun W => by
    simp [Instr.index, run_underlying Try.underlying169, asIntOf, go_sem]
  go_enter Try.func123, Try.ntmps123
  go_wp2_with (first | ((with_reducible refine gate_dst (N := 8) rfl ?_); refine Kd.R_lit k139 (w0 := w) w.heap.size 139 ?hg (N := 8) ?hd (xs := ([] : List (S139))) (inner := []) (ok := fun _ => True) (okp := fun _ => True) ?hr ?hp (fun _ hk => hk) trivial ?hB ?hS (by simp) ?_; (case hd => rfl); (case hg => rfl); (case hr => first | (go_simp; done) | (go_simp; rfl)); (case hp => exact (Reps.none _ _)); (case hB => exact below_alloc HB.out _); (case hS => simp); intro v115 w3 ho4 hb hg_ hnew_; have hblk : w3.heap[w.heap.size]? = some (.cells #[.int .i64 n0, .int .i64 n1, .int .i64 n2, .int .i64 n3] 169 (0, 0)) := (hg_.block _ (by simp) (by simp)).trans (heap_alloc_new w _); have q0 : w3.cell? ⟨w.heap.size, 0, none⟩ = some (.int .i64 n0) := (by simp [World.cell?, hblk]); have q1 : w3.cell? ⟨w.heap.size, 1, none⟩ = some (.int .i64 n1) := (by simp [World.cell?, hblk]); have q2 : w3.cell? ⟨w.heap.size, 2, none⟩ = some (.int .i64 n2) := (by simp [World.cell?, hblk]); have q3 : w3.cell? ⟨w.heap.size, 3, none⟩ = some (.int .i64 n3) := (by simp [World.cell?, hblk]); clear hg_ hnew_ hblk; have HO := Aside0.mk ho4; clear HB; have HB := Aside0.mk hb; clear ho4 hb))
  clear q0 q1 q2 q3
  go_loopg [5, 10] 4 (fun gg s5 s10 wr => ∃ kk : Nat, kk ≤ 4 ∧ 4 - kk ≤ gg ∧ s10 = .int .i64 kk ∧ Aside0 (Kd.R k139 139 wr w.heap.size (fun _ => True) s5 (rulesN n0 n1 n2 n3 l1 kk)) ∧ Aside0 (Below w.heap.size w wr))
  case atStart => exact ⟨0, Nat.zero_le _, by omega, rfl, HO, HB⟩
  case round =>
    obtain ⟨kk, hkk, hg, rfl, HO5, HB5⟩ := hrel
    by_cases hlt : kk < 4
    · have hltz : (kk : Int) < 4 := by omega
      obtain h | h | h | h : kk = 0 ∨ kk = 1 ∨ kk = 2 ∨ kk = 3 := by omega
      · subst h
        have BK := Aside0.mk (show Below w.heap.size w _ from HB5.out)
        go_wp2_with (first
          | (go_at_call 168; (refine (slices_Contains_int64_int64.calls kq0 A1 c1 l1 0 _ _ ?c1 HC1.out E0.out).mono ?_); (case c1 => repeat (first | exact Kd.C_below HR1.out BK.out | (with_reducible refine Kd.C_alloc ?_ _) | (with_reducible refine Kd.C_drewN ?_ _) | (with_reducible refine Kd.C_drew ?_))); rintro e w' ⟨rfl, ⟨nd, rfl⟩⟩)
          | ((with_reducible refine gate_builtin (b := .append) (xs := #[.tmp 14, .tmp 20]) rfl ?_); at_builtin; refine Kd.R_append k139 (w0 := w) w.heap.size rfl (.tmp 14) (.tmp 20) 57 139 (.agg #[(.int .i64 0), (.int .i64 0), (.bool false)]) 24 rfl Try.underlying57 info139 rfl (by decide) (by omega) _ (rulesN n0 n1 n2 n3 l1 0) (ruleOf n0 (l1.any fun y => decide (y = 0))) [.int .i64 n0, .int .i64 1, .bool (l1.any fun y => decide (y = 0))] (fun _ => True) (fun _ => False) rfl rfl ?aP (fun _ hk => hk.elim) ?aF ?aO ?aB ?aS ?aL ?_; (case aP => exact k139_mkM _ _ _ (ruleOf n0 (l1.any fun y => decide (y = 0)))); (case aB => exact (by repeat (first | exact BK.out | apply below_alloc | apply pw_below_drewN | apply below_drew1))); (case aF => exact (fun _ _ => trivial)); (case aO => exact (by (with_reducible repeat (first | apply Kd.R_alloc | apply Kd.R_drewN | apply Kd.R_drew)); exact HO5.out)); (case aS => exact (below_size (by repeat (first | exact BK.out | apply below_alloc | apply pw_below_drewN | apply below_drew1)))); (case aL => simp [rulesN]); intro v348 w16 ho hb hg hat; have HO6 := Aside0.mk ho; have HB6 := Aside0.mk hb; clear ho hb hg hat))
        go_roundg 3
        case measure => omega
        case rel => exact ⟨1, by omega, by omega, by go_num, HO6, HB6⟩
      · subst h
        have BK := Aside0.mk (show Below w.heap.size w _ from HB5.out)
        go_wp2_with (first
          | (go_at_call 168; (refine (slices_Contains_int64_int64.calls kq1 A1 c1 l1 1 _ _ ?c1 HC1.out E1.out).mono ?_); (case c1 => repeat (first | exact Kd.C_below HR1.out BK.out | (with_reducible refine Kd.C_alloc ?_ _) | (with_reducible refine Kd.C_drewN ?_ _) | (with_reducible refine Kd.C_drew ?_))); rintro e w' ⟨rfl, ⟨nd, rfl⟩⟩)
          | ((with_reducible refine gate_builtin (b := .append) (xs := #[.tmp 14, .tmp 20]) rfl ?_); at_builtin; refine Kd.R_append k139 (w0 := w) w.heap.size rfl (.tmp 14) (.tmp 20) 57 139 (.agg #[(.int .i64 0), (.int .i64 0), (.bool false)]) 24 rfl Try.underlying57 info139 rfl (by decide) (by omega) _ (rulesN n0 n1 n2 n3 l1 1) (ruleOf n1 (l1.any fun y => decide (y = 1))) [.int .i64 n1, .int .i64 1, .bool (l1.any fun y => decide (y = 1))] (fun _ => True) (fun _ => False) rfl rfl ?aP (fun _ hk => hk.elim) ?aF ?aO ?aB ?aS ?aL ?_; (case aP => exact k139_mkM _ _ _ (ruleOf n1 (l1.any fun y => decide (y = 1)))); (case aB => exact (by repeat (first | exact BK.out | apply below_alloc | apply pw_below_drewN | apply below_drew1))); (case aF => exact (fun _ _ => trivial)); (case aO => exact (by (with_reducible repeat (first | apply Kd.R_alloc | apply Kd.R_drewN | apply Kd.R_drew)); exact HO5.out)); (case aS => exact (below_size (by repeat (first | exact BK.out | apply below_alloc | apply pw_below_drewN | apply below_drew1)))); (case aL => simp [rulesN]); intro v348 w16 ho hb hg hat; have HO6 := Aside0.mk ho; have HB6 := Aside0.mk hb; clear ho hb hg hat))
        go_roundg 2
        case measure => omega
        case rel => exact ⟨2, by omega, by omega, by go_num, HO6, HB6⟩
      · subst h
        have BK := Aside0.mk (show Below w.heap.size w _ from HB5.out)
        go_wp2_with (first
          | (go_at_call 168; (refine (slices_Contains_int64_int64.calls kq2 A1 c1 l1 2 _ _ ?c1 HC1.out E2.out).mono ?_); (case c1 => repeat (first | exact Kd.C_below HR1.out BK.out | (with_reducible refine Kd.C_alloc ?_ _) | (with_reducible refine Kd.C_drewN ?_ _) | (with_reducible refine Kd.C_drew ?_))); rintro e w' ⟨rfl, ⟨nd, rfl⟩⟩)
          | ((with_reducible refine gate_builtin (b := .append) (xs := #[.tmp 14, .tmp 20]) rfl ?_); at_builtin; refine Kd.R_append k139 (w0 := w) w.heap.size rfl (.tmp 14) (.tmp 20) 57 139 (.agg #[(.int .i64 0), (.int .i64 0), (.bool false)]) 24 rfl Try.underlying57 info139 rfl (by decide) (by omega) _ (rulesN n0 n1 n2 n3 l1 2) (ruleOf n2 (l1.any fun y => decide (y = 2))) [.int .i64 n2, .int .i64 1, .bool (l1.any fun y => decide (y = 2))] (fun _ => True) (fun _ => False) rfl rfl ?aP (fun _ hk => hk.elim) ?aF ?aO ?aB ?aS ?aL ?_; (case aP => exact k139_mkM _ _ _ (ruleOf n2 (l1.any fun y => decide (y = 2)))); (case aB => exact (by repeat (first | exact BK.out | apply below_alloc | apply pw_below_drewN | apply below_drew1))); (case aF => exact (fun _ _ => trivial)); (case aO => exact (by (with_reducible repeat (first | apply Kd.R_alloc | apply Kd.R_drewN | apply Kd.R_drew)); exact HO5.out)); (case aS => exact (below_size (by repeat (first | exact BK.out | apply below_alloc | apply pw_below_drewN | apply below_drew1)))); (case aL => simp [rulesN]); intro v348 w16 ho hb hg hat; have HO6 := Aside0.mk ho; have HB6 := Aside0.mk hb; clear ho hb hg hat))
        go_roundg 1
        case measure => omega
        case rel => exact ⟨3, by omega, by omega, by go_num, HO6, HB6⟩
      · subst h
        have BK := Aside0.mk (show Below w.heap.size w _ from HB5.out)
        go_wp2_with (first
          | (go_at_call 168; (refine (slices_Contains_int64_int64.calls kq3 A1 c1 l1 3 _ _ ?c1 HC1.out E3.out).mono ?_); (case c1 => repeat (first | exact Kd.C_below HR1.out BK.out | (with_reducible refine Kd.C_alloc ?_ _) | (with_reducible refine Kd.C_drewN ?_ _) | (with_reducible refine Kd.C_drew ?_))); rintro e w' ⟨rfl, ⟨nd, rfl⟩⟩)
          | ((with_reducible refine gate_builtin (b := .append) (xs := #[.tmp 14, .tmp 20]) rfl ?_); at_builtin; refine Kd.R_append k139 (w0 := w) w.heap.size rfl (.tmp 14) (.tmp 20) 57 139 (.agg #[(.int .i64 0), (.int .i64 0), (.bool false)]) 24 rfl Try.underlying57 info139 rfl (by decide) (by omega) _ (rulesN n0 n1 n2 n3 l1 3) (ruleOf n3 (l1.any fun y => decide (y = 3))) [.int .i64 n3, .int .i64 1, .bool (l1.any fun y => decide (y = 3))] (fun _ => True) (fun _ => False) rfl rfl ?aP (fun _ hk => hk.elim) ?aF ?aO ?aB ?aS ?aL ?_; (case aP => exact k139_mkM _ _ _ (ruleOf n3 (l1.any fun y => decide (y = 3)))); (case aB => exact (by repeat (first | exact BK.out | apply below_alloc | apply pw_below_drewN | apply below_drew1))); (case aF => exact (fun _ _ => trivial)); (case aO => exact (by (with_reducible repeat (first | apply Kd.R_alloc | apply Kd.R_drewN | apply Kd.R_drew)); exact HO5.out)); (case aS => exact (below_size (by repeat (first | exact BK.out | apply below_alloc | apply pw_below_drewN | apply below_drew1)))); (case aL => simp [rulesN]); intro v348 w16 ho hb hg hat; have HO6 := Aside0.mk ho; have HB6 := Aside0.mk hb; clear ho hb hg hat))
        go_roundg 0
        case measure => omega
        case rel => exact ⟨4, by omega, by omega, by go_num, HO6, HB6⟩
    · obtain rfl : kk = 4 := by omega
      go_wp2
      go_ret
      exact ⟨_, rfl, HO5.out, HB5.out⟩

theorem lit_C1 (W : World) (x : Int) (t : TypeId) : (Kd.int .i64).C (W.alloc (.cells #[.int .i64 x] t)) (some ⟨W.heap.size, 0, none⟩) 1 [x] := by
  refine Kd.C_of_reads (d := 0) ⟨rfl, by decide, fun _ => ⟨_, rfl, fun j hj => ?_⟩⟩
  obtain rfl : j = 0 := by omega
  have e : (W.alloc (.cells #[.int .i64 x] t)).cell? ⟨W.heap.size, 0, none⟩ = some (.int .i64 x) := by
    unfold World.cell?
    dsimp only
    rw [heap_alloc_new]
    rfl
  rw [add_plain]
  exact e
theorem st_rules {w0 W : World} {L : List (Thing × Nat × Nat)} {n0 n1 n2 n3 : Int} {A1 : Option Addr} {n c1 : Nat} {l1 : List Int} (h : St w0 W L) (hr1 : Kd.C (Kd.int .i64) W A1 n l1) (hn : n = l1.length) (hc1 : n ≤ c1) (hl : l1.length ≤ 1048576) :
    Calls Try.prog 123 #[.agg #[.int .i64 n0, .int .i64 n1, .int .i64 n2, .int .i64 n3], .slice A1 n c1] W fun e w' => ∃ A c lo hi, e = .returned (.slice A 4 c) ∧ St w0 w' ((flat k139 139 (.slice A 4 c) (rulesN n0 n1 n2 n3 l1 4), lo, hi) :: L) := by
  subst hn
  refine (implRules n0 n1 n2 n3 A1 c1 l1 W hr1 hc1 hl).mono ?_
  rintro e w' ⟨v, rfl, hr', hb⟩
  obtain ⟨A, c, rfl⟩ := Kd.R_slice hr'
  exact ⟨A, c, _, _, rfl, h.add hb (flat_new hr')⟩
theorem lit_C1g (W : World) (x : Int) (t : TypeId) {g : Nat} (hg : g = W.heap.size) : (Kd.int .i64).C (W.alloc (.cells #[.int .i64 x] t)) (some ⟨g, 0, none⟩) 1 [x] := by
  subst hg
  exact lit_C1 W x t
theorem lit_C0 (W : World) (t : TypeId) {g : Nat} : (Kd.int .i64).C (W.alloc (.cells #[] t)) (some ⟨g, 0, none⟩) 0 [] := Kd.C_of_reads (d := 0) ⟨rfl, by decide, fun h => absurd h (Nat.lt_irrefl 0)⟩
theorem lit_C4 (W : World) (x0 x1 x2 x3 : Int) (t : TypeId) {g : Nat} (hg : g = W.heap.size) : (Kd.int .i64).C (W.alloc (.cells #[.int .i64 x0, .int .i64 x1, .int .i64 x2, .int .i64 x3] t)) (some ⟨g, 0, none⟩) 4 [x0, x1, x2, x3] := by
  subst hg
  refine Kd.C_of_reads (d := 0) ⟨rfl, by decide, fun _ => ⟨_, rfl, fun j hj => ?_⟩⟩
  rw [add_plain]
  unfold World.cell?
  dsimp only
  rw [heap_alloc_new]
  obtain rfl | rfl | rfl | rfl : j = 0 ∨ j = 1 ∨ j = 2 ∨ j = 3 := by omega
  all_goals rfl
set_option maxHeartbeats 1600000 in
set_option maxRecDepth 100000 in
theorem st_implThrough (b : Bool) (w : World) :
    Calls Try.prog 57 #[.bool b] w fun e w' => ∃ v0 v1 v2 v3 v4, e = .returned (.agg #[v0, v1, v2, v3, v4]) ∧ ∃ a0 b0 a1 b1 a2 b2 a3 b3 a4 b4, St w w' [(flat k139 139 v4 (rulesN 0 0 0 0 [] 4), a4, b4), (flat k139 139 v3 (rulesN 0 1 1 1 [] 4), a3, b3), (flat k139 139 v2 (rulesN 0 0 0 0 [] 4), a2, b2), (flat k139 139 v1 (rulesN (if b = true then 1 else 0) 1 1 1 [0, 1, 2, 3] 4), a1, b1), (flat k139 139 v0 (rulesN 1 1 1 1 [] 4), a0, b0)] := by
  have HS := St.start w
  cases b with
  | true =>
    go_enter Try.func57, Try.ntmps57
    go_wp2_with (go_at_call 123; refine (st_rules (w0 := w) (by first | with_reducible exact HS | with_reducible exact St.box HS _ _) (by first | with_reducible exact lit_C4 _ 0 1 2 3 _ (by simp) | exact Kd.C_nil _ _) (by rfl) (by decide) (by decide)).mono ?_; rintro e w' ⟨A, c, lo, hi, rfl, HS⟩; have q0 : w'.cell? ⟨w.heap.size, 0, none⟩ = some (.slice none 0 0) := (HS.cell (cs := #[.slice none 0 0, .slice none 0 0, .slice none 0 0, .slice none 0 0, .slice none 0 0]) (t := 59) (by repeat (first | exact List.mem_cons_self | refine List.mem_cons_of_mem _ ?_)) 0 _ rfl); have q1 : w'.cell? ⟨w.heap.size, 1, none⟩ = some (.slice none 0 0) := (HS.cell (cs := #[.slice none 0 0, .slice none 0 0, .slice none 0 0, .slice none 0 0, .slice none 0 0]) (t := 59) (by repeat (first | exact List.mem_cons_self | refine List.mem_cons_of_mem _ ?_)) 1 _ rfl); have q2 : w'.cell? ⟨w.heap.size, 2, none⟩ = some (.slice none 0 0) := (HS.cell (cs := #[.slice none 0 0, .slice none 0 0, .slice none 0 0, .slice none 0 0, .slice none 0 0]) (t := 59) (by repeat (first | exact List.mem_cons_self | refine List.mem_cons_of_mem _ ?_)) 2 _ rfl); have q3 : w'.cell? ⟨w.heap.size, 3, none⟩ = some (.slice none 0 0) := (HS.cell (cs := #[.slice none 0 0, .slice none 0 0, .slice none 0 0, .slice none 0 0, .slice none 0 0]) (t := 59) (by repeat (first | exact List.mem_cons_self | refine List.mem_cons_of_mem _ ?_)) 3 _ rfl); have q4 : w'.cell? ⟨w.heap.size, 4, none⟩ = some (.slice none 0 0) := (HS.cell (cs := #[.slice none 0 0, .slice none 0 0, .slice none 0 0, .slice none 0 0, .slice none 0 0]) (t := 59) (by repeat (first | exact List.mem_cons_self | refine List.mem_cons_of_mem _ ?_)) 4 _ rfl); have fz : ∀ j, w'.frozen? ⟨w.heap.size, j, none⟩ = false := (HS.thaw (cs := #[.slice none 0 0, .slice none 0 0, .slice none 0 0, .slice none 0 0, .slice none 0 0]) (t := 59) (by repeat (first | exact List.mem_cons_self | refine List.mem_cons_of_mem _ ?_))))
    refine bodyPost_ret (results_cell_row rfl _ _ w.heap.size 59 _ (0, 0) _ rfl (St.blk (w0 := w) (St.setBox (St.setBox (St.setBox (St.setBox (St.setBox (by with_reducible exact HS) 0 _ (by repeat (first | with_reducible exact Upd.here | apply Upd.there))) 1 _ (by repeat (first | with_reducible exact Upd.here | apply Upd.there))) 2 _ (by repeat (first | with_reducible exact Upd.here | apply Upd.there))) 3 _ (by repeat (first | with_reducible exact Upd.here | apply Upd.there))) 4 _ (by repeat (first | with_reducible exact Upd.here | apply Upd.there))) (by repeat (first | with_reducible exact List.mem_cons_self | refine List.mem_cons_of_mem _ ?_))) Try.underlying59 rfl (by kernel_rfl)) rfl ?_
    exact ⟨_, _, _, _, _, rfl, _, _, _, _, _, _, _, _, _, _, St.sub (w0 := w) (St.setBox (St.setBox (St.setBox (St.setBox (St.setBox (by with_reducible exact HS) 0 _ (by repeat (first | with_reducible exact Upd.here | apply Upd.there))) 1 _ (by repeat (first | with_reducible exact Upd.here | apply Upd.there))) 2 _ (by repeat (first | with_reducible exact Upd.here | apply Upd.there))) 3 _ (by repeat (first | with_reducible exact Upd.here | apply Upd.there))) 4 _ (by repeat (first | with_reducible exact Upd.here | apply Upd.there))) (by repeat (first | exact List.Sublist.slnil | with_reducible apply List.Sublist.cons_cons | apply List.Sublist.cons))⟩
  | false =>
    go_enter Try.func57, Try.ntmps57
    go_wp2_with (go_at_call 123; refine (st_rules (w0 := w) (by first | with_reducible exact HS | with_reducible exact St.box HS _ _) (by first | with_reducible exact lit_C4 _ 0 1 2 3 _ (by simp) | exact Kd.C_nil _ _) (by rfl) (by decide) (by decide)).mono ?_; rintro e w' ⟨A, c, lo, hi, rfl, HS⟩; have q0 : w'.cell? ⟨w.heap.size, 0, none⟩ = some (.slice none 0 0) := (HS.cell (cs := #[.slice none 0 0, .slice none 0 0, .slice none 0 0, .slice none 0 0, .slice none 0 0]) (t := 59) (by repeat (first | exact List.mem_cons_self | refine List.mem_cons_of_mem _ ?_)) 0 _ rfl); have q1 : w'.cell? ⟨w.heap.size, 1, none⟩ = some (.slice none 0 0) := (HS.cell (cs := #[.slice none 0 0, .slice none 0 0, .slice none 0 0, .slice none 0 0, .slice none 0 0]) (t := 59) (by repeat (first | exact List.mem_cons_self | refine List.mem_cons_of_mem _ ?_)) 1 _ rfl); have q2 : w'.cell? ⟨w.heap.size, 2, none⟩ = some (.slice none 0 0) := (HS.cell (cs := #[.slice none 0 0, .slice none 0 0, .slice none 0 0, .slice none 0 0, .slice none 0 0]) (t := 59) (by repeat (first | exact List.mem_cons_self | refine List.mem_cons_of_mem _ ?_)) 2 _ rfl); have q3 : w'.cell? ⟨w.heap.size, 3, none⟩ = some (.slice none 0 0) := (HS.cell (cs := #[.slice none 0 0, .slice none 0 0, .slice none 0 0, .slice none 0 0, .slice none 0 0]) (t := 59) (by repeat (first | exact List.mem_cons_self | refine List.mem_cons_of_mem _ ?_)) 3 _ rfl); have q4 : w'.cell? ⟨w.heap.size, 4, none⟩ = some (.slice none 0 0) := (HS.cell (cs := #[.slice none 0 0, .slice none 0 0, .slice none 0 0, .slice none 0 0, .slice none 0 0]) (t := 59) (by repeat (first | exact List.mem_cons_self | refine List.mem_cons_of_mem _ ?_)) 4 _ rfl); have fz : ∀ j, w'.frozen? ⟨w.heap.size, j, none⟩ = false := (HS.thaw (cs := #[.slice none 0 0, .slice none 0 0, .slice none 0 0, .slice none 0 0, .slice none 0 0]) (t := 59) (by repeat (first | exact List.mem_cons_self | refine List.mem_cons_of_mem _ ?_))))
    refine bodyPost_ret (results_cell_row rfl _ _ w.heap.size 59 _ (0, 0) _ rfl (St.blk (w0 := w) (St.setBox (St.setBox (St.setBox (St.setBox (St.setBox (by with_reducible exact HS) 0 _ (by repeat (first | with_reducible exact Upd.here | apply Upd.there))) 1 _ (by repeat (first | with_reducible exact Upd.here | apply Upd.there))) 2 _ (by repeat (first | with_reducible exact Upd.here | apply Upd.there))) 3 _ (by repeat (first | with_reducible exact Upd.here | apply Upd.there))) 4 _ (by repeat (first | with_reducible exact Upd.here | apply Upd.there))) (by repeat (first | with_reducible exact List.mem_cons_self | refine List.mem_cons_of_mem _ ?_))) Try.underlying59 rfl (by kernel_rfl)) rfl ?_
    exact ⟨_, _, _, _, _, rfl, _, _, _, _, _, _, _, _, _, _, St.sub (w0 := w) (St.setBox (St.setBox (St.setBox (St.setBox (St.setBox (by with_reducible exact HS) 0 _ (by repeat (first | with_reducible exact Upd.here | apply Upd.there))) 1 _ (by repeat (first | with_reducible exact Upd.here | apply Upd.there))) 2 _ (by repeat (first | with_reducible exact Upd.here | apply Upd.there))) 3 _ (by repeat (first | with_reducible exact Upd.here | apply Upd.there))) 4 _ (by repeat (first | with_reducible exact Upd.here | apply Upd.there))) (by repeat (first | exact List.Sublist.slnil | with_reducible apply List.Sublist.cons_cons | apply List.Sublist.cons))⟩
theorem specHas_ev (l : List Int) (x : Int) (h : l.length ≤ 1048576) : Ev (fun k => spec_l00Has.f k l x) (l.any fun y => decide (y = x)) := by
  unfold spec_l00Has.f
  have key : ∀ d i, l.length - i = d → i ≤ l.length → Ev (fun k => spec_l00Has.l0 k l x (i : Int)) ((l.drop i).any fun y => decide (y = x)) := by
    intro d
    induction d with
    | zero =>
      intro i hd hi
      refine Ev.succ ?_
      simp only [spec_l00Has.l0]
      refine Ev.neg (by omega) (Ev.some ?_)
      rw [List.drop_eq_nil_of_le (by omega)]
      rfl
    | succ d ih =>
      intro i hd hi
      refine Ev.succ ?_
      simp only [spec_l00Has.l0]
      refine Ev.pos (by omega) (Ev.pos (by omega) ?_)
      have hrd : rd l (i : Int) = l.getD i 0 := rfl
      rw [drop_cons l i 0 (by omega), List.any_cons, hrd, wrap_succ (show i < l.length by omega) (by omega)]
      by_cases hx : l.getD i 0 = x
      · exact Ev.pos hx (Ev.some (by rw [decide_eq_true hx]; rfl))
      · refine Ev.neg hx ?_
        have := ih (i + 1) (by omega) (by omega)
        rw [decide_eq_false hx, Bool.false_or]
        exact this
  have := key l.length 0 (by omega) (by omega)
  simpa using this
theorem specRules_ev (a b c d : Int) (l : List Int) (h : l.length ≤ 1048576) : Ev (fun k => spec_l10Rules.f k [a, b, c, d] l) (rulesN a b c d l 4) := by
  unfold spec_l10Rules.f
  refine Ev.succ ?_
  simp only [spec_l10Rules.l0]
  refine Ev.pos (by omega) (Ev.pos (by omega) (Ev.pos (by simp) (Ev.bind (specHas_ev l 0 h) (Ev.pos (by simp) (Ev.succ ?_)))))
  rw [show wrap64 (0 + 1) = 1 from wrap_id (by omega) (by omega)]
  simp only [spec_l10Rules.l0]
  refine Ev.pos (by omega) (Ev.pos (by omega) (Ev.pos (by simp) (Ev.bind (specHas_ev l 1 h) (Ev.pos (by simp) (Ev.succ ?_)))))
  rw [show wrap64 (1 + 1) = 2 from wrap_id (by omega) (by omega)]
  simp only [spec_l10Rules.l0]
  refine Ev.pos (by omega) (Ev.pos (by omega) (Ev.pos (by simp) (Ev.bind (specHas_ev l 2 h) (Ev.pos (by simp) (Ev.succ ?_)))))
  rw [show wrap64 (2 + 1) = 3 from wrap_id (by omega) (by omega)]
  simp only [spec_l10Rules.l0]
  refine Ev.pos (by omega) (Ev.pos (by omega) (Ev.pos (by simp) (Ev.bind (specHas_ev l 3 h) (Ev.pos (by simp) (Ev.succ ?_)))))
  rw [show wrap64 (3 + 1) = 4 from wrap_id (by omega) (by omega)]
  simp only [spec_l10Rules.l0]
  exact Ev.neg (by omega) (Ev.some rfl)
theorem st_specRules {w0 W : World} {L : List (Thing × Nat × Nat)} {n0 n1 n2 n3 : Int} {A0 A1 : Option Addr} {n c0 c1 : Nat} {l1 : List Int} (h : St w0 W L) (hr0 : Kd.C (Kd.int .i64) W A0 4 [n0, n1, n2, n3]) (hc0 : 4 ≤ c0) (hr1 : Kd.C (Kd.int .i64) W A1 n l1) (hn : n = l1.length) (hc1 : n ≤ c1) (hl : l1.length ≤ 1048576) :
    Calls Try.prog 122 #[.slice A0 4 c0, .slice A1 n c1] W fun e w' => ∃ A c lo hi, e = .returned (.slice A 4 c) ∧ St w0 w' ((flat k139 139 (.slice A 4 c) (rulesN n0 n1 n2 n3 l1 4), lo, hi) :: L) := by
  subst hn
  obtain ⟨k, hk⟩ := specRules_ev n0 n1 n2 n3 l1 hl
  refine (spec_l10Rules.calls k A0 c0 [n0, n1, n2, n3] A1 c1 l1 _ W hr0 hc0 hr1 hc1 (hk k (Nat.le_refl _))).mono ?_
  rintro e w' ⟨v, rfl, hr', hb⟩
  obtain ⟨A, c, rfl⟩ := Kd.R_slice hr'
  exact ⟨A, c, _, _, rfl, h.add hb (flat_new hr')⟩
set_option maxHeartbeats 1600000 in
set_option maxRecDepth 100000 in
theorem st_specThrough (b : Bool) (w : World) :
    Calls Try.prog 56 #[.bool b] w fun e w' => ∃ v0 v1 v2 v3 v4, e = .returned (.agg #[v0, v1, v2, v3, v4]) ∧ ∃ a0 b0 a1 b1 a2 b2 a3 b3 a4 b4, St w w' [(flat k139 139 v4 (rulesN 0 0 0 0 [] 4), a4, b4), (flat k139 139 v3 (rulesN 0 1 1 1 [] 4), a3, b3), (flat k139 139 v2 (rulesN 0 0 0 0 [] 4), a2, b2), (flat k139 139 v1 (rulesN (if b = true then 1 else 0) 1 1 1 [0, 1, 2, 3] 4), a1, b1), (flat k139 139 v0 (rulesN 1 1 1 1 [] 4), a0, b0)] := by
  have HS := St.start w
  cases b with
  | true =>
    go_enter Try.func56, Try.ntmps56
    go_wp2_with (go_at_call 122; refine (st_specRules (w0 := w) (by first | with_reducible exact St.box (St.box (St.box HS _ _) _ _) _ _ | with_reducible exact St.box (St.box HS _ _) _ _) (by with_reducible exact Kd.C_alloc (lit_C4 _ _ _ _ _ _ (by simp)) _) (by decide) (by first | with_reducible exact lit_C4 _ 0 1 2 3 _ (by simp) | with_reducible exact lit_C0 _ _) (by rfl) (by decide) (by decide)).mono ?_; rintro e w' ⟨A, c, lo, hi, rfl, HS⟩; have q0 : w'.cell? ⟨w.heap.size, 0, none⟩ = some (.slice none 0 0) := (HS.cell (cs := #[.slice none 0 0, .slice none 0 0, .slice none 0 0, .slice none 0 0, .slice none 0 0]) (t := 59) (by repeat (first | exact List.mem_cons_self | refine List.mem_cons_of_mem _ ?_)) 0 _ rfl); have q1 : w'.cell? ⟨w.heap.size, 1, none⟩ = some (.slice none 0 0) := (HS.cell (cs := #[.slice none 0 0, .slice none 0 0, .slice none 0 0, .slice none 0 0, .slice none 0 0]) (t := 59) (by repeat (first | exact List.mem_cons_self | refine List.mem_cons_of_mem _ ?_)) 1 _ rfl); have q2 : w'.cell? ⟨w.heap.size, 2, none⟩ = some (.slice none 0 0) := (HS.cell (cs := #[.slice none 0 0, .slice none 0 0, .slice none 0 0, .slice none 0 0, .slice none 0 0]) (t := 59) (by repeat (first | exact List.mem_cons_self | refine List.mem_cons_of_mem _ ?_)) 2 _ rfl); have q3 : w'.cell? ⟨w.heap.size, 3, none⟩ = some (.slice none 0 0) := (HS.cell (cs := #[.slice none 0 0, .slice none 0 0, .slice none 0 0, .slice none 0 0, .slice none 0 0]) (t := 59) (by repeat (first | exact List.mem_cons_self | refine List.mem_cons_of_mem _ ?_)) 3 _ rfl); have q4 : w'.cell? ⟨w.heap.size, 4, none⟩ = some (.slice none 0 0) := (HS.cell (cs := #[.slice none 0 0, .slice none 0 0, .slice none 0 0, .slice none 0 0, .slice none 0 0]) (t := 59) (by repeat (first | exact List.mem_cons_self | refine List.mem_cons_of_mem _ ?_)) 4 _ rfl); have fz : ∀ j, w'.frozen? ⟨w.heap.size, j, none⟩ = false := (HS.thaw (cs := #[.slice none 0 0, .slice none 0 0, .slice none 0 0, .slice none 0 0, .slice none 0 0]) (t := 59) (by repeat (first | exact List.mem_cons_self | refine List.mem_cons_of_mem _ ?_))))
    refine bodyPost_ret (results_cell_row rfl _ _ w.heap.size 59 _ (0, 0) _ rfl (St.blk (w0 := w) (St.setBox (St.setBox (St.setBox (St.setBox (St.setBox (by with_reducible exact HS) 0 _ (by repeat (first | with_reducible exact Upd.here | apply Upd.there))) 1 _ (by repeat (first | with_reducible exact Upd.here | apply Upd.there))) 2 _ (by repeat (first | with_reducible exact Upd.here | apply Upd.there))) 3 _ (by repeat (first | with_reducible exact Upd.here | apply Upd.there))) 4 _ (by repeat (first | with_reducible exact Upd.here | apply Upd.there))) (by repeat (first | with_reducible exact List.mem_cons_self | refine List.mem_cons_of_mem _ ?_))) Try.underlying59 rfl (by kernel_rfl)) rfl ?_
    exact ⟨_, _, _, _, _, rfl, _, _, _, _, _, _, _, _, _, _, St.sub (w0 := w) (St.setBox (St.setBox (St.setBox (St.setBox (St.setBox (by with_reducible exact HS) 0 _ (by repeat (first | with_reducible exact Upd.here | apply Upd.there))) 1 _ (by repeat (first | with_reducible exact Upd.here | apply Upd.there))) 2 _ (by repeat (first | with_reducible exact Upd.here | apply Upd.there))) 3 _ (by repeat (first | with_reducible exact Upd.here | apply Upd.there))) 4 _ (by repeat (first | with_reducible exact Upd.here | apply Upd.there))) (by repeat (first | exact List.Sublist.slnil | with_reducible apply List.Sublist.cons_cons | apply List.Sublist.cons))⟩
  | false =>
    go_enter Try.func56, Try.ntmps56
    go_wp2_with (go_at_call 122; refine (st_specRules (w0 := w) (by first | with_reducible exact St.box (St.box (St.box HS _ _) _ _) _ _ | with_reducible exact St.box (St.box HS _ _) _ _) (by with_reducible exact Kd.C_alloc (lit_C4 _ _ _ _ _ _ (by simp)) _) (by decide) (by first | with_reducible exact lit_C4 _ 0 1 2 3 _ (by simp) | with_reducible exact lit_C0 _ _) (by rfl) (by decide) (by decide)).mono ?_; rintro e w' ⟨A, c, lo, hi, rfl, HS⟩; have q0 : w'.cell? ⟨w.heap.size, 0, none⟩ = some (.slice none 0 0) := (HS.cell (cs := #[.slice none 0 0, .slice none 0 0, .slice none 0 0, .slice none 0 0, .slice none 0 0]) (t := 59) (by repeat (first | exact List.mem_cons_self | refine List.mem_cons_of_mem _ ?_)) 0 _ rfl); have q1 : w'.cell? ⟨w.heap.size, 1, none⟩ = some (.slice none 0 0) := (HS.cell (cs := #[.slice none 0 0, .slice none 0 0, .slice none 0 0, .slice none 0 0, .slice none 0 0]) (t := 59) (by repeat (first | exact List.mem_cons_self | refine List.mem_cons_of_mem _ ?_)) 1 _ rfl); have q2 : w'.cell? ⟨w.heap.size, 2, none⟩ = some (.slice none 0 0) := (HS.cell (cs := #[.slice none 0 0, .slice none 0 0, .slice none 0 0, .slice none 0 0, .slice none 0 0]) (t := 59) (by repeat (first | exact List.mem_cons_self | refine List.mem_cons_of_mem _ ?_)) 2 _ rfl); have q3 : w'.cell? ⟨w.heap.size, 3, none⟩ = some (.slice none 0 0) := (HS.cell (cs := #[.slice none 0 0, .slice none 0 0, .slice none 0 0, .slice none 0 0, .slice none 0 0]) (t := 59) (by repeat (first | exact List.mem_cons_self | refine List.mem_cons_of_mem _ ?_)) 3 _ rfl); have q4 : w'.cell? ⟨w.heap.size, 4, none⟩ = some (.slice none 0 0) := (HS.cell (cs := #[.slice none 0 0, .slice none 0 0, .slice none 0 0, .slice none 0 0, .slice none 0 0]) (t := 59) (by repeat (first | exact List.mem_cons_self | refine List.mem_cons_of_mem _ ?_)) 4 _ rfl); have fz : ∀ j, w'.frozen? ⟨w.heap.size, j, none⟩ = false := (HS.thaw (cs := #[.slice none 0 0, .slice none 0 0, .slice none 0 0, .slice none 0 0, .slice none 0 0]) (t := 59) (by repeat (first | exact List.mem_cons_self | refine List.mem_cons_of_mem _ ?_))))
    refine bodyPost_ret (results_cell_row rfl _ _ w.heap.size 59 _ (0, 0) _ rfl (St.blk (w0 := w) (St.setBox (St.setBox (St.setBox (St.setBox (St.setBox (by with_reducible exact HS) 0 _ (by repeat (first | with_reducible exact Upd.here | apply Upd.there))) 1 _ (by repeat (first | with_reducible exact Upd.here | apply Upd.there))) 2 _ (by repeat (first | with_reducible exact Upd.here | apply Upd.there))) 3 _ (by repeat (first | with_reducible exact Upd.here | apply Upd.there))) 4 _ (by repeat (first | with_reducible exact Upd.here | apply Upd.there))) (by repeat (first | with_reducible exact List.mem_cons_self | refine List.mem_cons_of_mem _ ?_))) Try.underlying59 rfl (by kernel_rfl)) rfl ?_
    exact ⟨_, _, _, _, _, rfl, _, _, _, _, _, _, _, _, _, _, St.sub (w0 := w) (St.setBox (St.setBox (St.setBox (St.setBox (St.setBox (by with_reducible exact HS) 0 _ (by repeat (first | with_reducible exact Upd.here | apply Upd.there))) 1 _ (by repeat (first | with_reducible exact Upd.here | apply Upd.there))) 2 _ (by repeat (first | with_reducible exact Upd.here | apply Upd.there))) 3 _ (by repeat (first | with_reducible exact Upd.here | apply Upd.there))) 4 _ (by repeat (first | with_reducible exact Upd.here | apply Upd.there))) (by repeat (first | exact List.Sublist.slnil | with_reducible apply List.Sublist.cons_cons | apply List.Sublist.cons))⟩
theorem st_markRuleS {w0 W : World} {L L' : List (Thing × Nat × Nat)} {v : Value} {l l' : List S139} {a r : Int} {lo hi : Nat} (h : St w0 W L) (u : Upd (flat k139 139 v l) (flat k139 139 v l') lo hi L L') (he : Ev (fun k => laws_markRuleS.f k l a) (r, l')) :
    Calls Try.prog 124 #[v, .int .i64 a] W fun e w' => e = .returned (.int .i64 r) ∧ St w0 w' L' := by
  obtain ⟨hp, hlo, _, _⟩ := h.get u.mem
  obtain ⟨k, hk⟩ := he
  refine (laws_markRuleS.calls k (fun k_ => some k_ = v.ownBlock) v l a r l' w0 W h.below (Kd.R_lower (Kd.R_tight rfl hp) hlo) (hk k (Nat.le_refl _))).mono ?_
  rintro e w' ⟨rfl, hr', hb, hk'⟩
  exact ⟨rfl, h.upd u hb (hk'.mono (fun k e => hp.1 k e.symm)) (flat_marked (b := w0.heap.size) rfl (fun _ _ _ _ h => h) hp hr')⟩
set_option maxHeartbeats 1600000 in
set_option maxRecDepth 100000 in
theorem st_markProtocol {w0 W : World} {L0 L1 L2 L3 L4 L5 : List (Thing × Nat × Nat)} {A0 A1 A2 A3 A4 : Option Addr} {c0 c1 c2 c3 c4 : Nat} {r0 r1 r2 r3 r4 s0 s1 s2 s3 s4 : List S139} {lo0 hi0 lo1 hi1 lo2 hi2 lo3 hi3 lo4 hi4 : Nat} {m0 m1 m2 m3 m4 m5 : Int} (h : St w0 W L0)
    (u0 : Upd (flat k139 139 (.slice A0 4 c0) r0) (flat k139 139 (.slice A0 4 c0) s0) lo0 hi0 L0 L1) (e0 : Ev (fun k => laws_markRuleS.f k r0 m0) (m1, s0))
    (u1 : Upd (flat k139 139 (.slice A1 4 c1) r1) (flat k139 139 (.slice A1 4 c1) s1) lo1 hi1 L1 L2) (e1 : Ev (fun k => laws_markRuleS.f k r1 m1) (m2, s1))
    (u2 : Upd (flat k139 139 (.slice A2 4 c2) r2) (flat k139 139 (.slice A2 4 c2) s2) lo2 hi2 L2 L3) (e2 : Ev (fun k => laws_markRuleS.f k r2 m2) (m3, s2))
    (u3 : Upd (flat k139 139 (.slice A3 4 c3) r3) (flat k139 139 (.slice A3 4 c3) s3) lo3 hi3 L3 L4) (e3 : Ev (fun k => laws_markRuleS.f k r3 m3) (m4, s3))
    (u4 : Upd (flat k139 139 (.slice A4 4 c4) r4) (flat k139 139 (.slice A4 4 c4) s4) lo4 hi4 L4 L5) (e4 : Ev (fun k => laws_markRuleS.f k r4 m4) (m5, s4))
    : Calls Try.prog 54 #[.agg #[.slice A0 4 c0, .slice A1 4 c1, .slice A2 4 c2, .slice A3 4 c3, .slice A4 4 c4], .int .i64 m0] W fun e w' => e = .returned (.int .i64 m5) ∧ St w0 w' L5 := by
  have U0 := Aside0.mk u0
  have E0 := Aside0.mk e0
  have U1 := Aside0.mk u1
  have E1 := Aside0.mk e1
  have U2 := Aside0.mk u2
  have E2 := Aside0.mk e2
  have U3 := Aside0.mk u3
  have E3 := Aside0.mk e3
  have U4 := Aside0.mk u4
  have E4 := Aside0.mk e4
  have HS := h
  clear u0 u1 u2 u3 u4 e0 e1 e2 e3 e4 h
  go_enter Try.func54, Try.ntmps54
  go_wp2_with (first
    | (go_at_call 124; (with_reducible refine (st_markRuleS (w0 := w0) (v := .slice A0 4 c0) (a := m0) (St.box HS _ _) (Upd.there U0.out) E0.out).mono ?_); rintro e w' ⟨rfl, HS⟩; have q0 : w'.cell? ⟨W.heap.size, 0, none⟩ = some (.slice A0 4 c0) := (HS.cell (cs := #[.slice A0 4 c0, .slice A1 4 c1, .slice A2 4 c2, .slice A3 4 c3, .slice A4 4 c4]) (t := 59) (by repeat (first | exact List.mem_cons_self | refine List.mem_cons_of_mem _ ?_)) 0 _ rfl); have q1 : w'.cell? ⟨W.heap.size, 1, none⟩ = some (.slice A1 4 c1) := (HS.cell (cs := #[.slice A0 4 c0, .slice A1 4 c1, .slice A2 4 c2, .slice A3 4 c3, .slice A4 4 c4]) (t := 59) (by repeat (first | exact List.mem_cons_self | refine List.mem_cons_of_mem _ ?_)) 1 _ rfl); have q2 : w'.cell? ⟨W.heap.size, 2, none⟩ = some (.slice A2 4 c2) := (HS.cell (cs := #[.slice A0 4 c0, .slice A1 4 c1, .slice A2 4 c2, .slice A3 4 c3, .slice A4 4 c4]) (t := 59) (by repeat (first | exact List.mem_cons_self | refine List.mem_cons_of_mem _ ?_)) 2 _ rfl); have q3 : w'.cell? ⟨W.heap.size, 3, none⟩ = some (.slice A3 4 c3) := (HS.cell (cs := #[.slice A0 4 c0, .slice A1 4 c1, .slice A2 4 c2, .slice A3 4 c3, .slice A4 4 c4]) (t := 59) (by repeat (first | exact List.mem_cons_self | refine List.mem_cons_of_mem _ ?_)) 3 _ rfl); have q4 : w'.cell? ⟨W.heap.size, 4, none⟩ = some (.slice A4 4 c4) := (HS.cell (cs := #[.slice A0 4 c0, .slice A1 4 c1, .slice A2 4 c2, .slice A3 4 c3, .slice A4 4 c4]) (t := 59) (by repeat (first | exact List.mem_cons_self | refine List.mem_cons_of_mem _ ?_)) 4 _ rfl))
    | (go_at_call 124; (with_reducible refine (st_markRuleS (w0 := w0) (v := .slice A1 4 c1) (a := m1) HS (Upd.there U1.out) E1.out).mono ?_); rintro e w' ⟨rfl, HS⟩; have q0 : w'.cell? ⟨W.heap.size, 0, none⟩ = some (.slice A0 4 c0) := (HS.cell (cs := #[.slice A0 4 c0, .slice A1 4 c1, .slice A2 4 c2, .slice A3 4 c3, .slice A4 4 c4]) (t := 59) (by repeat (first | exact List.mem_cons_self | refine List.mem_cons_of_mem _ ?_)) 0 _ rfl); have q1 : w'.cell? ⟨W.heap.size, 1, none⟩ = some (.slice A1 4 c1) := (HS.cell (cs := #[.slice A0 4 c0, .slice A1 4 c1, .slice A2 4 c2, .slice A3 4 c3, .slice A4 4 c4]) (t := 59) (by repeat (first | exact List.mem_cons_self | refine List.mem_cons_of_mem _ ?_)) 1 _ rfl); have q2 : w'.cell? ⟨W.heap.size, 2, none⟩ = some (.slice A2 4 c2) := (HS.cell (cs := #[.slice A0 4 c0, .slice A1 4 c1, .slice A2 4 c2, .slice A3 4 c3, .slice A4 4 c4]) (t := 59) (by repeat (first | exact List.mem_cons_self | refine List.mem_cons_of_mem _ ?_)) 2 _ rfl); have q3 : w'.cell? ⟨W.heap.size, 3, none⟩ = some (.slice A3 4 c3) := (HS.cell (cs := #[.slice A0 4 c0, .slice A1 4 c1, .slice A2 4 c2, .slice A3 4 c3, .slice A4 4 c4]) (t := 59) (by repeat (first | exact List.mem_cons_self | refine List.mem_cons_of_mem _ ?_)) 3 _ rfl); have q4 : w'.cell? ⟨W.heap.size, 4, none⟩ = some (.slice A4 4 c4) := (HS.cell (cs := #[.slice A0 4 c0, .slice A1 4 c1, .slice A2 4 c2, .slice A3 4 c3, .slice A4 4 c4]) (t := 59) (by repeat (first | exact List.mem_cons_self | refine List.mem_cons_of_mem _ ?_)) 4 _ rfl))
    | (go_at_call 124; (with_reducible refine (st_markRuleS (w0 := w0) (v := .slice A2 4 c2) (a := m2) HS (Upd.there U2.out) E2.out).mono ?_); rintro e w' ⟨rfl, HS⟩; have q0 : w'.cell? ⟨W.heap.size, 0, none⟩ = some (.slice A0 4 c0) := (HS.cell (cs := #[.slice A0 4 c0, .slice A1 4 c1, .slice A2 4 c2, .slice A3 4 c3, .slice A4 4 c4]) (t := 59) (by repeat (first | exact List.mem_cons_self | refine List.mem_cons_of_mem _ ?_)) 0 _ rfl); have q1 : w'.cell? ⟨W.heap.size, 1, none⟩ = some (.slice A1 4 c1) := (HS.cell (cs := #[.slice A0 4 c0, .slice A1 4 c1, .slice A2 4 c2, .slice A3 4 c3, .slice A4 4 c4]) (t := 59) (by repeat (first | exact List.mem_cons_self | refine List.mem_cons_of_mem _ ?_)) 1 _ rfl); have q2 : w'.cell? ⟨W.heap.size, 2, none⟩ = some (.slice A2 4 c2) := (HS.cell (cs := #[.slice A0 4 c0, .slice A1 4 c1, .slice A2 4 c2, .slice A3 4 c3, .slice A4 4 c4]) (t := 59) (by repeat (first | exact List.mem_cons_self | refine List.mem_cons_of_mem _ ?_)) 2 _ rfl); have q3 : w'.cell? ⟨W.heap.size, 3, none⟩ = some (.slice A3 4 c3) := (HS.cell (cs := #[.slice A0 4 c0, .slice A1 4 c1, .slice A2 4 c2, .slice A3 4 c3, .slice A4 4 c4]) (t := 59) (by repeat (first | exact List.mem_cons_self | refine List.mem_cons_of_mem _ ?_)) 3 _ rfl); have q4 : w'.cell? ⟨W.heap.size, 4, none⟩ = some (.slice A4 4 c4) := (HS.cell (cs := #[.slice A0 4 c0, .slice A1 4 c1, .slice A2 4 c2, .slice A3 4 c3, .slice A4 4 c4]) (t := 59) (by repeat (first | exact List.mem_cons_self | refine List.mem_cons_of_mem _ ?_)) 4 _ rfl))
    | (go_at_call 124; (with_reducible refine (st_markRuleS (w0 := w0) (v := .slice A3 4 c3) (a := m3) HS (Upd.there U3.out) E3.out).mono ?_); rintro e w' ⟨rfl, HS⟩; have q0 : w'.cell? ⟨W.heap.size, 0, none⟩ = some (.slice A0 4 c0) := (HS.cell (cs := #[.slice A0 4 c0, .slice A1 4 c1, .slice A2 4 c2, .slice A3 4 c3, .slice A4 4 c4]) (t := 59) (by repeat (first | exact List.mem_cons_self | refine List.mem_cons_of_mem _ ?_)) 0 _ rfl); have q1 : w'.cell? ⟨W.heap.size, 1, none⟩ = some (.slice A1 4 c1) := (HS.cell (cs := #[.slice A0 4 c0, .slice A1 4 c1, .slice A2 4 c2, .slice A3 4 c3, .slice A4 4 c4]) (t := 59) (by repeat (first | exact List.mem_cons_self | refine List.mem_cons_of_mem _ ?_)) 1 _ rfl); have q2 : w'.cell? ⟨W.heap.size, 2, none⟩ = some (.slice A2 4 c2) := (HS.cell (cs := #[.slice A0 4 c0, .slice A1 4 c1, .slice A2 4 c2, .slice A3 4 c3, .slice A4 4 c4]) (t := 59) (by repeat (first | exact List.mem_cons_self | refine List.mem_cons_of_mem _ ?_)) 2 _ rfl); have q3 : w'.cell? ⟨W.heap.size, 3, none⟩ = some (.slice A3 4 c3) := (HS.cell (cs := #[.slice A0 4 c0, .slice A1 4 c1, .slice A2 4 c2, .slice A3 4 c3, .slice A4 4 c4]) (t := 59) (by repeat (first | exact List.mem_cons_self | refine List.mem_cons_of_mem _ ?_)) 3 _ rfl); have q4 : w'.cell? ⟨W.heap.size, 4, none⟩ = some (.slice A4 4 c4) := (HS.cell (cs := #[.slice A0 4 c0, .slice A1 4 c1, .slice A2 4 c2, .slice A3 4 c3, .slice A4 4 c4]) (t := 59) (by repeat (first | exact List.mem_cons_self | refine List.mem_cons_of_mem _ ?_)) 4 _ rfl))
    | (go_at_call 124; (with_reducible refine (st_markRuleS (w0 := w0) (v := .slice A4 4 c4) (a := m4) HS (Upd.there U4.out) E4.out).mono ?_); rintro e w' ⟨rfl, HS⟩; have q0 : w'.cell? ⟨W.heap.size, 0, none⟩ = some (.slice A0 4 c0) := (HS.cell (cs := #[.slice A0 4 c0, .slice A1 4 c1, .slice A2 4 c2, .slice A3 4 c3, .slice A4 4 c4]) (t := 59) (by repeat (first | exact List.mem_cons_self | refine List.mem_cons_of_mem _ ?_)) 0 _ rfl); have q1 : w'.cell? ⟨W.heap.size, 1, none⟩ = some (.slice A1 4 c1) := (HS.cell (cs := #[.slice A0 4 c0, .slice A1 4 c1, .slice A2 4 c2, .slice A3 4 c3, .slice A4 4 c4]) (t := 59) (by repeat (first | exact List.mem_cons_self | refine List.mem_cons_of_mem _ ?_)) 1 _ rfl); have q2 : w'.cell? ⟨W.heap.size, 2, none⟩ = some (.slice A2 4 c2) := (HS.cell (cs := #[.slice A0 4 c0, .slice A1 4 c1, .slice A2 4 c2, .slice A3 4 c3, .slice A4 4 c4]) (t := 59) (by repeat (first | exact List.mem_cons_self | refine List.mem_cons_of_mem _ ?_)) 2 _ rfl); have q3 : w'.cell? ⟨W.heap.size, 3, none⟩ = some (.slice A3 4 c3) := (HS.cell (cs := #[.slice A0 4 c0, .slice A1 4 c1, .slice A2 4 c2, .slice A3 4 c3, .slice A4 4 c4]) (t := 59) (by repeat (first | exact List.mem_cons_self | refine List.mem_cons_of_mem _ ?_)) 3 _ rfl); have q4 : w'.cell? ⟨W.heap.size, 4, none⟩ = some (.slice A4 4 c4) := (HS.cell (cs := #[.slice A0 4 c0, .slice A1 4 c1, .slice A2 4 c2, .slice A3 4 c3, .slice A4 4 c4]) (t := 59) (by repeat (first | exact List.mem_cons_self | refine List.mem_cons_of_mem _ ?_)) 4 _ rfl)))
  go_ret
  exact ⟨rfl, St.sub HS (List.Sublist.cons _ (List.Sublist.refl _))⟩
theorem eqRuleS_ev (l : List S139) (h : l.length ≤ 1048576) : Ev (fun k => laws_eqRuleS.f k l l) true := by
  unfold laws_eqRuleS.f
  refine Ev.pos rfl ?_
  refine Ev.upto (F := fun k (_ : Unit) i => laws_eqRuleS.l0 k l l i) (n := l.length) (r := true) (fun _ _ => True) ?_ ?_ 0 (Nat.zero_le _) () trivial
  · intro i s hi _ ih
    refine Ev.succ ?_
    simp only [laws_eqRuleS.l0]
    refine Ev.pos (by omega) (Ev.pos (by omega) (Ev.pos (by omega) (Ev.bindc (a := true) (by simp [laws_eqRule.f]) (Ev.pos rfl ?_))))
    rw [wrap_succ hi (by omega)]
    exact ih () trivial
  · intro s _
    refine Ev.succ ?_
    simp only [laws_eqRuleS.l0]
    exact Ev.neg (by omega) (Ev.some rfl)
theorem set_mark {α : Type} (A l : List α) (i : Nat) (v : α) (h : i = A.length) (hi : i < l.length) : (A ++ l.drop i).set i v = (A ++ [v]) ++ l.drop (i + 1) := by
  subst h
  rw [List.set_append_right _ _ (Nat.le_refl _), Nat.sub_self, List.drop_eq_getElem_cons hi, List.set_cons_zero]
  simp
def mkRule (a : Int) (j : Nat) : S139 := ⟨a + 3 * (j : Int), a + 3 * (j : Int) + 1, (Int.tmod (a + 3 * (j : Int) + 1 + 1) 3) == 0⟩
def mkRules (a : Int) (n : Nat) : List S139 := (List.range n).map (mkRule a)
theorem mkRules_length (a : Int) (n : Nat) : (mkRules a n).length = n := by simp [mkRules]
theorem mkRules_succ (a : Int) (n : Nat) : mkRules a (n + 1) = mkRules a n ++ [mkRule a n] := by simp [mkRules, List.range_succ]
theorem mkRules_getD (a : Int) (n i : Nat) (z : S139) (h : i < n) : (mkRules a n).getD i z = mkRule a i := by
  simp [mkRules, List.getD_eq_getElem?_getD, h]
theorem markRuleS_ev (l : List S139) (a : Int) (h : l.length ≤ 1048576) (h0 : 0 ≤ a) (h1 : a ≤ 1000000000000) : Ev (fun k => laws_markRuleS.f k l a) (a + 3 * (l.length : Int), mkRules a l.length) := by
  unfold laws_markRuleS.f
  refine Ev.upto (F := fun k (s : List S139 × Int) i => laws_markRuleS.l0 k s.1 s.2 i) (n := l.length) (r := (a + 3 * (l.length : Int), mkRules a l.length)) (fun i s => s = (mkRules a i ++ l.drop i, a + 3 * (i : Int))) ?_ ?_ 0 (Nat.zero_le _) (l, a) (by simp [mkRules])
  · intro i s hi hs ih
    have hsl : (mkRules a i ++ l.drop i).length = l.length := by simp [mkRules_length]; omega
    refine Ev.succ ?_
    simp only [laws_markRuleS.l0, hs, Option.bind_some]
    refine Ev.pos (by omega) (Ev.pos (by omega) ?_)
    rw [wrap_succ hi (by omega), wrap_id (x := a + 3 * (i : Int) + 1) (by omega) (by omega), wrap_id (x := a + 3 * (i : Int) + 1 + 1) (by omega) (by omega), wrap_id (x := a + 3 * (i : Int) + 1 + 1 + 1) (by omega) (by omega)]
    refine ih (_, _) ?_
    have hA : i = (mkRules a i).length := (mkRules_length a i).symm
    have e1 : ∀ v, (mkRules a i ++ l.drop i).set i v = (mkRules a i ++ [v]) ++ l.drop (i + 1) := fun v => set_mark _ _ _ v hA hi
    have e2 : ∀ u v, ((mkRules a i ++ [u]) ++ l.drop (i + 1)).set i v = (mkRules a i ++ [v]) ++ l.drop (i + 1) := by
      intro u v
      rw [← e1 u, List.set_set, e1 v]
    have e3 : ∀ u : S139, rd_T139 ((mkRules a i ++ [u]) ++ l.drop (i + 1)) (i : Int) = u := by
      intro u
      show ((mkRules a i ++ [u]) ++ l.drop (i + 1)).getD i _ = u
      rw [List.getD_eq_getElem?_getD, List.append_assoc, List.getElem?_append_right (by rw [mkRules_length]; omega)]
      simp [mkRules_length]
    rw [Int.toNat_natCast, e1, e3, e2, e3, e2, mkRules_succ]
    simp only [Prod.mk.injEq]
    refine ⟨rfl, by omega⟩
  · intro s hs
    have hsl : (mkRules a l.length ++ l.drop l.length).length = l.length := by simp [mkRules_length]
    refine Ev.succ ?_
    simp only [laws_markRuleS.l0, hs]
    exact Ev.neg (by omega) (Ev.some (by simp))
theorem heldRuleS_ev (n : Nat) (a : Int) (h : n ≤ 1048576) (h0 : 0 ≤ a) (h1 : a ≤ 1000000000000) : Ev (fun k => laws_heldRuleS.f k (mkRules a n) a) (a + 3 * (n : Int)) := by
  unfold laws_heldRuleS.f
  have hl := mkRules_length a n
  refine Ev.upto (F := fun k (s : Int) i => laws_heldRuleS.l0 k (mkRules a n) s i) (n := n) (r := a + 3 * (n : Int)) (fun i s => s = a + 3 * (i : Int)) ?_ ?_ 0 (Nat.zero_le _) a (by simp)
  · intro i s hi hs ih
    refine Ev.succ ?_
    simp only [laws_heldRuleS.l0, hs]
    have hr : rd_T139 (mkRules a n) (i : Int) = mkRule a i := mkRules_getD a n i _ hi
    rw [hr]
    rw [wrap_succ hi (by omega), wrap_id (x := a + 3 * (i : Int) + 1) (by omega) (by omega), wrap_id (x := a + 3 * (i : Int) + 1 + 1) (by omega) (by omega), wrap_id (x := a + 3 * (i : Int) + 1 + 1 + 1) (by omega) (by omega)]
    refine Ev.pos (by omega) (Ev.pos (by omega) (Ev.pos rfl (Ev.pos rfl (Ev.neg (by simp [mkRule]) (ih _ (by omega))))))
  · intro s hs
    refine Ev.succ ?_
    simp only [laws_heldRuleS.l0, hs]
    exact Ev.neg (by omega) (Ev.some rfl)
theorem heldProtocol_ev (n0 n1 n2 n3 n4 : Nat) (a a1 a2 a3 a4 : Int) (h0 : n0 ≤ 1048576) (h1 : n1 ≤ 1048576) (h2 : n2 ≤ 1048576) (h3 : n3 ≤ 1048576) (h4 : n4 ≤ 1048576) (ha : 0 ≤ a) (hb : a ≤ 1000000) (e1 : a1 = a + 3 * (n0 : Int)) (e2 : a2 = a1 + 3 * (n1 : Int)) (e3 : a3 = a2 + 3 * (n2 : Int)) (e4 : a4 = a3 + 3 * (n3 : Int)) :
    Ev (fun k => laws_heldProtocol.f k (mkRules a n0) (mkRules a1 n1) (mkRules a2 n2) (mkRules a3 n3) (mkRules a4 n4) a) (a4 + 3 * (n4 : Int)) := by
  unfold laws_heldProtocol.f
  refine Ev.bind (heldRuleS_ev n0 a h0 ha (by omega)) (Ev.neg (by omega) ?_)
  rw [← e1]
  refine Ev.bind (heldRuleS_ev n1 a1 h1 (by omega) (by omega)) (Ev.neg (by omega) ?_)
  rw [← e2]
  refine Ev.bind (heldRuleS_ev n2 a2 h2 (by omega) (by omega)) (Ev.neg (by omega) ?_)
  rw [← e3]
  refine Ev.bind (heldRuleS_ev n3 a3 h3 (by omega) (by omega)) (Ev.neg (by omega) ?_)
  rw [← e4]
  exact Ev.bind (heldRuleS_ev n4 a4 h4 (by omega) (by omega)) (Ev.neg (by omega) (Ev.some rfl))
theorem eqProtocol_ev (r0 r1 r2 r3 r4 : List S139) (h0 : r0.length ≤ 1048576) (h1 : r1.length ≤ 1048576) (h2 : r2.length ≤ 1048576) (h3 : r3.length ≤ 1048576) (h4 : r4.length ≤ 1048576) : Ev (fun k => laws_eqProtocol.f k r0 r1 r2 r3 r4 r0 r1 r2 r3 r4) true := by
  unfold laws_eqProtocol.f
  exact Ev.bind (eqRuleS_ev r0 h0) (Ev.pos rfl (Ev.bind (eqRuleS_ev r1 h1) (Ev.pos rfl (Ev.bind (eqRuleS_ev r2 h2) (Ev.pos rfl (Ev.bind (eqRuleS_ev r3 h3) (Ev.pos rfl (Ev.bind (eqRuleS_ev r4 h4) (Ev.pos rfl (Ev.some rfl))))))))))
theorem flat_reads' {α : Type} {d : Kd α} {e : Nat} {A : Option Addr} {n c : Nat} {l : List α} {W : World} {lo hi : Nat} (h : (flat d e (.slice A n c) l).P W lo hi) : n = l.length ∧ n ≤ c ∧ d.C W A l.length l := Kd.R_reads' h
theorem st_specThrough' {w0 W : World} {L : List (Thing × Nat × Nat)} (b : Bool) (h : St w0 W L) :
    Calls Try.prog 56 #[.bool b] W fun e w' => ∃ A0 c0 A1 c1 A2 c2 A3 c3 A4 c4, e = .returned (.agg #[.slice A0 4 c0, .slice A1 4 c1, .slice A2 4 c2, .slice A3 4 c3, .slice A4 4 c4]) ∧ ∃ a0 b0 a1 b1 a2 b2 a3 b3 a4 b4, St w0 w' ((flat k139 139 (.slice A4 4 c4) (rulesN 0 0 0 0 [] 4), a4, b4) :: (flat k139 139 (.slice A3 4 c3) (rulesN 0 1 1 1 [] 4), a3, b3) :: (flat k139 139 (.slice A2 4 c2) (rulesN 0 0 0 0 [] 4), a2, b2) :: (flat k139 139 (.slice A1 4 c1) (rulesN (if b = true then 1 else 0) 1 1 1 [0, 1, 2, 3] 4), a1, b1) :: (flat k139 139 (.slice A0 4 c0) (rulesN 1 1 1 1 [] 4), a0, b0) :: L) := by
  refine (st_specThrough b W).mono ?_
  rintro e w' ⟨v0, v1, v2, v3, v4, rfl, a0, b0, a1, b1, a2, b2, a3, b3, a4, b4, hS⟩
  obtain ⟨A0, c0, e0⟩ : ∃ A c, v0 = .slice A 4 c := Kd.R_slice (hS.get (T := flat k139 139 v0 (rulesN 1 1 1 1 [] 4)) (by repeat (first | with_reducible exact List.mem_cons_self | refine List.mem_cons_of_mem _ ?_))).1
  obtain ⟨A1, c1, e1⟩ : ∃ A c, v1 = .slice A 4 c := Kd.R_slice (hS.get (T := flat k139 139 v1 (rulesN (if b = true then 1 else 0) 1 1 1 [0, 1, 2, 3] 4)) (by repeat (first | with_reducible exact List.mem_cons_self | refine List.mem_cons_of_mem _ ?_))).1
  obtain ⟨A2, c2, e2⟩ : ∃ A c, v2 = .slice A 4 c := Kd.R_slice (hS.get (T := flat k139 139 v2 (rulesN 0 0 0 0 [] 4)) (by repeat (first | with_reducible exact List.mem_cons_self | refine List.mem_cons_of_mem _ ?_))).1
  obtain ⟨A3, c3, e3⟩ : ∃ A c, v3 = .slice A 4 c := Kd.R_slice (hS.get (T := flat k139 139 v3 (rulesN 0 1 1 1 [] 4)) (by repeat (first | with_reducible exact List.mem_cons_self | refine List.mem_cons_of_mem _ ?_))).1
  obtain ⟨A4, c4, e4⟩ : ∃ A c, v4 = .slice A 4 c := Kd.R_slice (hS.get (T := flat k139 139 v4 (rulesN 0 0 0 0 [] 4)) (by repeat (first | with_reducible exact List.mem_cons_self | refine List.mem_cons_of_mem _ ?_))).1
  subst e0 e1 e2 e3 e4
  exact ⟨A0, c0, A1, c1, A2, c2, A3, c3, A4, c4, rfl, a0, b0, a1, b1, a2, b2, a3, b3, a4, b4, h.then_ hS⟩
theorem st_implThrough' {w0 W : World} {L : List (Thing × Nat × Nat)} (b : Bool) (h : St w0 W L) :
    Calls Try.prog 57 #[.bool b] W fun e w' => ∃ A0 c0 A1 c1 A2 c2 A3 c3 A4 c4, e = .returned (.agg #[.slice A0 4 c0, .slice A1 4 c1, .slice A2 4 c2, .slice A3 4 c3, .slice A4 4 c4]) ∧ ∃ a0 b0 a1 b1 a2 b2 a3 b3 a4 b4, St w0 w' ((flat k139 139 (.slice A4 4 c4) (rulesN 0 0 0 0 [] 4), a4, b4) :: (flat k139 139 (.slice A3 4 c3) (rulesN 0 1 1 1 [] 4), a3, b3) :: (flat k139 139 (.slice A2 4 c2) (rulesN 0 0 0 0 [] 4), a2, b2) :: (flat k139 139 (.slice A1 4 c1) (rulesN (if b = true then 1 else 0) 1 1 1 [0, 1, 2, 3] 4), a1, b1) :: (flat k139 139 (.slice A0 4 c0) (rulesN 1 1 1 1 [] 4), a0, b0) :: L) := by
  refine (st_implThrough b W).mono ?_
  rintro e w' ⟨v0, v1, v2, v3, v4, rfl, a0, b0, a1, b1, a2, b2, a3, b3, a4, b4, hS⟩
  obtain ⟨A0, c0, e0⟩ : ∃ A c, v0 = .slice A 4 c := Kd.R_slice (hS.get (T := flat k139 139 v0 (rulesN 1 1 1 1 [] 4)) (by repeat (first | with_reducible exact List.mem_cons_self | refine List.mem_cons_of_mem _ ?_))).1
  obtain ⟨A1, c1, e1⟩ : ∃ A c, v1 = .slice A 4 c := Kd.R_slice (hS.get (T := flat k139 139 v1 (rulesN (if b = true then 1 else 0) 1 1 1 [0, 1, 2, 3] 4)) (by repeat (first | with_reducible exact List.mem_cons_self | refine List.mem_cons_of_mem _ ?_))).1
  obtain ⟨A2, c2, e2⟩ : ∃ A c, v2 = .slice A 4 c := Kd.R_slice (hS.get (T := flat k139 139 v2 (rulesN 0 0 0 0 [] 4)) (by repeat (first | with_reducible exact List.mem_cons_self | refine List.mem_cons_of_mem _ ?_))).1
  obtain ⟨A3, c3, e3⟩ : ∃ A c, v3 = .slice A 4 c := Kd.R_slice (hS.get (T := flat k139 139 v3 (rulesN 0 1 1 1 [] 4)) (by repeat (first | with_reducible exact List.mem_cons_self | refine List.mem_cons_of_mem _ ?_))).1
  obtain ⟨A4, c4, e4⟩ : ∃ A c, v4 = .slice A 4 c := Kd.R_slice (hS.get (T := flat k139 139 v4 (rulesN 0 0 0 0 [] 4)) (by repeat (first | with_reducible exact List.mem_cons_self | refine List.mem_cons_of_mem _ ?_))).1
  subst e0 e1 e2 e3 e4
  exact ⟨A0, c0, A1, c1, A2, c2, A3, c3, A4, c4, rfl, a0, b0, a1, b1, a2, b2, a3, b3, a4, b4, h.then_ hS⟩
theorem st_eqProtocol {w0 W : World} {L : List (Thing × Nat × Nat)} {xA0 xA1 xA2 xA3 xA4 yA0 yA1 yA2 yA3 yA4 : Option Addr} {xn0 xn1 xn2 xn3 xn4 xc0 xc1 xc2 xc3 xc4 xlo0 xlo1 xlo2 xlo3 xlo4 xhi0 xhi1 xhi2 xhi3 xhi4 yn0 yn1 yn2 yn3 yn4 yc0 yc1 yc2 yc3 yc4 ylo0 ylo1 ylo2 ylo3 ylo4 yhi0 yhi1 yhi2 yhi3 yhi4 : Nat} {r0 r1 r2 r3 r4 : List S139} {b : Bool} (h : St w0 W L)
    (xh0 : (flat k139 139 (.slice xA0 xn0 xc0) r0, xlo0, xhi0) ∈ L)
    (xh1 : (flat k139 139 (.slice xA1 xn1 xc1) r1, xlo1, xhi1) ∈ L)
    (xh2 : (flat k139 139 (.slice xA2 xn2 xc2) r2, xlo2, xhi2) ∈ L)
    (xh3 : (flat k139 139 (.slice xA3 xn3 xc3) r3, xlo3, xhi3) ∈ L)
    (xh4 : (flat k139 139 (.slice xA4 xn4 xc4) r4, xlo4, xhi4) ∈ L)
    (yh0 : (flat k139 139 (.slice yA0 yn0 yc0) r0, ylo0, yhi0) ∈ L)
    (yh1 : (flat k139 139 (.slice yA1 yn1 yc1) r1, ylo1, yhi1) ∈ L)
    (yh2 : (flat k139 139 (.slice yA2 yn2 yc2) r2, ylo2, yhi2) ∈ L)
    (yh3 : (flat k139 139 (.slice yA3 yn3 yc3) r3, ylo3, yhi3) ∈ L)
    (yh4 : (flat k139 139 (.slice yA4 yn4 yc4) r4, ylo4, yhi4) ∈ L)
    (he : Ev (fun k => laws_eqProtocol.f k r0 r1 r2 r3 r4 r0 r1 r2 r3 r4) b) :
    Calls Try.prog 37 #[.agg #[.slice xA0 xn0 xc0, .slice xA1 xn1 xc1, .slice xA2 xn2 xc2, .slice xA3 xn3 xc3, .slice xA4 xn4 xc4], .agg #[.slice yA0 yn0 yc0, .slice yA1 yn1 yc1, .slice yA2 yn2 yc2, .slice yA3 yn3 yc3, .slice yA4 yn4 yc4]] W fun e w' => e = .returned (.bool b) ∧ St w0 w' L := by
  obtain ⟨rfl, xhc0, xhC0⟩ := flat_reads' (h.get xh0).1
  obtain ⟨rfl, xhc1, xhC1⟩ := flat_reads' (h.get xh1).1
  obtain ⟨rfl, xhc2, xhC2⟩ := flat_reads' (h.get xh2).1
  obtain ⟨rfl, xhc3, xhC3⟩ := flat_reads' (h.get xh3).1
  obtain ⟨rfl, xhc4, xhC4⟩ := flat_reads' (h.get xh4).1
  obtain ⟨rfl, yhc0, yhC0⟩ := flat_reads' (h.get yh0).1
  obtain ⟨rfl, yhc1, yhC1⟩ := flat_reads' (h.get yh1).1
  obtain ⟨rfl, yhc2, yhC2⟩ := flat_reads' (h.get yh2).1
  obtain ⟨rfl, yhc3, yhC3⟩ := flat_reads' (h.get yh3).1
  obtain ⟨rfl, yhc4, yhC4⟩ := flat_reads' (h.get yh4).1
  obtain ⟨k, hk⟩ := he
  refine (laws_eqProtocol.calls k xA0 xc0 r0 xA1 xc1 r1 xA2 xc2 r2 xA3 xc3 r3 xA4 xc4 r4 yA0 yc0 r0 yA1 yc1 r1 yA2 yc2 r2 yA3 yc3 r3 yA4 yc4 r4 b W xhC0 xhc0 xhC1 xhc1 xhC2 xhc2 xhC3 xhc3 xhC4 xhc4 yhC0 yhc0 yhC1 yhc1 yhC2 yhc2 yhC3 yhc3 yhC4 yhc4 (hk k (Nat.le_refl _))).mono ?_
  rintro e w' ⟨rfl, hb⟩
  exact ⟨rfl, by first | exact h.step hb | exact h.step hb.below⟩
theorem st_heldProtocol {w0 W : World} {L : List (Thing × Nat × Nat)} {xA0 xA1 xA2 xA3 xA4 : Option Addr} {xn0 xn1 xn2 xn3 xn4 xc0 xc1 xc2 xc3 xc4 xlo0 xlo1 xlo2 xlo3 xlo4 xhi0 xhi1 xhi2 xhi3 xhi4 : Nat} {r0 r1 r2 r3 r4 : List S139} {a r : Int} (h : St w0 W L)
    (xh0 : (flat k139 139 (.slice xA0 xn0 xc0) r0, xlo0, xhi0) ∈ L)
    (xh1 : (flat k139 139 (.slice xA1 xn1 xc1) r1, xlo1, xhi1) ∈ L)
    (xh2 : (flat k139 139 (.slice xA2 xn2 xc2) r2, xlo2, xhi2) ∈ L)
    (xh3 : (flat k139 139 (.slice xA3 xn3 xc3) r3, xlo3, xhi3) ∈ L)
    (xh4 : (flat k139 139 (.slice xA4 xn4 xc4) r4, xlo4, xhi4) ∈ L)
    (he : Ev (fun k => laws_heldProtocol.f k r0 r1 r2 r3 r4 a) r) :
    Calls Try.prog 55 #[.agg #[.slice xA0 xn0 xc0, .slice xA1 xn1 xc1, .slice xA2 xn2 xc2, .slice xA3 xn3 xc3, .slice xA4 xn4 xc4], .int .i64 a] W fun e w' => e = .returned (.int .i64 r) ∧ St w0 w' L := by
  obtain ⟨rfl, xhc0, xhC0⟩ := flat_reads' (h.get xh0).1
  obtain ⟨rfl, xhc1, xhC1⟩ := flat_reads' (h.get xh1).1
  obtain ⟨rfl, xhc2, xhC2⟩ := flat_reads' (h.get xh2).1
  obtain ⟨rfl, xhc3, xhC3⟩ := flat_reads' (h.get xh3).1
  obtain ⟨rfl, xhc4, xhC4⟩ := flat_reads' (h.get xh4).1
  obtain ⟨k, hk⟩ := he
  refine (laws_heldProtocol.calls k xA0 xc0 r0 xA1 xc1 r1 xA2 xc2 r2 xA3 xc3 r3 xA4 xc4 r4 a r W xhC0 xhc0 xhC1 xhc1 xhC2 xhc2 xhC3 xhc3 xhC4 xhc4 (hk k (Nat.le_refl _))).mono ?_
  rintro e w' ⟨rfl, hb⟩
  exact ⟨rfl, by first | exact h.step hb | exact h.step hb.below⟩
set_option maxHeartbeats 4000000 in
set_option maxRecDepth 100000 in
theorem walk (b : Bool) (w : World) (m : Int) (hm : decide (m < 0) = false) (he : Ev (fun k => laws_eqProtocol.f k (rulesN 1 1 1 1 [] 4) (rulesN (if b = true then 1 else 0) 1 1 1 [0, 1, 2, 3] 4) (rulesN 0 0 0 0 [] 4) (rulesN 0 1 1 1 [] 4) (rulesN 0 0 0 0 [] 4) (rulesN 1 1 1 1 [] 4) (rulesN (if b = true then 1 else 0) 1 1 1 [0, 1, 2, 3] 4) (rulesN 0 0 0 0 [] 4) (rulesN 0 1 1 1 [] 4) (rulesN 0 0 0 0 [] 4)) true) (hh : Ev (fun k => laws_heldProtocol.f k (mkRules 1 4) (mkRules 13 4) (mkRules 25 4) (mkRules 37 4) (mkRules 49 4) 1) m) (hmm : 61 = m)
    : Calls Try.prog 11 #[.bool b] w fun e w' => e = .returned (.bool true) ∧ Below w.heap.size w w' := by
  have EQ := Aside0.mk he
  have HD := Aside0.mk hh
  have HM := Aside0.mk hmm
  have HS := St.start w
  clear he hh hmm
  have MK0 : Ev (fun k => laws_markRuleS.f k (rulesN 1 1 1 1 [] 4) 1) (13, mkRules 1 4) := markRuleS_ev (rulesN 1 1 1 1 [] 4) 1 (by decide) (by decide) (by decide)
  have MK1 : Ev (fun k => laws_markRuleS.f k (rulesN (if b = true then 1 else 0) 1 1 1 [0, 1, 2, 3] 4) 13) (25, mkRules 13 4) := markRuleS_ev (rulesN (if b = true then 1 else 0) 1 1 1 [0, 1, 2, 3] 4) 13 (by simp [rulesN]) (by decide) (by decide)
  have MK2 : Ev (fun k => laws_markRuleS.f k (rulesN 0 0 0 0 [] 4) 25) (37, mkRules 25 4) := markRuleS_ev (rulesN 0 0 0 0 [] 4) 25 (by decide) (by decide) (by decide)
  have MK3 : Ev (fun k => laws_markRuleS.f k (rulesN 0 1 1 1 [] 4) 37) (49, mkRules 37 4) := markRuleS_ev (rulesN 0 1 1 1 [] 4) 37 (by decide) (by decide) (by decide)
  have MK4 : Ev (fun k => laws_markRuleS.f k (rulesN 0 0 0 0 [] 4) 49) (61, mkRules 49 4) := markRuleS_ev (rulesN 0 0 0 0 [] 4) 49 (by decide) (by decide) (by decide)
  go_enter Try.func11, Try.ntmps11
  go_wp2_with (first
    | (go_at_call 56; refine (st_specThrough' (w0 := w) b (by first | with_reducible exact HS | with_reducible exact St.box HS _ _)).mono ?_; rintro e wx ⟨xA0, xc0, xA1, xc1, xA2, xc2, xA3, xc3, xA4, xc4, rfl, xa0, xb0, xa1, xb1, xa2, xb2, xa3, xb3, xa4, xb4, HS⟩)
    | (go_at_call 57; have chk := yA0; refine (st_implThrough' (w0 := w) b (by first | with_reducible exact HS | with_reducible exact St.box HS _ _)).mono ?_; rintro e wz ⟨zA0, zc0, zA1, zc1, zA2, zc2, zA3, zc3, zA4, zc4, rfl, za0, zb0, za1, zb1, za2, zb2, za3, zb3, za4, zb4, HS⟩; have qx0 : World.cell? (wz.alloc (.cells #[.slice zA0 4 zc0, .slice zA1 4 zc1, .slice zA2 4 zc2, .slice zA3 4 zc3, .slice zA4 4 zc4] 59)) ⟨wx.heap.size, 0, none⟩ = some (.slice xA0 4 xc0) := (St.cell (St.box HS #[.slice zA0 4 zc0, .slice zA1 4 zc1, .slice zA2 4 zc2, .slice zA3 4 zc3, .slice zA4 4 zc4] 59) (cs := #[.slice xA0 4 xc0, .slice xA1 4 xc1, .slice xA2 4 xc2, .slice xA3 4 xc3, .slice xA4 4 xc4]) (t := 59) (by repeat (first | exact List.mem_cons_self | refine List.mem_cons_of_mem _ ?_)) 0 _ rfl); have qx1 : World.cell? (wz.alloc (.cells #[.slice zA0 4 zc0, .slice zA1 4 zc1, .slice zA2 4 zc2, .slice zA3 4 zc3, .slice zA4 4 zc4] 59)) ⟨wx.heap.size, 1, none⟩ = some (.slice xA1 4 xc1) := (St.cell (St.box HS #[.slice zA0 4 zc0, .slice zA1 4 zc1, .slice zA2 4 zc2, .slice zA3 4 zc3, .slice zA4 4 zc4] 59) (cs := #[.slice xA0 4 xc0, .slice xA1 4 xc1, .slice xA2 4 xc2, .slice xA3 4 xc3, .slice xA4 4 xc4]) (t := 59) (by repeat (first | exact List.mem_cons_self | refine List.mem_cons_of_mem _ ?_)) 1 _ rfl); have qx2 : World.cell? (wz.alloc (.cells #[.slice zA0 4 zc0, .slice zA1 4 zc1, .slice zA2 4 zc2, .slice zA3 4 zc3, .slice zA4 4 zc4] 59)) ⟨wx.heap.size, 2, none⟩ = some (.slice xA2 4 xc2) := (St.cell (St.box HS #[.slice zA0 4 zc0, .slice zA1 4 zc1, .slice zA2 4 zc2, .slice zA3 4 zc3, .slice zA4 4 zc4] 59) (cs := #[.slice xA0 4 xc0, .slice xA1 4 xc1, .slice xA2 4 xc2, .slice xA3 4 xc3, .slice xA4 4 xc4]) (t := 59) (by repeat (first | exact List.mem_cons_self | refine List.mem_cons_of_mem _ ?_)) 2 _ rfl); have qx3 : World.cell? (wz.alloc (.cells #[.slice zA0 4 zc0, .slice zA1 4 zc1, .slice zA2 4 zc2, .slice zA3 4 zc3, .slice zA4 4 zc4] 59)) ⟨wx.heap.size, 3, none⟩ = some (.slice xA3 4 xc3) := (St.cell (St.box HS #[.slice zA0 4 zc0, .slice zA1 4 zc1, .slice zA2 4 zc2, .slice zA3 4 zc3, .slice zA4 4 zc4] 59) (cs := #[.slice xA0 4 xc0, .slice xA1 4 xc1, .slice xA2 4 xc2, .slice xA3 4 xc3, .slice xA4 4 xc4]) (t := 59) (by repeat (first | exact List.mem_cons_self | refine List.mem_cons_of_mem _ ?_)) 3 _ rfl); have qx4 : World.cell? (wz.alloc (.cells #[.slice zA0 4 zc0, .slice zA1 4 zc1, .slice zA2 4 zc2, .slice zA3 4 zc3, .slice zA4 4 zc4] 59)) ⟨wx.heap.size, 4, none⟩ = some (.slice xA4 4 xc4) := (St.cell (St.box HS #[.slice zA0 4 zc0, .slice zA1 4 zc1, .slice zA2 4 zc2, .slice zA3 4 zc3, .slice zA4 4 zc4] 59) (cs := #[.slice xA0 4 xc0, .slice xA1 4 xc1, .slice xA2 4 xc2, .slice xA3 4 xc3, .slice xA4 4 xc4]) (t := 59) (by repeat (first | exact List.mem_cons_self | refine List.mem_cons_of_mem _ ?_)) 4 _ rfl); have qy0 : World.cell? (wz.alloc (.cells #[.slice zA0 4 zc0, .slice zA1 4 zc1, .slice zA2 4 zc2, .slice zA3 4 zc3, .slice zA4 4 zc4] 59)) ⟨wy.heap.size, 0, none⟩ = some (.slice yA0 4 yc0) := (St.cell (St.box HS #[.slice zA0 4 zc0, .slice zA1 4 zc1, .slice zA2 4 zc2, .slice zA3 4 zc3, .slice zA4 4 zc4] 59) (cs := #[.slice yA0 4 yc0, .slice yA1 4 yc1, .slice yA2 4 yc2, .slice yA3 4 yc3, .slice yA4 4 yc4]) (t := 59) (by repeat (first | exact List.mem_cons_self | refine List.mem_cons_of_mem _ ?_)) 0 _ rfl); have qy1 : World.cell? (wz.alloc (.cells #[.slice zA0 4 zc0, .slice zA1 4 zc1, .slice zA2 4 zc2, .slice zA3 4 zc3, .slice zA4 4 zc4] 59)) ⟨wy.heap.size, 1, none⟩ = some (.slice yA1 4 yc1) := (St.cell (St.box HS #[.slice zA0 4 zc0, .slice zA1 4 zc1, .slice zA2 4 zc2, .slice zA3 4 zc3, .slice zA4 4 zc4] 59) (cs := #[.slice yA0 4 yc0, .slice yA1 4 yc1, .slice yA2 4 yc2, .slice yA3 4 yc3, .slice yA4 4 yc4]) (t := 59) (by repeat (first | exact List.mem_cons_self | refine List.mem_cons_of_mem _ ?_)) 1 _ rfl); have qy2 : World.cell? (wz.alloc (.cells #[.slice zA0 4 zc0, .slice zA1 4 zc1, .slice zA2 4 zc2, .slice zA3 4 zc3, .slice zA4 4 zc4] 59)) ⟨wy.heap.size, 2, none⟩ = some (.slice yA2 4 yc2) := (St.cell (St.box HS #[.slice zA0 4 zc0, .slice zA1 4 zc1, .slice zA2 4 zc2, .slice zA3 4 zc3, .slice zA4 4 zc4] 59) (cs := #[.slice yA0 4 yc0, .slice yA1 4 yc1, .slice yA2 4 yc2, .slice yA3 4 yc3, .slice yA4 4 yc4]) (t := 59) (by repeat (first | exact List.mem_cons_self | refine List.mem_cons_of_mem _ ?_)) 2 _ rfl); have qy3 : World.cell? (wz.alloc (.cells #[.slice zA0 4 zc0, .slice zA1 4 zc1, .slice zA2 4 zc2, .slice zA3 4 zc3, .slice zA4 4 zc4] 59)) ⟨wy.heap.size, 3, none⟩ = some (.slice yA3 4 yc3) := (St.cell (St.box HS #[.slice zA0 4 zc0, .slice zA1 4 zc1, .slice zA2 4 zc2, .slice zA3 4 zc3, .slice zA4 4 zc4] 59) (cs := #[.slice yA0 4 yc0, .slice yA1 4 yc1, .slice yA2 4 yc2, .slice yA3 4 yc3, .slice yA4 4 yc4]) (t := 59) (by repeat (first | exact List.mem_cons_self | refine List.mem_cons_of_mem _ ?_)) 3 _ rfl); have qy4 : World.cell? (wz.alloc (.cells #[.slice zA0 4 zc0, .slice zA1 4 zc1, .slice zA2 4 zc2, .slice zA3 4 zc3, .slice zA4 4 zc4] 59)) ⟨wy.heap.size, 4, none⟩ = some (.slice yA4 4 yc4) := (St.cell (St.box HS #[.slice zA0 4 zc0, .slice zA1 4 zc1, .slice zA2 4 zc2, .slice zA3 4 zc3, .slice zA4 4 zc4] 59) (cs := #[.slice yA0 4 yc0, .slice yA1 4 yc1, .slice yA2 4 yc2, .slice yA3 4 yc3, .slice yA4 4 yc4]) (t := 59) (by repeat (first | exact List.mem_cons_self | refine List.mem_cons_of_mem _ ?_)) 4 _ rfl))
    | (go_at_call 57; refine (st_implThrough' (w0 := w) b (by first | with_reducible exact HS | with_reducible exact St.box HS _ _)).mono ?_; rintro e wy ⟨yA0, yc0, yA1, yc1, yA2, yc2, yA3, yc3, yA4, yc4, rfl, ya0, yb0, ya1, yb1, ya2, yb2, ya3, yb3, ya4, yb4, HS⟩; have qx0 : World.cell? (wy.alloc (.cells #[.slice yA0 4 yc0, .slice yA1 4 yc1, .slice yA2 4 yc2, .slice yA3 4 yc3, .slice yA4 4 yc4] 59)) ⟨wx.heap.size, 0, none⟩ = some (.slice xA0 4 xc0) := (St.cell (St.box HS #[.slice yA0 4 yc0, .slice yA1 4 yc1, .slice yA2 4 yc2, .slice yA3 4 yc3, .slice yA4 4 yc4] 59) (cs := #[.slice xA0 4 xc0, .slice xA1 4 xc1, .slice xA2 4 xc2, .slice xA3 4 xc3, .slice xA4 4 xc4]) (t := 59) (by repeat (first | exact List.mem_cons_self | refine List.mem_cons_of_mem _ ?_)) 0 _ rfl); have qx1 : World.cell? (wy.alloc (.cells #[.slice yA0 4 yc0, .slice yA1 4 yc1, .slice yA2 4 yc2, .slice yA3 4 yc3, .slice yA4 4 yc4] 59)) ⟨wx.heap.size, 1, none⟩ = some (.slice xA1 4 xc1) := (St.cell (St.box HS #[.slice yA0 4 yc0, .slice yA1 4 yc1, .slice yA2 4 yc2, .slice yA3 4 yc3, .slice yA4 4 yc4] 59) (cs := #[.slice xA0 4 xc0, .slice xA1 4 xc1, .slice xA2 4 xc2, .slice xA3 4 xc3, .slice xA4 4 xc4]) (t := 59) (by repeat (first | exact List.mem_cons_self | refine List.mem_cons_of_mem _ ?_)) 1 _ rfl); have qx2 : World.cell? (wy.alloc (.cells #[.slice yA0 4 yc0, .slice yA1 4 yc1, .slice yA2 4 yc2, .slice yA3 4 yc3, .slice yA4 4 yc4] 59)) ⟨wx.heap.size, 2, none⟩ = some (.slice xA2 4 xc2) := (St.cell (St.box HS #[.slice yA0 4 yc0, .slice yA1 4 yc1, .slice yA2 4 yc2, .slice yA3 4 yc3, .slice yA4 4 yc4] 59) (cs := #[.slice xA0 4 xc0, .slice xA1 4 xc1, .slice xA2 4 xc2, .slice xA3 4 xc3, .slice xA4 4 xc4]) (t := 59) (by repeat (first | exact List.mem_cons_self | refine List.mem_cons_of_mem _ ?_)) 2 _ rfl); have qx3 : World.cell? (wy.alloc (.cells #[.slice yA0 4 yc0, .slice yA1 4 yc1, .slice yA2 4 yc2, .slice yA3 4 yc3, .slice yA4 4 yc4] 59)) ⟨wx.heap.size, 3, none⟩ = some (.slice xA3 4 xc3) := (St.cell (St.box HS #[.slice yA0 4 yc0, .slice yA1 4 yc1, .slice yA2 4 yc2, .slice yA3 4 yc3, .slice yA4 4 yc4] 59) (cs := #[.slice xA0 4 xc0, .slice xA1 4 xc1, .slice xA2 4 xc2, .slice xA3 4 xc3, .slice xA4 4 xc4]) (t := 59) (by repeat (first | exact List.mem_cons_self | refine List.mem_cons_of_mem _ ?_)) 3 _ rfl); have qx4 : World.cell? (wy.alloc (.cells #[.slice yA0 4 yc0, .slice yA1 4 yc1, .slice yA2 4 yc2, .slice yA3 4 yc3, .slice yA4 4 yc4] 59)) ⟨wx.heap.size, 4, none⟩ = some (.slice xA4 4 xc4) := (St.cell (St.box HS #[.slice yA0 4 yc0, .slice yA1 4 yc1, .slice yA2 4 yc2, .slice yA3 4 yc3, .slice yA4 4 yc4] 59) (cs := #[.slice xA0 4 xc0, .slice xA1 4 xc1, .slice xA2 4 xc2, .slice xA3 4 xc3, .slice xA4 4 xc4]) (t := 59) (by repeat (first | exact List.mem_cons_self | refine List.mem_cons_of_mem _ ?_)) 4 _ rfl))
    | (go_at_call 37; refine (st_eqProtocol (w0 := w) (by first | with_reducible exact HS | with_reducible exact St.box HS _ _) (by repeat (first | with_reducible exact List.mem_cons_self | refine List.mem_cons_of_mem _ ?_)) (by repeat (first | with_reducible exact List.mem_cons_self | refine List.mem_cons_of_mem _ ?_)) (by repeat (first | with_reducible exact List.mem_cons_self | refine List.mem_cons_of_mem _ ?_)) (by repeat (first | with_reducible exact List.mem_cons_self | refine List.mem_cons_of_mem _ ?_)) (by repeat (first | with_reducible exact List.mem_cons_self | refine List.mem_cons_of_mem _ ?_)) (by repeat (first | with_reducible exact List.mem_cons_self | refine List.mem_cons_of_mem _ ?_)) (by repeat (first | with_reducible exact List.mem_cons_self | refine List.mem_cons_of_mem _ ?_)) (by repeat (first | with_reducible exact List.mem_cons_self | refine List.mem_cons_of_mem _ ?_)) (by repeat (first | with_reducible exact List.mem_cons_self | refine List.mem_cons_of_mem _ ?_)) (by repeat (first | with_reducible exact List.mem_cons_self | refine List.mem_cons_of_mem _ ?_)) EQ.out).mono ?_; rintro e wn ⟨rfl, HS⟩; have qx0 : World.cell? wn ⟨wx.heap.size, 0, none⟩ = some (.slice xA0 4 xc0) := (St.cell HS (cs := #[.slice xA0 4 xc0, .slice xA1 4 xc1, .slice xA2 4 xc2, .slice xA3 4 xc3, .slice xA4 4 xc4]) (t := 59) (by repeat (first | exact List.mem_cons_self | refine List.mem_cons_of_mem _ ?_)) 0 _ rfl); have qx1 : World.cell? wn ⟨wx.heap.size, 1, none⟩ = some (.slice xA1 4 xc1) := (St.cell HS (cs := #[.slice xA0 4 xc0, .slice xA1 4 xc1, .slice xA2 4 xc2, .slice xA3 4 xc3, .slice xA4 4 xc4]) (t := 59) (by repeat (first | exact List.mem_cons_self | refine List.mem_cons_of_mem _ ?_)) 1 _ rfl); have qx2 : World.cell? wn ⟨wx.heap.size, 2, none⟩ = some (.slice xA2 4 xc2) := (St.cell HS (cs := #[.slice xA0 4 xc0, .slice xA1 4 xc1, .slice xA2 4 xc2, .slice xA3 4 xc3, .slice xA4 4 xc4]) (t := 59) (by repeat (first | exact List.mem_cons_self | refine List.mem_cons_of_mem _ ?_)) 2 _ rfl); have qx3 : World.cell? wn ⟨wx.heap.size, 3, none⟩ = some (.slice xA3 4 xc3) := (St.cell HS (cs := #[.slice xA0 4 xc0, .slice xA1 4 xc1, .slice xA2 4 xc2, .slice xA3 4 xc3, .slice xA4 4 xc4]) (t := 59) (by repeat (first | exact List.mem_cons_self | refine List.mem_cons_of_mem _ ?_)) 3 _ rfl); have qx4 : World.cell? wn ⟨wx.heap.size, 4, none⟩ = some (.slice xA4 4 xc4) := (St.cell HS (cs := #[.slice xA0 4 xc0, .slice xA1 4 xc1, .slice xA2 4 xc2, .slice xA3 4 xc3, .slice xA4 4 xc4]) (t := 59) (by repeat (first | exact List.mem_cons_self | refine List.mem_cons_of_mem _ ?_)) 4 _ rfl); have qy0 : World.cell? wn ⟨wy.heap.size, 0, none⟩ = some (.slice yA0 4 yc0) := (St.cell HS (cs := #[.slice yA0 4 yc0, .slice yA1 4 yc1, .slice yA2 4 yc2, .slice yA3 4 yc3, .slice yA4 4 yc4]) (t := 59) (by repeat (first | exact List.mem_cons_self | refine List.mem_cons_of_mem _ ?_)) 0 _ rfl); have qy1 : World.cell? wn ⟨wy.heap.size, 1, none⟩ = some (.slice yA1 4 yc1) := (St.cell HS (cs := #[.slice yA0 4 yc0, .slice yA1 4 yc1, .slice yA2 4 yc2, .slice yA3 4 yc3, .slice yA4 4 yc4]) (t := 59) (by repeat (first | exact List.mem_cons_self | refine List.mem_cons_of_mem _ ?_)) 1 _ rfl); have qy2 : World.cell? wn ⟨wy.heap.size, 2, none⟩ = some (.slice yA2 4 yc2) := (St.cell HS (cs := #[.slice yA0 4 yc0, .slice yA1 4 yc1, .slice yA2 4 yc2, .slice yA3 4 yc3, .slice yA4 4 yc4]) (t := 59) (by repeat (first | exact List.mem_cons_self | refine List.mem_cons_of_mem _ ?_)) 2 _ rfl); have qy3 : World.cell? wn ⟨wy.heap.size, 3, none⟩ = some (.slice yA3 4 yc3) := (St.cell HS (cs := #[.slice yA0 4 yc0, .slice yA1 4 yc1, .slice yA2 4 yc2, .slice yA3 4 yc3, .slice yA4 4 yc4]) (t := 59) (by repeat (first | exact List.mem_cons_self | refine List.mem_cons_of_mem _ ?_)) 3 _ rfl); have qy4 : World.cell? wn ⟨wy.heap.size, 4, none⟩ = some (.slice yA4 4 yc4) := (St.cell HS (cs := #[.slice yA0 4 yc0, .slice yA1 4 yc1, .slice yA2 4 yc2, .slice yA3 4 yc3, .slice yA4 4 yc4]) (t := 59) (by repeat (first | exact List.mem_cons_self | refine List.mem_cons_of_mem _ ?_)) 4 _ rfl); try (have qz0 : World.cell? wn ⟨wz.heap.size, 0, none⟩ = some (.slice zA0 4 zc0) := (St.cell HS (cs := #[.slice zA0 4 zc0, .slice zA1 4 zc1, .slice zA2 4 zc2, .slice zA3 4 zc3, .slice zA4 4 zc4]) (t := 59) (by repeat (first | exact List.mem_cons_self | refine List.mem_cons_of_mem _ ?_)) 0 _ rfl); have qz1 : World.cell? wn ⟨wz.heap.size, 1, none⟩ = some (.slice zA1 4 zc1) := (St.cell HS (cs := #[.slice zA0 4 zc0, .slice zA1 4 zc1, .slice zA2 4 zc2, .slice zA3 4 zc3, .slice zA4 4 zc4]) (t := 59) (by repeat (first | exact List.mem_cons_self | refine List.mem_cons_of_mem _ ?_)) 1 _ rfl); have qz2 : World.cell? wn ⟨wz.heap.size, 2, none⟩ = some (.slice zA2 4 zc2) := (St.cell HS (cs := #[.slice zA0 4 zc0, .slice zA1 4 zc1, .slice zA2 4 zc2, .slice zA3 4 zc3, .slice zA4 4 zc4]) (t := 59) (by repeat (first | exact List.mem_cons_self | refine List.mem_cons_of_mem _ ?_)) 2 _ rfl); have qz3 : World.cell? wn ⟨wz.heap.size, 3, none⟩ = some (.slice zA3 4 zc3) := (St.cell HS (cs := #[.slice zA0 4 zc0, .slice zA1 4 zc1, .slice zA2 4 zc2, .slice zA3 4 zc3, .slice zA4 4 zc4]) (t := 59) (by repeat (first | exact List.mem_cons_self | refine List.mem_cons_of_mem _ ?_)) 3 _ rfl); have qz4 : World.cell? wn ⟨wz.heap.size, 4, none⟩ = some (.slice zA4 4 zc4) := (St.cell HS (cs := #[.slice zA0 4 zc0, .slice zA1 4 zc1, .slice zA2 4 zc2, .slice zA3 4 zc3, .slice zA4 4 zc4]) (t := 59) (by repeat (first | exact List.mem_cons_self | refine List.mem_cons_of_mem _ ?_)) 4 _ rfl)))
    | (go_at_call 54; refine (st_markProtocol (w0 := w) (m5 := 61) (by first | with_reducible exact HS | with_reducible exact St.box HS _ _) (by repeat (first | with_reducible exact Upd.here | apply Upd.there)) MK0 (by repeat (first | with_reducible exact Upd.here | apply Upd.there)) MK1 (by repeat (first | with_reducible exact Upd.here | apply Upd.there)) MK2 (by repeat (first | with_reducible exact Upd.here | apply Upd.there)) MK3 (by repeat (first | with_reducible exact Upd.here | apply Upd.there)) MK4).mono ?_; rw [HM.out]; rintro e wn ⟨rfl, HS⟩; have qx0 : World.cell? wn ⟨wx.heap.size, 0, none⟩ = some (.slice xA0 4 xc0) := (St.cell HS (cs := #[.slice xA0 4 xc0, .slice xA1 4 xc1, .slice xA2 4 xc2, .slice xA3 4 xc3, .slice xA4 4 xc4]) (t := 59) (by repeat (first | exact List.mem_cons_self | refine List.mem_cons_of_mem _ ?_)) 0 _ rfl); have qx1 : World.cell? wn ⟨wx.heap.size, 1, none⟩ = some (.slice xA1 4 xc1) := (St.cell HS (cs := #[.slice xA0 4 xc0, .slice xA1 4 xc1, .slice xA2 4 xc2, .slice xA3 4 xc3, .slice xA4 4 xc4]) (t := 59) (by repeat (first | exact List.mem_cons_self | refine List.mem_cons_of_mem _ ?_)) 1 _ rfl); have qx2 : World.cell? wn ⟨wx.heap.size, 2, none⟩ = some (.slice xA2 4 xc2) := (St.cell HS (cs := #[.slice xA0 4 xc0, .slice xA1 4 xc1, .slice xA2 4 xc2, .slice xA3 4 xc3, .slice xA4 4 xc4]) (t := 59) (by repeat (first | exact List.mem_cons_self | refine List.mem_cons_of_mem _ ?_)) 2 _ rfl); have qx3 : World.cell? wn ⟨wx.heap.size, 3, none⟩ = some (.slice xA3 4 xc3) := (St.cell HS (cs := #[.slice xA0 4 xc0, .slice xA1 4 xc1, .slice xA2 4 xc2, .slice xA3 4 xc3, .slice xA4 4 xc4]) (t := 59) (by repeat (first | exact List.mem_cons_self | refine List.mem_cons_of_mem _ ?_)) 3 _ rfl); have qx4 : World.cell? wn ⟨wx.heap.size, 4, none⟩ = some (.slice xA4 4 xc4) := (St.cell HS (cs := #[.slice xA0 4 xc0, .slice xA1 4 xc1, .slice xA2 4 xc2, .slice xA3 4 xc3, .slice xA4 4 xc4]) (t := 59) (by repeat (first | exact List.mem_cons_self | refine List.mem_cons_of_mem _ ?_)) 4 _ rfl); have qy0 : World.cell? wn ⟨wy.heap.size, 0, none⟩ = some (.slice yA0 4 yc0) := (St.cell HS (cs := #[.slice yA0 4 yc0, .slice yA1 4 yc1, .slice yA2 4 yc2, .slice yA3 4 yc3, .slice yA4 4 yc4]) (t := 59) (by repeat (first | exact List.mem_cons_self | refine List.mem_cons_of_mem _ ?_)) 0 _ rfl); have qy1 : World.cell? wn ⟨wy.heap.size, 1, none⟩ = some (.slice yA1 4 yc1) := (St.cell HS (cs := #[.slice yA0 4 yc0, .slice yA1 4 yc1, .slice yA2 4 yc2, .slice yA3 4 yc3, .slice yA4 4 yc4]) (t := 59) (by repeat (first | exact List.mem_cons_self | refine List.mem_cons_of_mem _ ?_)) 1 _ rfl); have qy2 : World.cell? wn ⟨wy.heap.size, 2, none⟩ = some (.slice yA2 4 yc2) := (St.cell HS (cs := #[.slice yA0 4 yc0, .slice yA1 4 yc1, .slice yA2 4 yc2, .slice yA3 4 yc3, .slice yA4 4 yc4]) (t := 59) (by repeat (first | exact List.mem_cons_self | refine List.mem_cons_of_mem _ ?_)) 2 _ rfl); have qy3 : World.cell? wn ⟨wy.heap.size, 3, none⟩ = some (.slice yA3 4 yc3) := (St.cell HS (cs := #[.slice yA0 4 yc0, .slice yA1 4 yc1, .slice yA2 4 yc2, .slice yA3 4 yc3, .slice yA4 4 yc4]) (t := 59) (by repeat (first | exact List.mem_cons_self | refine List.mem_cons_of_mem _ ?_)) 3 _ rfl); have qy4 : World.cell? wn ⟨wy.heap.size, 4, none⟩ = some (.slice yA4 4 yc4) := (St.cell HS (cs := #[.slice yA0 4 yc0, .slice yA1 4 yc1, .slice yA2 4 yc2, .slice yA3 4 yc3, .slice yA4 4 yc4]) (t := 59) (by repeat (first | exact List.mem_cons_self | refine List.mem_cons_of_mem _ ?_)) 4 _ rfl); try (have qz0 : World.cell? wn ⟨wz.heap.size, 0, none⟩ = some (.slice zA0 4 zc0) := (St.cell HS (cs := #[.slice zA0 4 zc0, .slice zA1 4 zc1, .slice zA2 4 zc2, .slice zA3 4 zc3, .slice zA4 4 zc4]) (t := 59) (by repeat (first | exact List.mem_cons_self | refine List.mem_cons_of_mem _ ?_)) 0 _ rfl); have qz1 : World.cell? wn ⟨wz.heap.size, 1, none⟩ = some (.slice zA1 4 zc1) := (St.cell HS (cs := #[.slice zA0 4 zc0, .slice zA1 4 zc1, .slice zA2 4 zc2, .slice zA3 4 zc3, .slice zA4 4 zc4]) (t := 59) (by repeat (first | exact List.mem_cons_self | refine List.mem_cons_of_mem _ ?_)) 1 _ rfl); have qz2 : World.cell? wn ⟨wz.heap.size, 2, none⟩ = some (.slice zA2 4 zc2) := (St.cell HS (cs := #[.slice zA0 4 zc0, .slice zA1 4 zc1, .slice zA2 4 zc2, .slice zA3 4 zc3, .slice zA4 4 zc4]) (t := 59) (by repeat (first | exact List.mem_cons_self | refine List.mem_cons_of_mem _ ?_)) 2 _ rfl); have qz3 : World.cell? wn ⟨wz.heap.size, 3, none⟩ = some (.slice zA3 4 zc3) := (St.cell HS (cs := #[.slice zA0 4 zc0, .slice zA1 4 zc1, .slice zA2 4 zc2, .slice zA3 4 zc3, .slice zA4 4 zc4]) (t := 59) (by repeat (first | exact List.mem_cons_self | refine List.mem_cons_of_mem _ ?_)) 3 _ rfl); have qz4 : World.cell? wn ⟨wz.heap.size, 4, none⟩ = some (.slice zA4 4 zc4) := (St.cell HS (cs := #[.slice zA0 4 zc0, .slice zA1 4 zc1, .slice zA2 4 zc2, .slice zA3 4 zc3, .slice zA4 4 zc4]) (t := 59) (by repeat (first | exact List.mem_cons_self | refine List.mem_cons_of_mem _ ?_)) 4 _ rfl)))
    | (go_at_call 55; refine (st_heldProtocol (w0 := w) (by first | with_reducible exact HS | with_reducible exact St.box HS _ _) (by repeat (first | with_reducible exact List.mem_cons_self | refine List.mem_cons_of_mem _ ?_)) (by repeat (first | with_reducible exact List.mem_cons_self | refine List.mem_cons_of_mem _ ?_)) (by repeat (first | with_reducible exact List.mem_cons_self | refine List.mem_cons_of_mem _ ?_)) (by repeat (first | with_reducible exact List.mem_cons_self | refine List.mem_cons_of_mem _ ?_)) (by repeat (first | with_reducible exact List.mem_cons_self | refine List.mem_cons_of_mem _ ?_)) HD.out).mono ?_; rintro e wn ⟨rfl, HS⟩; have qx0 : World.cell? wn ⟨wx.heap.size, 0, none⟩ = some (.slice xA0 4 xc0) := (St.cell HS (cs := #[.slice xA0 4 xc0, .slice xA1 4 xc1, .slice xA2 4 xc2, .slice xA3 4 xc3, .slice xA4 4 xc4]) (t := 59) (by repeat (first | exact List.mem_cons_self | refine List.mem_cons_of_mem _ ?_)) 0 _ rfl); have qx1 : World.cell? wn ⟨wx.heap.size, 1, none⟩ = some (.slice xA1 4 xc1) := (St.cell HS (cs := #[.slice xA0 4 xc0, .slice xA1 4 xc1, .slice xA2 4 xc2, .slice xA3 4 xc3, .slice xA4 4 xc4]) (t := 59) (by repeat (first | exact List.mem_cons_self | refine List.mem_cons_of_mem _ ?_)) 1 _ rfl); have qx2 : World.cell? wn ⟨wx.heap.size, 2, none⟩ = some (.slice xA2 4 xc2) := (St.cell HS (cs := #[.slice xA0 4 xc0, .slice xA1 4 xc1, .slice xA2 4 xc2, .slice xA3 4 xc3, .slice xA4 4 xc4]) (t := 59) (by repeat (first | exact List.mem_cons_self | refine List.mem_cons_of_mem _ ?_)) 2 _ rfl); have qx3 : World.cell? wn ⟨wx.heap.size, 3, none⟩ = some (.slice xA3 4 xc3) := (St.cell HS (cs := #[.slice xA0 4 xc0, .slice xA1 4 xc1, .slice xA2 4 xc2, .slice xA3 4 xc3, .slice xA4 4 xc4]) (t := 59) (by repeat (first | exact List.mem_cons_self | refine List.mem_cons_of_mem _ ?_)) 3 _ rfl); have qx4 : World.cell? wn ⟨wx.heap.size, 4, none⟩ = some (.slice xA4 4 xc4) := (St.cell HS (cs := #[.slice xA0 4 xc0, .slice xA1 4 xc1, .slice xA2 4 xc2, .slice xA3 4 xc3, .slice xA4 4 xc4]) (t := 59) (by repeat (first | exact List.mem_cons_self | refine List.mem_cons_of_mem _ ?_)) 4 _ rfl); have qy0 : World.cell? wn ⟨wy.heap.size, 0, none⟩ = some (.slice yA0 4 yc0) := (St.cell HS (cs := #[.slice yA0 4 yc0, .slice yA1 4 yc1, .slice yA2 4 yc2, .slice yA3 4 yc3, .slice yA4 4 yc4]) (t := 59) (by repeat (first | exact List.mem_cons_self | refine List.mem_cons_of_mem _ ?_)) 0 _ rfl); have qy1 : World.cell? wn ⟨wy.heap.size, 1, none⟩ = some (.slice yA1 4 yc1) := (St.cell HS (cs := #[.slice yA0 4 yc0, .slice yA1 4 yc1, .slice yA2 4 yc2, .slice yA3 4 yc3, .slice yA4 4 yc4]) (t := 59) (by repeat (first | exact List.mem_cons_self | refine List.mem_cons_of_mem _ ?_)) 1 _ rfl); have qy2 : World.cell? wn ⟨wy.heap.size, 2, none⟩ = some (.slice yA2 4 yc2) := (St.cell HS (cs := #[.slice yA0 4 yc0, .slice yA1 4 yc1, .slice yA2 4 yc2, .slice yA3 4 yc3, .slice yA4 4 yc4]) (t := 59) (by repeat (first | exact List.mem_cons_self | refine List.mem_cons_of_mem _ ?_)) 2 _ rfl); have qy3 : World.cell? wn ⟨wy.heap.size, 3, none⟩ = some (.slice yA3 4 yc3) := (St.cell HS (cs := #[.slice yA0 4 yc0, .slice yA1 4 yc1, .slice yA2 4 yc2, .slice yA3 4 yc3, .slice yA4 4 yc4]) (t := 59) (by repeat (first | exact List.mem_cons_self | refine List.mem_cons_of_mem _ ?_)) 3 _ rfl); have qy4 : World.cell? wn ⟨wy.heap.size, 4, none⟩ = some (.slice yA4 4 yc4) := (St.cell HS (cs := #[.slice yA0 4 yc0, .slice yA1 4 yc1, .slice yA2 4 yc2, .slice yA3 4 yc3, .slice yA4 4 yc4]) (t := 59) (by repeat (first | exact List.mem_cons_self | refine List.mem_cons_of_mem _ ?_)) 4 _ rfl); try (have qz0 : World.cell? wn ⟨wz.heap.size, 0, none⟩ = some (.slice zA0 4 zc0) := (St.cell HS (cs := #[.slice zA0 4 zc0, .slice zA1 4 zc1, .slice zA2 4 zc2, .slice zA3 4 zc3, .slice zA4 4 zc4]) (t := 59) (by repeat (first | exact List.mem_cons_self | refine List.mem_cons_of_mem _ ?_)) 0 _ rfl); have qz1 : World.cell? wn ⟨wz.heap.size, 1, none⟩ = some (.slice zA1 4 zc1) := (St.cell HS (cs := #[.slice zA0 4 zc0, .slice zA1 4 zc1, .slice zA2 4 zc2, .slice zA3 4 zc3, .slice zA4 4 zc4]) (t := 59) (by repeat (first | exact List.mem_cons_self | refine List.mem_cons_of_mem _ ?_)) 1 _ rfl); have qz2 : World.cell? wn ⟨wz.heap.size, 2, none⟩ = some (.slice zA2 4 zc2) := (St.cell HS (cs := #[.slice zA0 4 zc0, .slice zA1 4 zc1, .slice zA2 4 zc2, .slice zA3 4 zc3, .slice zA4 4 zc4]) (t := 59) (by repeat (first | exact List.mem_cons_self | refine List.mem_cons_of_mem _ ?_)) 2 _ rfl); have qz3 : World.cell? wn ⟨wz.heap.size, 3, none⟩ = some (.slice zA3 4 zc3) := (St.cell HS (cs := #[.slice zA0 4 zc0, .slice zA1 4 zc1, .slice zA2 4 zc2, .slice zA3 4 zc3, .slice zA4 4 zc4]) (t := 59) (by repeat (first | exact List.mem_cons_self | refine List.mem_cons_of_mem _ ?_)) 3 _ rfl); have qz4 : World.cell? wn ⟨wz.heap.size, 4, none⟩ = some (.slice zA4 4 zc4) := (St.cell HS (cs := #[.slice zA0 4 zc0, .slice zA1 4 zc1, .slice zA2 4 zc2, .slice zA3 4 zc3, .slice zA4 4 zc4]) (t := 59) (by repeat (first | exact List.mem_cons_self | refine List.mem_cons_of_mem _ ?_)) 4 _ rfl))))
  go_ret
  exact ⟨rfl, HS.below⟩
def laws_FnExactThroughProtocol.f (a0 : Bool) : Option Bool := some true
theorem laws_FnExactThroughProtocol.calls (a0 : Bool) (r : Bool) (w : World) (h : laws_FnExactThroughProtocol.f a0 = some r) :
    Calls Try.prog 11 #[.bool a0] w fun e w' => e = .returned (.bool r) ∧ Below w.heap.size w w' := by
  obtain rfl := Option.some.inj h
  exact walk a0 w 61 (by decide) (eqProtocol_ev _ _ _ _ _ (by decide) (by simp [rulesN]) (by decide) (by decide) (by decide)) (heldProtocol_ev 4 4 4 4 4 1 13 25 37 49 (by decide) (by decide) (by decide) (by decide) (by decide) (by decide) (by decide) (by decide) (by decide) (by decide) (by decide)) rfl

/-- THE ONE PURE STATEMENT of laws_FnExactThroughProtocol. -/
def laws_FnExactThroughProtocol.Pure : Prop := ∀ (a0 : Bool), laws_FnExactThroughProtocol.f a0 = some true

end Go.Proofs.Ytnocikchdkaabaa.PFnExactThroughProtocol
