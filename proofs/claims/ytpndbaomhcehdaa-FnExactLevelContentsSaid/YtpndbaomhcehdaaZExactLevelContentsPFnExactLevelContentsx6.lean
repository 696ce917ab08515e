-- Printed by this session's own program (wip/tools/xprint.py) over the kit's print; not trusted: Lean checks it.
import Derived.Test.YtpndbaomhcehdaaZExactLevelContentsPFnExactLevelContentsx0
import Derived.Test.YtpndbaomhcehdaaZExactLevelContentsPFnExactLevelContentsx5
namespace Go.Proofs.Ytpndbaomhcehdaa.PFnExactLevelContents
open Go.RowKit Go.Proofs.YtpndbaomhcehdaaW.PrintWords Go.Proofs.YtpndbaomhcehdaaW.PrintLast Go.Proofs.YtpndbaomhcehdaaW.PrintMore
attribute [local go_sem] max2_int min2_int max_two min_two max_three min_three max_four min_four   -- for this text's walks alone
set_option linter.unusedVariables false
set_option linter.unusedSimpArgs false

/-! ### spec_l03Step: function 100 -/
theorem xAge_ev (l : List Int) (x : Int) (h : l.length ≤ 1048576) : Ev (fun k => spec_l03Age.f k l x) (xIdx (fun y => decide (y = x)) l 0) := by
  unfold spec_l03Age.f
  have key : ∀ d i, l.length - i = d → i ≤ l.length → Ev (fun k => spec_l03Age.l0 k l x (i : Int)) (xIdx (fun y => decide (y = x)) (l.drop i) (i : Int)) := by
    intro d
    induction d with
    | zero =>
      intro i hd hi
      refine Ev.succ ?_
      simp only [spec_l03Age.l0]
      exact Ev.neg (by omega) (Ev.some (by rw [List.drop_eq_nil_of_le (by omega)]; rfl))
    | succ d ih =>
      intro i hd hi
      refine Ev.succ ?_
      simp only [spec_l03Age.l0]
      rw [wrap_succ (show i < l.length by omega) (by omega), drop_cons l i 0 (by omega)]
      refine Ev.pos (by omega) (Ev.pos (by omega) ?_)
      have er : rd l (i : Int) = l.getD i 0 := rfl
      rw [er]
      unfold xIdx
      by_cases hx : l.getD i 0 = x
      · rw [if_pos (by simpa using hx)]; exact Ev.pos hx (Ev.some rfl)
      · rw [if_neg (by simpa using hx)]; exact Ev.neg hx (ih (i + 1) (by omega) (by omega))
  have := key l.length 0 (by omega) (by omega)
  simpa using this
/-- The contents after a use, and whether it was a hit. -/
def ageOf (cont : List Int) (a : Int) : Int := xIdx (fun y => decide (y = a)) cont 0
def stepOrd (hit : List (List Int)) (miss cont : List Int) (a : Int) : List Int := if 0 ≤ ageOf cont a then hit.getD (ageOf cont a).toNat [] else miss
def stepOld (cont : List Int) (a : Int) : List Int := if 0 ≤ ageOf cont a then cont else cont.set (cont.length - 1) a
def stepV (hit : List (List Int)) (miss cont : List Int) (a : Int) : List Int × Bool := ((stepOrd hit miss cont a).map (fun j => rd (stepOld cont a) j), decide (0 ≤ ageOf cont a))
def okStep (hit : List (List Int)) (miss cont : List Int) (a : Int) : Bool :=
  (decide (1 ≤ cont.length) && decide (cont.length ≤ 1048576)) && (decide (ageOf cont a < hit.length) && (decide ((stepOrd hit miss cont a).length ≤ 1048576) && (stepOrd hit miss cont a).all fun j => decide (0 ≤ j) && decide (j < (cont.length : Int))))
def spec_l03Step.f (l0_0 : List (List Int)) (l0_1 : List Int) (l1 : List Int) (a2 : Int) : Option (List Int × Bool) := if okStep l0_0 l0_1 l1 a2 = true then some (stepV l0_0 l0_1 l1 a2) else none
theorem stepOld_length (cont : List Int) (a : Int) : (stepOld cont a).length = cont.length := by unfold stepOld; split <;> simp
set_option maxHeartbeats 2000000 in
set_option maxRecDepth 100000 in
theorem xL03Step (g0 : Nat) (A0_0 : Option Addr) (c0_0 : Nat) (l0_0 : List (List Int)) (A0_1 : Option Addr) (c0_1 : Nat) (l0_1 : List Int) (A1 : Option Addr) (c1 : Nat) (l1 : List Int) (a2 : Int) (w : World) (cs : Array Value) (ty : TypeId) (o : Nat) (hcs0 : cs[o]? = some (.slice A0_0 l0_0.length c0_0)) (hcs1 : cs[o + 1]? = some (.slice A0_1 l0_1.length c0_1)) (hb0 : w.heap[g0]? = some (.cells cs ty (0, 0))) (hr0_0 : Kd.C (Kd.slice 2 (Kd.int .i64)) w A0_0 l0_0.length l0_0) (hc0_0 : l0_0.length ≤ c0_0) (hr0_1 : Kd.C (Kd.int .i64) w A0_1 l0_1.length l0_1) (hc0_1 : l0_1.length ≤ c0_1) (hr1 : Kd.C (Kd.int .i64) w A1 l1.length l1) (hc1 : l1.length ≤ c1)
    (h1 : 1 ≤ l1.length) (h2 : l1.length ≤ 1048576) (h3 : ageOf l1 a2 < l0_0.length) (h4 : (stepOrd l0_0 l0_1 l1 a2).length ≤ 1048576) (h5 : ∀ j ∈ stepOrd l0_0 l0_1 l1 a2, 0 ≤ j ∧ j < (l1.length : Int)) :
    Calls Try.prog 100 #[.pointer (some ⟨g0, o, none⟩), .slice A1 l1.length c1, .int .i64 a2] w fun e w' => ∃ v0_ : Value, e = .returned (.tuple #[v0_, .bool (stepV l0_0 l0_1 l1 a2).2]) ∧ Kd.R (Kd.int .i64) 2 w' w.heap.size (fun _ => True) v0_ (stepV l0_0 l0_1 l1 a2).1 ∧ Below w.heap.size w w' := by
  have HBX := Aside0.mk hb0
  have CSH0 := Aside0.mk hcs0
  have CSH1 := Aside0.mk hcs1
  clear hcs0 hcs1
  have HH := Aside0.mk hr0_0
  have HM := Aside0.mk hr0_1
  have HR1 := Aside0.mk hr1
  have HC1 := Aside0.mk hc1
  obtain ⟨ka, hka⟩ := xAge_ev l1 a2 h2
  have HA := Aside0.mk (hka ka (Nat.le_refl _))
  have HOW : Aside0 (spec_l00Own.f l1 = some l1) := ⟨by unfold spec_l00Own.f; simp; omega⟩
  obtain ⟨i, hi⟩ : ∃ i, i = ageOf l1 a2 := ⟨_, rfl⟩
  have HI : Aside0 (ageOf l1 a2 = i) := ⟨hi.symm⟩
  have HA : Aside0 (spec_l03Age.f ka l1 a2 = some i) := ⟨by rw [hi]; exact HA.out⟩
  obtain ⟨O, hO⟩ : ∃ O, O = stepOrd l0_0 l0_1 l1 a2 := ⟨_, rfl⟩
  obtain ⟨old, hold⟩ : ∃ old, old = stepOld l1 a2 := ⟨_, rfl⟩
  have HOLD := Aside0.mk hold
  have HOL8 : Aside0 (old.length = l1.length) := ⟨by rw [hold]; exact stepOld_length _ _⟩
  have HV : Aside0 (∀ j ∈ O, 0 ≤ j ∧ j < (old.length : Int)) := ⟨by rw [hO, HOL8.out]; exact h5⟩
  have HLO : Aside0 (O.length ≤ 1048576) := ⟨by rw [hO]; exact h4⟩
  have HOE := Aside0.mk hO
  have e1 : stepV l0_0 l0_1 l1 a2 = (O.map (fun j => rd old j), decide (0 ≤ i)) := by rw [hO, hold, hi]; rfl
  rw [e1]
  rw [← hi] at h3
  have q0 : w.cell? ⟨g0, o, none⟩ = some (.slice A0_0 l0_0.length c0_0) := (blk_cell hb0 o).trans CSH0.out
  have q1 : w.cell? ⟨g0, o + 1, none⟩ = some (.slice A0_1 l0_1.length c0_1) := (blk_cell hb0 (o + 1)).trans CSH1.out
  have hage := xIdx_ge (fun y => decide (y = a2)) l1 0
  have hib : i = -1 ∨ 0 ≤ i ∧ i < (l1.length : Int) := by rw [hi]; rcases hage with h | h; exact .inl h; exact .inr ⟨h.1, by have := h.2; unfold ageOf; omega⟩
  clear hb0 hr0_0 hr0_1 hr1 hc1 hka e1 hage h4 h5 hO hold hi
  dsimp only
  by_cases hi0 : 0 ≤ i
  · have hd : decide (0 ≤ i) = true := decide_eq_true hi0
    rw [hd]
    obtain ⟨adh, Ah, ch, eh, hh0, hhl, hhC⟩ := at_row HH.out i.toNat (by omega)
    subst eh
    have eO : O = l0_0.getD i.toNat [] := by rw [HOE.out]; unfold stepOrd; rw [HI.out, if_pos hi0]
    have eold : old = l1 := by rw [HOLD.out]; unfold stepOld; rw [HI.out, if_pos hi0]
    rw [← eO] at hh0 hhC
    have HO0 := Aside0.mk hhC
    have hh0b := World.block_lt_of_cell? w _ hh0
    have HX0 := Aside0.mk hh0
    subst eold
    clear hhC hhl eO hh0
    go_enter Try.func100, Try.ntmps100
    go_wp2_with fail
    refine (spec_l00Own.calls A1 c1 old old w HR1.out HC1.out HOW.out).mono ?_
    rintro e w1 ⟨v, rfl, hR, hb1⟩
    have HB1 := Aside0.mk hb1
    obtain ⟨A8, c8, rfl, hc8, hC8⟩ := Kd.R_reads hR
    have H81 := Aside0.mk hC8
    have H8c := Aside0.mk hc8
    clear hR hb1 hC8 hc8
    go_wp2_with fail
    refine (spec_l03Age.calls ka A8 c8 old a2 i w1 H81.out H8c.out HA.out).mono ?_
    rintro e w2 ⟨rfl, hd2⟩
    obtain ⟨nq, rfl⟩ := hd2
    have HB2 : Aside0 (Below w.heap.size w (w1.drewN nq)) := ⟨pw_below_drewN HB1.out nq⟩
    have H8 : Aside0 (Kd.C (Kd.int .i64) (w1.drewN nq) A8 old.length old) := ⟨Kd.C_drewN H81.out nq⟩
    obtain ⟨w2, hw2⟩ : ∃ W, W = w1.drewN nq := ⟨_, rfl⟩
    rw [← hw2] at HB2 H8 ⊢
    clear hw2
    have q0 : w2.cell? ⟨g0, o, none⟩ = some (.slice (some adh) l0_0.length c0_0) := (blk_cell ((HB2.out.block g0 (blk_lt HBX.out)).trans HBX.out) o).trans CSH0.out
    have q1 : w2.cell? ⟨g0, o + 1, none⟩ = some (.slice A0_1 l0_1.length c0_1) := (blk_cell ((HB2.out.block g0 (blk_lt HBX.out)).trans HBX.out) (o + 1)).trans CSH1.out
    have hh0 : w2.cell? (adh.add i.toNat) = some (.slice Ah O.length ch) := (HB2.out.cell hh0b).trans HX0.out
    have HO : Aside0 (Kd.C (Kd.int .i64) w2 Ah O.length O) := ⟨Kd.C_below HO0.out HB2.out⟩
    go_wp2_with ((with_reducible refine gate_dst (N := 37) rfl ?_); refine Kd.R_lit (Kd.int .i64) _ 2 ?hg (N := 37) ?hd (xs := ([] : List Int)) (inner := []) (ok := fun _ => True) (okp := fun _ => True) ?hr ?hp (fun _ hk => hk) trivial (Below.refl _ _) (Nat.le_refl _) (by simp) ?_; (case hd => rfl); (case hg => rfl); (case hr => first | (go_simp; done) | (go_simp; rfl)); (case hp => exact (Reps.none _ _)); intro v11 w3 ho4 hb hg_ hnew_; have HOL := Aside0.mk ho4; have HB3 := Aside0.mk hb; clear hg_ hnew_ ho4 hb)
    go_loopg [11, 12] O.length (fun gg v11 v12 wr => ∃ jj : Nat, jj ≤ O.length ∧ O.length - jj ≤ gg ∧ v12 = .int .i64 jj ∧ Aside0 (Kd.R (Kd.int .i64) 2 wr w2.heap.size (fun _ => True) v11 ((O.take jj).map fun j => rd old j)) ∧ Aside0 (Below w2.heap.size w2 wr))
    case atStart => exact ⟨0, Nat.zero_le _, by omega, rfl, by simpa using HOL, HB3⟩
    case round =>
      obtain ⟨jj, hj1, hj2, rfl, RO, BR⟩ := hrel
      by_cases hlt : jj < O.length
      · have hltz : (jj : Int) < (O.length : Int) := by omega
        obtain ⟨y, hy⟩ : ∃ y, y = O.getD jj 0 := ⟨_, rfl⟩
        have hym : y ∈ O := by rw [hy, getD_lt O jj 0 hlt]; exact List.getElem_mem _
        obtain ⟨hy0, hy1⟩ := HV.out y hym
        have hOl := HLO.out
        obtain ⟨adO, eO, hxO⟩ := Kd.at_int (Kd.C_below HO.out BR.out) (jj : Int) (by omega) hltz
        cases eO
        obtain ⟨ad8, e8, hx8⟩ := Kd.at_int (Kd.C_below H8.out BR.out) y hy0 hy1
        cases e8
        have ey : rd O (jj : Int) = y := by rw [hy]; rfl
        rw [ey] at hxO
        rw [Int.toNat_natCast] at hxO
        have HY := Aside0.mk hy
        have HLEN : Aside0 (((O.take jj).map fun j => rd old j).length < 17592186044416) := ⟨by rw [List.length_map, List.length_take]; have := HLO.out; omega⟩
        clear ey hy hym
        go_wp2_with ((with_reducible refine gate_builtin (b := .append) (xs := #[.tmp 44, .tmp 52]) rfl ?_); at_builtin; refine Kd.R_append (Kd.int .i64) (w0 := w2) w2.heap.size rfl (.tmp 44) (.tmp 52) 24 2 (.int .i64 0) 8 rfl Try.underlying24 svInfo rfl (by decide) (by omega) u11 ((O.take jj).map fun j => rd old j) (rd old y) [.int .i64 (rd old y)] (fun _ => True) (fun _ => False) rfl rfl ?aP (fun _ hk => hk.elim) ?aF ?aO ?aB ?aS ?aL ?_; (case aP => exact rfl); (case aB => first | exact BR.out | exact below_alloc BR.out _); (case aF => exact (fun _ _ => trivial)); (case aO => first | exact RO.out | exact Kd.R_alloc RO.out _); (case aS => first | exact BR.out.size | exact (below_size (below_alloc BR.out _))); (case aL => have := HLEN.out; omega); intro v207 w11 ho hb hg hat; have HO5 := Aside0.mk ho; have HB5 := Aside0.mk hb; clear ho hb hg hat)
        have e2 : ((O.take jj).map fun j => rd old j) ++ [rd old y] = (O.take (jj + 1)).map fun j => rd old j := by rw [take_succ O jj 0 hlt, List.map_append, HY.out]; rfl
        rw [e2] at HO5
        go_roundg (O.length - (jj + 1))
        case measure => omega
        case rel => exact ⟨jj + 1, by omega, by omega, by go_num, HO5, HB5⟩
      · obtain rfl : jj = O.length := by omega
        go_wp2
        go_ret2
        refine ⟨_, rfl, ?_, below_le HB2.out BR.out⟩
        have h := RO.out
        rw [List.take_length] at h
        exact Kd.R_lower h HB2.out.size
  · have hd : decide (0 ≤ i) = false := decide_eq_false hi0
    rw [hd]
    have him : i = -1 := by omega
    have eO : O = l0_1 := by rw [HOE.out]; unfold stepOrd; rw [HI.out, if_neg hi0]
    have eold : old = l1.set (l1.length - 1) a2 := by rw [HOLD.out]; unfold stepOld; rw [HI.out, if_neg hi0]
    subst eO
    have HEO := Aside0.mk eold
    have n1 : 0 ≤ (l1.length : Int) - 1 := by omega
    have n2 : (l1.length : Int) - 1 < (l1.length : Int) := by omega
    have n3 : ((l1.length : Int) - 1).toNat = l1.length - 1 := by omega
    subst him
    clear eold
    go_enter Try.func100, Try.ntmps100
    go_wp2_with fail
    refine (spec_l00Own.calls A1 c1 l1 l1 w HR1.out HC1.out HOW.out).mono ?_
    rintro e w1 ⟨v, rfl, hR, hb1⟩
    have HB1 := Aside0.mk hb1
    obtain ⟨b8, c8, rfl, hc8, hge8, hlt8, hrow8⟩ := RowB.of_R hR (by omega)
    have HR8 := Aside0.mk hrow8
    have H81 := Aside0.mk (hrow8.toC (h1 := fun _ => rfl) (by omega))
    have H8c := Aside0.mk hc8
    have HGE := Aside0.mk hge8
    clear hR hb1 hrow8 hc8 hge8
    go_wp2_with fail
    refine (spec_l03Age.calls ka (some ⟨b8, 0, none⟩) c8 l1 a2 (-1) w1 H81.out H8c.out HA.out).mono ?_
    rintro e w2 ⟨rfl, hd2⟩
    obtain ⟨nq, rfl⟩ := hd2
    have HB2 : Aside0 (Below w.heap.size w (w1.drewN nq)) := ⟨pw_below_drewN HB1.out nq⟩
    have HR8 : Aside0 (RowB (Value.int .i64) (w1.drewN nq) b8 l1 2) := ⟨HR8.out.heap rfl⟩
    obtain ⟨w2, hw2⟩ : ∃ W, W = w1.drewN nq := ⟨_, rfl⟩
    rw [← hw2] at HB2 HR8 ⊢
    clear hw2
    have q0 : w2.cell? ⟨g0, o, none⟩ = some (.slice A0_0 l0_0.length c0_0) := (blk_cell ((HB2.out.block g0 (blk_lt HBX.out)).trans HBX.out) o).trans CSH0.out
    have q1 : w2.cell? ⟨g0, o + 1, none⟩ = some (.slice A0_1 O.length c0_1) := (blk_cell ((HB2.out.block g0 (blk_lt HBX.out)).trans HBX.out) (o + 1)).trans CSH1.out
    have x8 := HR8.out.cell (show l1.length - 1 < l1.length by omega) 0
    have z8 := HR8.out.thaw (l1.length - 1)
    have HRS : Aside0 (RowB (Value.int .i64) (w2.setCell ⟨b8, l1.length - 1, none⟩ (.int .i64 a2)) b8 old 2) := ⟨by rw [HEO.out]; exact HR8.out.put (by omega) a2 _ rfl⟩
    have HB3 : Aside0 (Below w.heap.size w (w2.setCell ⟨b8, l1.length - 1, none⟩ (.int .i64 a2))) := ⟨HB2.out.setCell (p := ⟨b8, l1.length - 1, none⟩) HGE.out _⟩
    go_wp2_with (first | ((with_reducible refine gate_store (t := 2) (p := 36) rfl ?_); refine store_event (t := 2) (p := 36) (v := .tmp 35) (w1 := w2.setCell ⟨b8, l1.length - 1, none⟩ (.int .i64 a2)) ?hg ?ho ?hn ?hr ?_; (case ho => rfl); (case hg => rfl); (case hn => rfl); (case hr => first | (go_simp; done) | (go_simp; rfl)); intro w9 hw; have HRS9 : Aside0 (RowB (Value.int .i64) w9 b8 old 2) := ⟨by rw [hw]; exact HRS.out⟩; have HB9 : Aside0 (Below w.heap.size w w9) := ⟨by rw [hw]; exact HB3.out⟩; clear hw) | ((with_reducible refine gate_dst (N := 37) rfl ?_); refine Kd.R_lit (Kd.int .i64) _ 2 ?hg (N := 37) ?hd (xs := ([] : List Int)) (inner := []) (ok := fun _ => True) (okp := fun _ => True) ?hr ?hp (fun _ hk => hk) trivial (Below.refl _ _) (Nat.le_refl _) (by simp) ?_; (case hd => rfl); (case hg => rfl); (case hr => first | (go_simp; done) | (go_simp; rfl)); (case hp => exact (Reps.none _ _)); intro v11 w3 ho4 hb hg_ hnew_; have HOL := Aside0.mk ho4; have HB3 := Aside0.mk hb; clear hg_ hnew_ ho4 hb))
    have H8 : Aside0 (Kd.C (Kd.int .i64) w9 (some ⟨b8, 0, none⟩) old.length old) := ⟨HRS9.out.toC (h1 := fun _ => rfl) (by have := HOL8.out; omega)⟩
    have HO : Aside0 (Kd.C (Kd.int .i64) w9 A0_1 O.length O) := ⟨Kd.C_below HM.out HB9.out⟩
    have HB2 := HB9
    go_loopg [11, 12] O.length (fun gg v11 v12 wr => ∃ jj : Nat, jj ≤ O.length ∧ O.length - jj ≤ gg ∧ v12 = .int .i64 jj ∧ Aside0 (Kd.R (Kd.int .i64) 2 wr w9.heap.size (fun _ => True) v11 ((O.take jj).map fun j => rd old j)) ∧ Aside0 (Below w9.heap.size w9 wr))
    case atStart => exact ⟨0, Nat.zero_le _, by omega, rfl, by simpa using HOL, HB3⟩
    case round =>
      obtain ⟨jj, hj1, hj2, rfl, RO, BR⟩ := hrel
      by_cases hlt : jj < O.length
      · have hltz : (jj : Int) < (O.length : Int) := by omega
        obtain ⟨y, hy⟩ : ∃ y, y = O.getD jj 0 := ⟨_, rfl⟩
        have hym : y ∈ O := by rw [hy, getD_lt O jj 0 hlt]; exact List.getElem_mem _
        obtain ⟨hy0, hy1⟩ := HV.out y hym
        have hOl := HLO.out
        obtain ⟨adO, eO, hxO⟩ := Kd.at_int (Kd.C_below HO.out BR.out) (jj : Int) (by omega) hltz
        cases eO
        obtain ⟨ad8, e8, hx8⟩ := Kd.at_int (Kd.C_below H8.out BR.out) y hy0 hy1
        cases e8
        have hy2 : y < (l1.length : Int) := by have := HOL8.out; omega
        have hx9 : wr.cell? ⟨b8, y.toNat, none⟩ = some (.int .i64 (rd old y)) := by rw [show (⟨b8, y.toNat, none⟩ : Addr) = Addr.add ⟨b8, 0, none⟩ y.toNat from by unfold Addr.add; split <;> simp_all]; exact hx8
        have ey : rd O (jj : Int) = y := by rw [hy]; rfl
        rw [ey] at hxO
        rw [Int.toNat_natCast] at hxO
        have HY := Aside0.mk hy
        have HLEN : Aside0 (((O.take jj).map fun j => rd old j).length < 17592186044416) := ⟨by rw [List.length_map, List.length_take]; have := HLO.out; omega⟩
        clear ey hy hym
        go_wp2_with ((with_reducible refine gate_builtin (b := .append) (xs := #[.tmp 44, .tmp 52]) rfl ?_); at_builtin; refine Kd.R_append (Kd.int .i64) (w0 := w9) w9.heap.size rfl (.tmp 44) (.tmp 52) 24 2 (.int .i64 0) 8 rfl Try.underlying24 svInfo rfl (by decide) (by omega) u11 ((O.take jj).map fun j => rd old j) (rd old y) [.int .i64 (rd old y)] (fun _ => True) (fun _ => False) rfl rfl ?aP (fun _ hk => hk.elim) ?aF ?aO ?aB ?aS ?aL ?_; (case aP => exact rfl); (case aB => first | exact BR.out | exact below_alloc BR.out _); (case aF => exact (fun _ _ => trivial)); (case aO => first | exact RO.out | exact Kd.R_alloc RO.out _); (case aS => first | exact BR.out.size | exact (below_size (below_alloc BR.out _))); (case aL => have := HLEN.out; omega); intro v207 w11 ho hb hg hat; have HO5 := Aside0.mk ho; have HB5 := Aside0.mk hb; clear ho hb hg hat)
        have e2 : ((O.take jj).map fun j => rd old j) ++ [rd old y] = (O.take (jj + 1)).map fun j => rd old j := by rw [take_succ O jj 0 hlt, List.map_append, HY.out]; rfl
        rw [e2] at HO5
        go_roundg (O.length - (jj + 1))
        case measure => omega
        case rel => exact ⟨jj + 1, by omega, by omega, by go_num, HO5, HB5⟩
      · obtain rfl : jj = O.length := by omega
        go_wp2
        go_ret2
        refine ⟨_, rfl, ?_, below_le HB2.out BR.out⟩
        have h := RO.out
        rw [List.take_length] at h
        exact Kd.R_lower h HB2.out.size

theorem spec_l03Step.gen (g0 : Nat) (A0_0 : Option Addr) (c0_0 : Nat) (l0_0 : List (List Int)) (A0_1 : Option Addr) (c0_1 : Nat) (l0_1 : List Int) (A1 : Option Addr) (c1 : Nat) (l1 : List Int) (a2 : Int) (w : World) (cs : Array Value) (ty : TypeId) (o : Nat) (hcs0 : cs[o]? = some (.slice A0_0 l0_0.length c0_0)) (hcs1 : cs[o + 1]? = some (.slice A0_1 l0_1.length c0_1)) (hb0 : w.heap[g0]? = some (.cells cs ty (0, 0))) (hr0_0 : Kd.C (Kd.slice 2 (Kd.int .i64)) w A0_0 l0_0.length l0_0) (hc0_0 : l0_0.length ≤ c0_0) (hr0_1 : Kd.C (Kd.int .i64) w A0_1 l0_1.length l0_1) (hc0_1 : l0_1.length ≤ c0_1) (hr1 : Kd.C (Kd.int .i64) w A1 l1.length l1) (hc1 : l1.length ≤ c1) (hok : okStep l0_0 l0_1 l1 a2 = true) :
    Calls Try.prog 100 #[.pointer (some ⟨g0, o, none⟩), .slice A1 l1.length c1, .int .i64 a2] w fun e w' => ∃ v0_ : Value, e = .returned (.tuple #[v0_, .bool (stepV l0_0 l0_1 l1 a2).2]) ∧ Kd.R (Kd.int .i64) 2 w' w.heap.size (fun _ => True) v0_ (stepV l0_0 l0_1 l1 a2).1 ∧ Below w.heap.size w w' := by
  simp only [okStep, Bool.and_eq_true, decide_eq_true_eq, List.all_eq_true] at hok
  obtain ⟨⟨h1, h2⟩, h3, h4, h5⟩ := hok
  exact xL03Step g0 A0_0 c0_0 l0_0 A0_1 c0_1 l0_1 A1 c1 l1 a2 w cs ty o hcs0 hcs1 hb0 hr0_0 hc0_0 hr0_1 hc0_1 hr1 hc1 h1 h2 h3 h4 h5
theorem spec_l03Step.calls (g0 : Nat) (A0_0 : Option Addr) (c0_0 : Nat) (l0_0 : List (List Int)) (A0_1 : Option Addr) (c0_1 : Nat) (l0_1 : List Int) (A1 : Option Addr) (c1 : Nat) (l1 : List Int) (a2 : Int) (r1 : List Int) (r2 : Bool) (w : World) (hb0 : w.heap[g0]? = some (.cells #[.slice A0_0 l0_0.length c0_0, .slice A0_1 l0_1.length c0_1] 29 (0, 0))) (hr0_0 : Kd.C (Kd.slice 2 (Kd.int .i64)) w A0_0 l0_0.length l0_0) (hc0_0 : l0_0.length ≤ c0_0) (hr0_1 : Kd.C (Kd.int .i64) w A0_1 l0_1.length l0_1) (hc0_1 : l0_1.length ≤ c0_1) (hr1 : Kd.C (Kd.int .i64) w A1 l1.length l1) (hc1 : l1.length ≤ c1) (h : spec_l03Step.f l0_0 l0_1 l1 a2 = some (r1, r2)) :
    Calls Try.prog 100 #[.pointer (some ⟨g0, 0, none⟩), .slice A1 l1.length c1, .int .i64 a2] w fun e w' => ∃ v0_ : Value, e = .returned (.tuple #[v0_, .bool r2]) ∧ Kd.R (Kd.int .i64) 2 w' w.heap.size (fun _ => True) v0_ r1 ∧ Below w.heap.size w w' := by
  unfold spec_l03Step.f at h
  split at h
  · rename_i hok
    simp only [okStep, Bool.and_eq_true, decide_eq_true_eq, List.all_eq_true] at hok
    obtain ⟨⟨h1, h2⟩, h3, h4, h5⟩ := hok
    have e := Option.some.inj h
    have := xL03Step g0 A0_0 c0_0 l0_0 A0_1 c0_1 l0_1 A1 c1 l1 a2 w _ _ 0 rfl rfl hb0 hr0_0 hc0_0 hr0_1 hc0_1 hr1 hc1 h1 h2 h3 h4 h5
    rw [e] at this
    exact this
  · cases h


/-! ### spec_l07Take: function 101 -/
def spec_l07Take.f (k : Nat) (l0 : List Int) (a1 : Int) : Option (List Int × Bool) := (spec_l00Own.f l0).bind fun t193 => ((spec_l03Age.f k t193 a1).bind fun t196 => (if a1 < 0 then (some (t193, false)) else (if t196 < 0 then (some (t193, false)) else (if 0 ≤ t196 then (if t196 < (t193.length : Int) then (some ((t193.set (t196 : Int).toNat (-1)), true)) else (none)) else (none)))))
theorem spec_l07Take.mono : ∀ a0 a1 k, LeO (spec_l07Take.f k a0 a1) (spec_l07Take.f (k + 1) a0 a1) := by
  intro a0 a1 k
  unfold spec_l07Take.f
  repeat' first
      | (with_reducible exact spec_l03Age.mono _ _ _)
      | (with_reducible exact LeO.refl _)
      | (with_reducible exact LeO.none _)
      | (with_reducible refine LeO.ite ?_ ?_)
      | (with_reducible refine LeO.bind ?_ (fun _ => ?_))
      | exact spec_l03Age.mono _ _ _
      | exact LeO.none _
      | refine LeO.ite ?_ ?_
      | refine LeO.bind ?_ (fun _ => ?_)
set_option maxHeartbeats 8000000 in
set_option maxRecDepth 100000 in
theorem spec_l07Take.calls (k : Nat) (A0 : Option Addr) (c0 : Nat) (l0 : List Int) (a1 : Int) (r1 : List Int) (r2 : Bool) (w : World) (hr0 : Kd.C (Kd.int .i64) w A0 l0.length l0) (hc0 : l0.length ≤ c0) (h : spec_l07Take.f k l0 a1 = some (r1, r2)) :
    Calls Try.prog 101 #[.slice A0 l0.length c0, .int .i64 a1] w fun e w' => ∃ v0_ : Value, e = .returned (.tuple #[v0_, .bool r2]) ∧ Kd.R (Kd.int .i64) 2 w' w.heap.size (fun _ => True) v0_ r1 ∧ Below w.heap.size w w' := by
  have HR0 := Aside0.mk hr0
  have HC0 := Aside0.mk hc0
  clear hr0 hc0
  have HB := Aside0.mk (Below.refl w.heap.size w)
  have H : ((spec_l00Own.f l0).bind fun t193 => ((spec_l03Age.f k t193 a1).bind fun t196 => (if a1 < 0 then (some (t193, false)) else (if t196 < 0 then (some (t193, false)) else (if 0 ≤ t196 then (if t196 < (t193.length : Int) then (some ((t193.set (t196 : Int).toNat (-1)), true)) else (none)) else (none)))))) = some (r1, r2) := h
  clear h
  replace H := Option.bind_eq_some_iff.mp H
  obtain ⟨t193, A30, H⟩ := H
  replace H : ((spec_l03Age.f k t193 a1).bind fun t196 => (if a1 < 0 then (some (t193, false)) else (if t196 < 0 then (some (t193, false)) else (if 0 ≤ t196 then (if t196 < (t193.length : Int) then (some ((t193.set (t196 : Int).toNat (-1)), true)) else (none)) else (none))))) = some (r1, r2) := H
  have A3 := Aside0.mk A30
  clear A30
  replace H := Option.bind_eq_some_iff.mp H
  obtain ⟨t196, A40, H⟩ := H
  replace H : (if a1 < 0 then (some (t193, false)) else (if t196 < 0 then (some (t193, false)) else (if 0 ≤ t196 then (if t196 < (t193.length : Int) then (some ((t193.set (t196 : Int).toNat (-1)), true)) else (none)) else (none)))) = some (r1, r2) := H
  have A4 := Aside0.mk A40
  clear A40
  by_cases c5 : a1 < 0
  · rw [if_pos c5] at H
    have c5b0 : decide (a1 < 0) = true := decide_eq_true c5
    clear c5
    simp only [Option.some.injEq, Prod.mk.injEq] at H
    obtain ⟨rfl, rfl⟩ := H
    go_enter Try.func101, Try.ntmps101
    go_wp2_with (first | ((with_reducible refine gate_callee (f := 136) rfl ?_); refine goesL_ (some 9) rfl rfl Try.func136 (by kernel_rfl) rfl #[.slice A0 l0.length c0] rfl (by (try simp only [List.map_toArray, List.map_cons, List.map_nil]); first | done | rfl | (simp only [List.length_drop, List.length_take]; rfl)) ?_; (with_reducible refine (spec_l00Own.calls _ _ l0 t193 _ ?side1 ?side2 A3.out).mono ?_); (case side1 => repeat (first | exact HR0.out | (with_reducible refine Kd.C_alloc ?_ _) | (with_reducible refine Kd.C_drewN ?_ _) | (with_reducible refine Kd.C_drew ?_))); (case side2 => exact HC0.out); rintro e w6 ⟨v194, rfl, ho0, hb⟩; refine ⟨_, rfl, ?_⟩; have n0_ := Aside0.mk (Kd.R_lower ho0 (below_size (by repeat (first | (with_reducible first | exact HB.out | apply below_alloc | apply pw_below_drewN | apply below_drew1) | exact HB.out)))); have n1_ := Aside0.mk (below_step (by repeat (first | (with_reducible first | exact HB.out | apply below_alloc | apply pw_below_drewN | apply below_drew1) | exact HB.out)) hb); clear HB; have HO195 := n0_; have HB := n1_; clear n0_ n1_; (try clear hb); (try clear hb2); (try clear hk); (try clear hi); (try clear ho0); obtain ⟨Ao7, co7, eo7⟩ := Kd.R_slice HO195.out; subst eo7) | ((with_reducible refine gate_callee (f := 137) rfl ?_); refine goesL_ (some 12) rfl rfl Try.func137 (by kernel_rfl) rfl #[.slice Ao7 t193.length co7, .int .i64 a1] rfl (by (try simp only [List.map_toArray, List.map_cons, List.map_nil]); first | done | rfl | (simp only [List.length_drop, List.length_take]; rfl)) ?_; (with_reducible refine (spec_l03Age.calls k _ _ t193 a1 t196 _ ?side1 ?side2 A4.out).mono ?_); (case side1 => repeat (first | exact (Kd.R_reads' HO195.out).2.2 | (with_reducible refine Kd.C_alloc ?_ _) | (with_reducible refine Kd.C_drewN ?_ _) | (with_reducible refine Kd.C_drew ?_))); (case side2 => exact (Kd.R_reads' HO195.out).2.1); rintro e w' ⟨rfl, ⟨nd, rfl⟩⟩; refine ⟨_, rfl, ?_⟩))
    go_ret2
    exact ⟨_, by first | rfl | (simp [errW_none, errW_some] <;> rfl) | (simp [*, errW_none, errW_some] <;> rfl), by (with_reducible repeat (first | apply Kd.R_alloc | apply Kd.R_drewN | apply Kd.R_drew)); exact HO195.out, by repeat (first | (with_reducible first | exact HB.out | apply below_alloc | apply pw_below_drewN | apply below_drew1) | exact HB.out)⟩
  · rw [if_neg c5] at H
    have c5b0 : decide (a1 < 0) = false := decide_eq_false c5
    clear c5
    by_cases c8 : t196 < 0
    · rw [if_pos c8] at H
      have c8b0 : decide (t196 < 0) = true := decide_eq_true c8
      clear c8
      simp only [Option.some.injEq, Prod.mk.injEq] at H
      obtain ⟨rfl, rfl⟩ := H
      go_enter Try.func101, Try.ntmps101
      go_wp2_with (first | ((with_reducible refine gate_callee (f := 136) rfl ?_); refine goesL_ (some 9) rfl rfl Try.func136 (by kernel_rfl) rfl #[.slice A0 l0.length c0] rfl (by (try simp only [List.map_toArray, List.map_cons, List.map_nil]); first | done | rfl | (simp only [List.length_drop, List.length_take]; rfl)) ?_; (with_reducible refine (spec_l00Own.calls _ _ l0 t193 _ ?side1 ?side2 A3.out).mono ?_); (case side1 => repeat (first | exact HR0.out | (with_reducible refine Kd.C_alloc ?_ _) | (with_reducible refine Kd.C_drewN ?_ _) | (with_reducible refine Kd.C_drew ?_))); (case side2 => exact HC0.out); rintro e w9 ⟨v194, rfl, ho0, hb⟩; refine ⟨_, rfl, ?_⟩; have n0_ := Aside0.mk (Kd.R_lower ho0 (below_size (by repeat (first | (with_reducible first | exact HB.out | apply below_alloc | apply pw_below_drewN | apply below_drew1) | exact HB.out)))); have n1_ := Aside0.mk (below_step (by repeat (first | (with_reducible first | exact HB.out | apply below_alloc | apply pw_below_drewN | apply below_drew1) | exact HB.out)) hb); clear HB; have HO195 := n0_; have HB := n1_; clear n0_ n1_; (try clear hb); (try clear hb2); (try clear hk); (try clear hi); (try clear ho0); obtain ⟨Ao10, co10, eo10⟩ := Kd.R_slice HO195.out; subst eo10) | ((with_reducible refine gate_callee (f := 137) rfl ?_); refine goesL_ (some 12) rfl rfl Try.func137 (by kernel_rfl) rfl #[.slice Ao10 t193.length co10, .int .i64 a1] rfl (by (try simp only [List.map_toArray, List.map_cons, List.map_nil]); first | done | rfl | (simp only [List.length_drop, List.length_take]; rfl)) ?_; (with_reducible refine (spec_l03Age.calls k _ _ t193 a1 t196 _ ?side1 ?side2 A4.out).mono ?_); (case side1 => repeat (first | exact (Kd.R_reads' HO195.out).2.2 | (with_reducible refine Kd.C_alloc ?_ _) | (with_reducible refine Kd.C_drewN ?_ _) | (with_reducible refine Kd.C_drew ?_))); (case side2 => exact (Kd.R_reads' HO195.out).2.1); rintro e w' ⟨rfl, ⟨nd, rfl⟩⟩; refine ⟨_, rfl, ?_⟩))
      go_ret2
      exact ⟨_, by first | rfl | (simp [errW_none, errW_some] <;> rfl) | (simp [*, errW_none, errW_some] <;> rfl), by (with_reducible repeat (first | apply Kd.R_alloc | apply Kd.R_drewN | apply Kd.R_drew)); exact HO195.out, by repeat (first | (with_reducible first | exact HB.out | apply below_alloc | apply pw_below_drewN | apply below_drew1) | exact HB.out)⟩
    · rw [if_neg c8] at H
      have c8b0 : decide (t196 < 0) = false := decide_eq_false c8
      clear c8
      by_cases c11 : 0 ≤ t196
      · rw [if_pos c11] at H
        have c11b0 : decide (0 ≤ t196) = true := decide_eq_true c11
        clear c11
        by_cases c12 : t196 < (t193.length : Int)
        · rw [if_pos c12] at H
          have c12b0 : decide (t196 < (t193.length : Int)) = true := decide_eq_true c12
          clear c12
          obtain ⟨y197, hy197⟩ : ∃ y_ : List Int, y_ = (t193.set (t196 : Int).toNat (-1)) := ⟨_, rfl⟩
          replace H : (some (y197, true)) = some (r1, r2) := by first | (rw [hy197]; with_reducible exact H) | (have H2_ := (Option.bind_some _ _).symm.trans H; rw [hy197]; with_reducible exact H2_) | (have H2_ := (Option.bind_some _ _).symm.trans H; with_reducible exact H2_) | with_reducible exact H | (rw [hy197]; exact H) | exact H
          have Ny197 := Aside0.mk hy197
          clear hy197
          simp only [Option.some.injEq, Prod.mk.injEq] at H
          obtain ⟨rfl, rfl⟩ := H
          go_enter Try.func101, Try.ntmps101
          go_wp2_with (first | ((with_reducible refine gate_callee (f := 136) rfl ?_); refine goesL_ (some 9) rfl rfl Try.func136 (by kernel_rfl) rfl #[.slice A0 l0.length c0] rfl (by (try simp only [List.map_toArray, List.map_cons, List.map_nil]); first | done | rfl | (simp only [List.length_drop, List.length_take]; rfl)) ?_; (with_reducible refine (spec_l00Own.calls _ _ l0 t193 _ ?side1 ?side2 A3.out).mono ?_); (case side1 => repeat (first | exact HR0.out | (with_reducible refine Kd.C_alloc ?_ _) | (with_reducible refine Kd.C_drewN ?_ _) | (with_reducible refine Kd.C_drew ?_))); (case side2 => exact HC0.out); rintro e w14 ⟨v194, rfl, ho0, hb⟩; refine ⟨_, rfl, ?_⟩; have n0_ := Aside0.mk (Kd.R_lower ho0 (below_size (by repeat (first | (with_reducible first | exact HB.out | apply below_alloc | apply pw_below_drewN | apply below_drew1) | exact HB.out)))); have n1_ := Aside0.mk (below_step (by repeat (first | (with_reducible first | exact HB.out | apply below_alloc | apply pw_below_drewN | apply below_drew1) | exact HB.out)) hb); clear HB; have HO195 := n0_; have HB := n1_; clear n0_ n1_; (try clear hb); (try clear hb2); (try clear hk); (try clear hi); (try clear ho0); obtain ⟨Ao15, co15, eo15⟩ := Kd.R_slice HO195.out; subst eo15) | ((with_reducible refine gate_callee (f := 137) rfl ?_); refine goesL_ (some 12) rfl rfl Try.func137 (by kernel_rfl) rfl #[.slice Ao15 t193.length co15, .int .i64 a1] rfl (by (try simp only [List.map_toArray, List.map_cons, List.map_nil]); first | done | rfl | (simp only [List.length_drop, List.length_take]; rfl)) ?_; (with_reducible refine (spec_l03Age.calls k _ _ t193 a1 t196 _ ?side1 ?side2 A4.out).mono ?_); (case side1 => repeat (first | exact (Kd.R_reads' HO195.out).2.2 | (with_reducible refine Kd.C_alloc ?_ _) | (with_reducible refine Kd.C_drewN ?_ _) | (with_reducible refine Kd.C_drew ?_))); (case side2 => exact (Kd.R_reads' HO195.out).2.1); rintro e w' ⟨rfl, ⟨nd, rfl⟩⟩; refine ⟨_, rfl, ?_⟩; (try (rw [drewN_self w14]; generalize hq_ : World.drewN w14 _ = w14; have n0_ : Aside0 (Kd.R (Kd.int .i64) 2 w14 w.heap.size (fun _ => True) (.slice Ao15 t193.length co15) t193) := ⟨by rw [← hq_]; exact (by (with_reducible repeat (first | apply Kd.R_alloc | apply Kd.R_drewN | apply Kd.R_drew)); exact HO195.out)⟩; have n1_ : Aside0 (Below w.heap.size w w14) := ⟨by rw [← hq_]; exact (by repeat (first | (with_reducible first | exact HB.out | apply below_alloc | apply pw_below_drewN | apply below_drew1) | exact HB.out))⟩; clear HO195 HB hq_; have HO195 := n0_; have HB := n1_; clear n0_ n1_)); have p13 : 0 ≤ (t196 : Int) := of_decide_eq_true (by first | (with_reducible assumption) | assumption); have q13 : (t196 : Int) < ((t193.length : Int) : Int) := of_decide_eq_true (by first | (with_reducible assumption) | assumption); obtain ⟨go13, co13, eo13, gb13, gl13, cl13, HG13⟩ := Kd.R_form HO195.out (by omega); (first | cases eo13 | (injection eo13 with ea_ en_ ec_; (first | subst ea_ | (injection ea_ with ea_; subst ea_)); subst ec_; clear en_)); have GB13 := Aside0.mk gb13; have GG13 := Aside0.mk HG13; clear gb13 gl13 HG13; obtain ⟨hx13_0, hf13_0⟩ := Kd.R_celln 0 HO195.out (t196 : Int) p13 q13; replace p13 := eq_true p13; replace q13 := eq_true q13; obtain ⟨hy16_, hz16_⟩ := Kd.R_celln 0 HO195.out (t196 : Int) (of_decide_eq_true (by first | (with_reducible assumption) | assumption)) (of_decide_eq_true (by first | (with_reducible assumption) | assumption)); have HP16 := Kd.R_putg HO195.out (t196 : Int) (-1)) | ((with_reducible refine gate_store (t := 2) (p := 22) rfl ?_); refine store_event (t := 2) (p := 22) (v := ?vo_w17) (w1 := (w14.setCell ⟨go13, (t196 : Int).toNat, none⟩ (.int .i64 (-1)))) ?hg ?ho ?hn ?hr ?_; (case ho => rfl); (case hg => rfl); (case hn => rfl); (case hr => first | (go_simp; done) | (go_simp; rfl)); intro w17 hw; have hg : w14.grownBy w17 (some go13) := (by rw [hw]; exact HP16.2); have hp_ : Kd.R (Kd.int .i64) 2 w17 w.heap.size (fun _ => True) (.slice (some ⟨go13, 0, none⟩) t193.length co15) y197 := (by rw [hw, Ny197.out]; exact HP16.1); clear HP16; have n0_ := Aside0.mk (hp_); have n1_ := Aside0.mk ((by rw [hw]; exact below_set (HB.out) GB13.out : Below w.heap.size w w17)); clear HO195; clear HB; have HO195 := n0_; have HB := n1_; clear n0_ n1_; clear hg hw hp_))
          go_ret2
          exact ⟨_, by first | rfl | (simp [errW_none, errW_some] <;> rfl) | (simp [*, errW_none, errW_some] <;> rfl), by (with_reducible repeat (first | apply Kd.R_alloc | apply Kd.R_drewN | apply Kd.R_drew)); exact HO195.out, by repeat (first | (with_reducible first | exact HB.out | apply below_alloc | apply pw_below_drewN | apply below_drew1) | exact HB.out)⟩
        · rw [if_neg c12] at H
          exact absurd H (by simp)
      · rw [if_neg c11] at H
        exact absurd H (by simp)

end Go.Proofs.Ytpndbaomhcehdaa.PFnExactLevelContents
