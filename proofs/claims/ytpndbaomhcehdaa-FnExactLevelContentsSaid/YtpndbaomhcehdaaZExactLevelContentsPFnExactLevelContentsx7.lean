-- Printed by this session's own program (wip/tools/xprint.py) over the kit's print; not trusted: Lean checks it.
import Derived.Test.YtpndbaomhcehdaaZExactLevelContentsPFnExactLevelContentsx0
import Derived.Test.YtpndbaomhcehdaaZExactLevelContentsPFnExactLevelContentsx2
import Derived.Test.YtpndbaomhcehdaaZExactLevelContentsPFnExactLevelContentsx3
import Derived.Test.YtpndbaomhcehdaaZExactLevelContentsPFnExactLevelContentsx4
import Derived.Test.YtpndbaomhcehdaaZExactLevelContentsPFnExactLevelContentsx5
import Derived.Test.YtpndbaomhcehdaaZExactLevelContentsPFnExactLevelContentsx6
namespace Go.Proofs.Ytpndbaomhcehdaa.PFnExactLevelContents
open Go.RowKit Go.Proofs.YtpndbaomhcehdaaW.PrintWords Go.Proofs.YtpndbaomhcehdaaW.PrintLast Go.Proofs.YtpndbaomhcehdaaW.PrintMore
attribute [local go_sem] max2_int min2_int max_two min_two max_three min_three max_four min_four   -- for this text's walks alone
set_option linter.unusedVariables false
set_option linter.unusedSimpArgs false

/-! ### spec_l07Stack: function 65 -/
theorem valid_facts {h : List (List Int)} {m : List Int} (hv : validB h m = true) : 1 ≤ m.length ∧ m.length ≤ 6 ∧ h.length = m.length ∧ orderB m (m.length : Int) = true ∧ ∀ y ∈ h, orderB y (m.length : Int) = true := by
  unfold validB at hv
  simp only [Bool.and_eq_true, decide_eq_true_eq] at hv
  obtain ⟨⟨a, b⟩, c, d, e⟩ := hv
  refine ⟨a, b, by omega, d, fun y hy => ?_⟩
  cases hb : orderB y (m.length : Int)
  · have : (h.any fun y => !orderB y (m.length : Int)) = true := List.any_eq_true.2 ⟨y, hy, by rw [hb]; rfl⟩
    rw [this] at e; cases e
  · rfl
theorem age_lt (c : List Int) (a : Int) : ageOf c a = -1 ∨ 0 ≤ ageOf c a ∧ ageOf c a < c.length := by
  have := xIdx_ge (fun y => decide (y = a)) c 0
  unfold ageOf
  omega
theorem ord_order {h : List (List Int)} {m : List Int} (hv : validB h m = true) (c : List Int) (hc : c.length = m.length) (a : Int) : orderB (stepOrd h m c a) (c.length : Int) = true := by
  obtain ⟨h1, h2, h3, h4, h5⟩ := valid_facts hv
  unfold stepOrd
  rw [hc]
  split
  · refine h5 _ (getD_mem h _ [] ?_)
    have := age_lt c a
    omega
  · exact h4
theorem okStep_valid {h : List (List Int)} {m : List Int} (hv : validB h m = true) (c : List Int) (hc : c.length = m.length) (a : Int) : okStep h m c a = true := by
  obtain ⟨h1, h2, h3, h4, h5⟩ := valid_facts hv
  obtain ⟨o1, o2, o3⟩ := (orderB_iff _ _).1 (ord_order hv c hc a)
  have := age_lt c a
  unfold okStep
  simp only [Bool.and_eq_true, decide_eq_true_eq, List.all_eq_true]
  refine ⟨⟨by omega, by omega⟩, by omega, by omega, fun x hx => ?_⟩
  have := o2 x hx
  omega
theorem stepV_length {h : List (List Int)} {m : List Int} (hv : validB h m = true) (c : List Int) (hc : c.length = m.length) (a : Int) : (stepV h m c a).1.length = m.length := by
  obtain ⟨o1, o2, o3⟩ := (orderB_iff _ _).1 (ord_order hv c hc a)
  unfold stepV
  rw [List.length_map]
  omega
theorem specEmpty_ev (h : List (List Int)) (m : List Int) (hm : m.length ≤ 1048576) : Ev (fun k => spec_l03Empty.f k h m) (List.replicate m.length (-1)) := by
  unfold spec_l03Empty.f
  refine Ev.upto (F := fun k s i => spec_l03Empty.l0 k s i h m) (n := m.length) (r := List.replicate m.length (-1)) (fun i s => s = List.replicate i (-1)) ?_ ?_ 0 (Nat.zero_le _) _ (by simp)
  · intro i s hi hs ih
    refine Ev.succ ?_
    simp only [spec_l03Empty.l0]
    rw [wrap_succ hi (by omega)]
    refine Ev.pos (by omega) (Ev.pos (by rw [hs, List.length_replicate]; omega) (ih _ ?_))
    rw [hs, List.replicate_succ']
  · intro s hs
    refine Ev.succ ?_
    simp only [spec_l03Empty.l0]
    exact Ev.neg (by omega) (Ev.some hs)
/-- A list where an address is taken out, and whether it was there. -/
def takeV (l : List Int) (a : Int) : List Int × Bool := if a < 0 then (l, false) else if ageOf l a < 0 then (l, false) else (l.set (ageOf l a).toNat (-1), true)
theorem takeV_length (l : List Int) (a : Int) : (takeV l a).1.length = l.length := by
  unfold takeV
  split
  · rfl
  · split
    · rfl
    · exact List.length_set ..
theorem take_ev (l : List Int) (a : Int) (h : l.length ≤ 1048576) : Ev (fun k => spec_l07Take.f k l a) (takeV l a) := by
  have ho : spec_l00Own.f l = some l := by unfold spec_l00Own.f; simp; omega
  unfold spec_l07Take.f
  refine Ev.bindc ho (Ev.bind (show Ev (fun k => spec_l03Age.f k l a) (ageOf l a) from xAge_ev l a h) ?_)
  by_cases h0 : a < 0
  · have e : takeV l a = (l, false) := by unfold takeV; rw [if_pos h0]
    rw [e]
    exact Ev.pos h0 (Ev.some rfl)
  refine Ev.neg h0 ?_
  rcases age_lt l a with hg | ⟨g0, g1⟩
  · have e : takeV l a = (l, false) := by unfold takeV; rw [if_neg h0, if_pos (by omega)]
    rw [e]
    exact Ev.pos (by omega) (Ev.some rfl)
  · have e : takeV l a = (l.set (ageOf l a).toNat (-1), true) := by unfold takeV; rw [if_neg h0, if_neg (by omega)]
    rw [e]
    exact Ev.neg (by omega) (Ev.pos g0 (Ev.pos g1 (Ev.some rfl)))
def hasB (l : List Int) (x : Int) : Bool := l.any fun y => decide (y = x)
/-- What two levels make of uses: where each was, both contents, the back invalidations. -/
def stackV (h1 : List (List Int)) (m1 : List Int) (h2 : List (List Int)) (m2 : List Int) (md : Int) : List Int → List Int → List Int → List Int → Int → List Int × List Int × List Int × Int
  | [], wh, f, s, b => (wh, f, s, b)
  | x :: xs, wh, f, s, b =>
    if hasB f x = true then stackV h1 m1 h2 m2 md xs (wh ++ [1]) (stepV h1 m1 f x).1 s b
    else if md = 2 then stackV h1 m1 h2 m2 md xs (wh ++ [if hasB s x = true then 2 else 3]) (stepV h1 m1 f x).1 (if f.getD (f.length - 1) 0 ≥ 0 then (stepV h2 m2 (takeV s x).1 (f.getD (f.length - 1) 0)).1 else (takeV s x).1) b
    else if md = 1 ∧ (stepV h2 m2 s x).2 = false then stackV h1 m1 h2 m2 md xs (wh ++ [if hasB s x = true then 2 else 3]) (stepV h1 m1 (takeV f (s.getD (s.length - 1) 0)).1 x).1 (stepV h2 m2 s x).1 (if (takeV f (s.getD (s.length - 1) 0)).2 = true then b + 1 else b)
    else stackV h1 m1 h2 m2 md xs (wh ++ [if hasB s x = true then 2 else 3]) (stepV h1 m1 f x).1 (stepV h2 m2 s x).1 b
theorem lev_new {W W' : World} {base : Nat} {v : Value} {l : List Int} (h : Kd.R (Kd.int .i64) 2 W' W.heap.size (fun _ => True) v l) (hl : 0 < l.length) (hb : base ≤ W.heap.size) :
    ∃ b d, v = .slice (some ⟨b, 0, none⟩) l.length d ∧ l.length ≤ d ∧ W.heap.size ≤ b ∧ b < W'.heap.size ∧ Kd.R (Kd.int .i64) 2 W' base (fun k => k = b) v l ∧ Kd.C (Kd.int .i64) W' (some ⟨b, 0, none⟩) l.length l := by
  obtain ⟨b, d, rfl, h2, _, h4, h5, _, _⟩ := RowB.of_R' h hl
  obtain ⟨_, _, e, _, hC⟩ := Kd.R_reads h
  cases e
  exact ⟨b, d, rfl, h2, h4, h5, Kd.R_mono (Kd.R_tight rfl (Kd.R_lower h hb)) (fun k hk => (Option.some.inj hk)), hC⟩
theorem R_keep {W W' : World} {base : Nat} {v : Value} {l : List Int} {ok ok' : Nat → Prop} (h : Kd.R (Kd.int .i64) 2 W base ok v l) (hb : Below W.heap.size W W') (hok : ∀ k, ok k → k < W.heap.size → ok' k) : Kd.R (Kd.int .i64) 2 W' base ok' v l :=
  Kd.R_below (Kd.R_mono (Kd.R_bound h) (fun k hk => hok k hk.1 hk.2.2.1)) hb
theorem last_getD (l : List Int) : rd l ((l.length : Int) - 1) = l.getD (l.length - 1) 0 := by
  unfold rd
  congr 1
  omega
theorem lev_lt {W : World} {base b n d : Nat} {l : List Int} (h : Kd.R (Kd.int .i64) 2 W base (fun k => k = b) (.slice (some ⟨b, 0, none⟩) n d) l) (hl : 0 < l.length) : b < W.heap.size := by
  obtain ⟨b', d', e, _, _, _, h5, _, _⟩ := RowB.of_R' h hl
  cases e
  exact h5
theorem lev_cell {W : World} {base b n d : Nat} {l : List Int} (h : Kd.R (Kd.int .i64) 2 W base (fun k => k = b) (.slice (some ⟨b, 0, none⟩) n d) l) {i : Nat} (hi : i < l.length) : W.cell? ⟨b, i, none⟩ = some (.int .i64 (l.getD i 0)) := by
  obtain ⟨b', d', e, _, _, _, _, hB, _⟩ := RowB.of_R' h (by omega)
  cases e
  exact hB.cell hi 0
theorem results_tmp4 {P : Program} {fn : Func} {t u v x : Tmp} (h : fn.results = #[.tmp t, .tmp u, .tmp v, .tmp x]) (tmps : Array Value) (w : World) :
    (results fn tmps).run P w = .ok (.tuple #[tmps.getD t undef, tmps.getD u undef, tmps.getD v undef, tmps.getD x undef]) w := by
  simp [results, h]
set_option maxHeartbeats 4000000 in
set_option maxRecDepth 100000 in
theorem xStack0 (g0 : Nat) (A0 : Option Addr) (c0 : Nat) (l0 : List (List Int)) (A1 : Option Addr) (c1 : Nat) (l1 : List Int) (A2 : Option Addr) (c2 : Nat) (l2 : List (List Int)) (A3 : Option Addr) (c3 : Nat) (l3 : List Int) (A5 : Option Addr) (c5 : Nat) (us : List Int) (w : World) (hb0 : w.heap[g0]? = some (.cells #[.slice A0 l0.length c0, .slice A1 l1.length c1, .slice A2 l2.length c2, .slice A3 l3.length c3, .int .i64 0] 53 (0, 0))) (hr0 : Kd.C (Kd.slice 2 (Kd.int .i64)) w A0 l0.length l0) (hc0 : l0.length ≤ c0) (hr1 : Kd.C (Kd.int .i64) w A1 l1.length l1) (hc1 : l1.length ≤ c1) (hr2 : Kd.C (Kd.slice 2 (Kd.int .i64)) w A2 l2.length l2) (hc2 : l2.length ≤ c2) (hr3 : Kd.C (Kd.int .i64) w A3 l3.length l3) (hc3 : l3.length ≤ c3) (hr5 : Kd.C (Kd.int .i64) w A5 us.length us) (hc5 : us.length ≤ c5) (hl : us.length ≤ 1048576) (v1 : validB l0 l1 = true) (v2 : validB l2 l3 = true) (WH FF SS : List Int) (BB : Int) (hR : stackV l0 l1 l2 l3 0 us [] (List.replicate l1.length (-1)) (List.replicate l3.length (-1)) 0 = (WH, FF, SS, BB)) :
    Calls Try.prog 65 #[.pointer (some ⟨g0, 0, none⟩), .slice A5 us.length c5] w fun e w' => ∃ v0 v1 v2, e = .returned (.tuple #[v0, v1, v2, .int .i64 BB]) ∧ Kd.R (Kd.int .i64) 2 w' w.heap.size (fun k => some k ≠ (v1 : Value).ownBlock ∧ some k ≠ (v2 : Value).ownBlock) v0 WH ∧ Kd.R (Kd.int .i64) 2 w' w.heap.size (fun k => some k ≠ (v0 : Value).ownBlock ∧ some k ≠ (v2 : Value).ownBlock) v1 FF ∧ Kd.R (Kd.int .i64) 2 w' w.heap.size (fun k => some k ≠ (v0 : Value).ownBlock ∧ some k ≠ (v1 : Value).ownBlock) v2 SS ∧ Below w.heap.size w w' := by
  have HBX := Aside0.mk hb0
  have HL := Aside0.mk hl
  have V1 := Aside0.mk v1
  have V2 := Aside0.mk v2
  have HT0 := Aside0.mk hr0
  have HT1 := Aside0.mk hr1
  have HT2 := Aside0.mk hr2
  have HT3 := Aside0.mk hr3
  have HT5 := Aside0.mk hr5
  obtain ⟨ke1, hke1⟩ := specEmpty_ev l0 l1 (by have := valid_facts V1.out; omega)
  obtain ⟨ke2, hke2⟩ := specEmpty_ev l2 l3 (by have := valid_facts V2.out; omega)
  obtain ⟨f0, hf0⟩ : ∃ f, f = List.replicate l1.length (-1 : Int) := ⟨_, rfl⟩
  obtain ⟨s0, hs0⟩ : ∃ f, f = List.replicate l3.length (-1 : Int) := ⟨_, rfl⟩
  rw [← hf0] at hke1 hR
  rw [← hs0] at hke2 hR
  have HRES := Aside0.mk hR
  have LF : Aside0 (f0.length = l1.length) := ⟨by rw [hf0]; exact List.length_replicate ..⟩
  have LS : Aside0 (s0.length = l3.length) := ⟨by rw [hs0]; exact List.length_replicate ..⟩
  clear hf0 hs0
  have HE1 := Aside0.mk (hke1 ke1 (Nat.le_refl _))
  have HE2 := Aside0.mk (hke2 ke2 (Nat.le_refl _))
  have M1 : Aside0 (1 ≤ l1.length ∧ l1.length ≤ 6) := ⟨⟨(valid_facts V1.out).1, (valid_facts V1.out).2.1⟩⟩
  have M2 : Aside0 (1 ≤ l3.length ∧ l3.length ≤ 6) := ⟨⟨(valid_facts V2.out).1, (valid_facts V2.out).2.1⟩⟩
  clear hb0 hl v1 v2 hR hr0 hr1 hr2 hr3 hr5 hke1 hke2
  go_enter Try.func65, Try.ntmps65
  go_wp2_with fail
  refine (spec_l03Empty.gen ke1 g0 A0 c0 l0 A1 c1 l1 _ _ #[.slice A0 l0.length c0, .slice A1 l1.length c1, .slice A2 l2.length c2, .slice A3 l3.length c3, .int .i64 0] 53 0 rfl rfl (by decide) (blk_below HBX.out (Below.refl _ _)) (Kd.C_below HT0.out (Below.refl _ _)) hc0 (Kd.C_below HT1.out (Below.refl _ _)) hc1 HE1.out).mono ?_
  rintro e w1 ⟨v8, rfl, hr8, hb1⟩
  obtain ⟨b8, d8, rfl, hd8, lo8, hi8, R8, C8⟩ := lev_new hr8 (by have := LF.out; have := M1.out; omega) (Nat.le_refl _)
  have R8 := Aside0.mk R8
  have HB1 := Aside0.mk hb1
  have D8 := Aside0.mk hd8
  have I8 := Aside0.mk (And.intro lo8 hi8)
  clear hr8 hb1 hd8 lo8 hi8 C8
  go_wp2_with fail
  refine (spec_l03Empty.gen ke2 g0 A2 c2 l2 A3 c3 l3 _ _ #[.slice A0 l0.length c0, .slice A1 l1.length c1, .slice A2 l2.length c2, .slice A3 l3.length c3, .int .i64 0] 53 2 rfl rfl (by decide) (blk_below HBX.out HB1.out) (Kd.C_below HT2.out HB1.out) hc2 (Kd.C_below HT3.out HB1.out) hc3 HE2.out).mono ?_
  rintro e w2 ⟨v9, rfl, hr9, hb2⟩
  obtain ⟨b9, d9, rfl, hd9, lo9, hi9, R9, C9⟩ := lev_new hr9 (by have := LS.out; have := M2.out; omega) HB1.out.size
  have R9 := Aside0.mk R9
  have HB2 := Aside0.mk (below_le HB1.out hb2)
  have R8 := Aside0.mk (R_keep (ok' := fun k => k = b8) R8.out hb2 (fun k h _ => h))
  have D9 := Aside0.mk hd9
  have I9 := Aside0.mk (And.intro lo9 hi9)
  clear hr9 hb2 hd9 lo9 hi9 C9
  go_wp2_with ((with_reducible refine gate_dst (N := 28) rfl ?_); refine Kd.R_lit (Kd.int .i64) _ 2 ?hg (N := 28) ?hd (xs := ([] : List Int)) (inner := []) (ok := fun k => k ≠ b8 ∧ k ≠ b9) (okp := fun _ => False) ?hr ?hp (fun _ hk => hk.elim) ⟨by have := I8.out; have := I9.out; omega, by have := I9.out; omega⟩ (Below.refl _ _) (Nat.le_refl _) (by simp) ?_; (case hd => rfl); (case hg => rfl); (case hr => first | (go_simp; done) | (go_simp; rfl)); (case hp => exact (Reps.none _ _)); intro v10 w3 ho4 hb hg_ hnew_; have HO := Aside0.mk ho4; have HB3 := Aside0.mk hb; clear hg_ hnew_ ho4 hb)
  have R10 : Aside0 (Kd.R (Kd.int .i64) 2 w3 w.heap.size (fun k => k ≠ b8 ∧ k ≠ b9) v10 []) := ⟨Kd.R_lower HO.out HB2.out.size⟩
  have R8 := Aside0.mk (R_keep (ok' := fun k => k = b8) R8.out HB3.out (fun k h _ => h))
  have R9 := Aside0.mk (R_keep (ok' := fun k => k = b9) R9.out HB3.out (fun k h _ => h))
  have HB3 := Aside0.mk (below_le HB2.out HB3.out)
  have N89 : Aside0 (b8 ≠ b9) := ⟨by have := I8.out; have := I9.out; omega⟩
  clear HO HB2 HB1 HE1 HE2 I8 I9
  go_loopg [8, 9, 10, 11, 12] us.length (fun gg s8 s9 s10 s11 s12 wr => ∃ (kk b8 b9 d8 d9 : Nat) (wh f s : List Int) (b : Int), kk ≤ us.length ∧ us.length - kk ≤ gg ∧ s12 = .int .i64 kk ∧ s11 = .int .i64 b ∧ s8 = .slice (some ⟨b8, 0, none⟩) f.length d8 ∧ s9 = .slice (some ⟨b9, 0, none⟩) s.length d9 ∧ Aside0 (stackV l0 l1 l2 l3 0 (us.drop kk) wh f s b = (WH, FF, SS, BB)) ∧ Aside0 (Kd.R (Kd.int .i64) 2 wr w.heap.size (fun k => k = b8) s8 f) ∧ Aside0 (Kd.R (Kd.int .i64) 2 wr w.heap.size (fun k => k = b9) s9 s) ∧ Aside0 (Kd.R (Kd.int .i64) 2 wr w.heap.size (fun k => k ≠ b8 ∧ k ≠ b9) s10 wh) ∧ Aside0 (f.length = l1.length ∧ s.length = l3.length ∧ f.length ≤ d8 ∧ s.length ≤ d9) ∧ Aside0 (wh.length ≤ kk ∧ 0 ≤ b ∧ b ≤ kk ∧ b8 ≠ b9) ∧ Aside0 (Below w.heap.size w wr))
  case atStart => exact ⟨0, b8, b9, d8, d9, [], _, _, 0, Nat.zero_le _, by omega, rfl, rfl, rfl, rfl, ⟨by simpa using HRES.out⟩, R8, R9, R10, ⟨LF.out, LS.out, D8.out, D9.out⟩, ⟨by simp, by omega, by omega, N89.out⟩, HB3⟩
  case round =>
    clear R8 R9 R10 HB3 HRES D8 D9 N89 LF LS
    obtain ⟨kk, b8, b9, d8, d9, wh, f, s, b, hkk, hg, rfl, rfl, rfl, rfl, HRES, R8, R9, R10, LN, NB, BW⟩ := hrel
    by_cases hlt : kk < us.length
    · skip
      have hltz : (kk : Int) < (us.length : Int) := by omega
      obtain ⟨x, hx⟩ : ∃ x, x = us.getD kk 0 := ⟨_, rfl⟩
      obtain ⟨adU, eU, hxU⟩ := Kd.at_int (Kd.C_below HT5.out BW.out) (kk : Int) (by omega) hltz
      cases eU
      have ex : rd us (kk : Int) = x := by rw [hx]; rfl
      rw [ex, Int.toNat_natCast] at hxU
      have HRS := HRES.out
      rw [drop_cons us kk 0 hlt, ← hx] at HRS
      unfold stackV at HRS
      replace HRS := Aside0.mk HRS
      clear HRES ex hx
      obtain ⟨_, _, e8, _, C8⟩ := Kd.R_reads R8.out
      cases e8
      obtain ⟨_, _, e9, _, C9⟩ := Kd.R_reads R9.out
      cases e9
      have C8 := Aside0.mk C8
      have C9 := Aside0.mk C9
      have E8 : Aside0 (f.length ≤ d8) := ⟨LN.out.2.2.1⟩
      have E9 : Aside0 (s.length ≤ d9) := ⟨LN.out.2.2.2⟩
      have Q8 : Aside0 (f.length = l1.length) := ⟨LN.out.1⟩
      have Q9 : Aside0 (s.length = l3.length) := ⟨LN.out.2.1⟩
      have L8 : Aside0 (1 ≤ f.length ∧ f.length ≤ 6) := ⟨by have := Q8.out; have := M1.out; omega⟩
      have L9 : Aside0 (1 ≤ s.length ∧ s.length ≤ 6) := ⟨by have := Q9.out; have := M2.out; omega⟩
      obtain ⟨q8, hq8⟩ : ∃ q, hasB f x = q := ⟨_, rfl⟩
      have HB8 := Aside0.mk hq8
      rw [hq8] at HRS
      clear hq8 LN
      cases q8 with
      | true =>
        replace HRS := HRS.out
        simp only [if_true] at HRS
        replace HRS := Aside0.mk HRS
        obtain ⟨kq, hkq⟩ := specHas_ev f x (by have := L8.out; omega)
        have HQ : Aside0 (spec_l00Has.f kq f x = some true) := ⟨(hkq kq (Nat.le_refl _)).trans (by rw [show (f.any fun y => decide (y = x)) = true from HB8.out])⟩
        clear hkq
        go_wp2_with fail
        refine (spec_l00Has.calls kq (some ⟨b8, 0, none⟩) d8 f x true _ C8.out E8.out HQ.out).mono ?_
        rintro e wq1 ⟨rfl, hd⟩
        have hb := hd.below
        have R8 := Aside0.mk (R_keep (ok' := fun k => k = b8) R8.out hb (fun k h _ => h))
        have C8 := Aside0.mk (Kd.C_below C8.out hb)
        have R9 := Aside0.mk (R_keep (ok' := fun k => k = b9) R9.out hb (fun k h _ => h))
        have C9 := Aside0.mk (Kd.C_below C9.out hb)
        have R10 := Aside0.mk (R_keep (ok' := fun k => k ≠ b8 ∧ k ≠ b9) R10.out hb (fun k h _ => h))
        have BW := Aside0.mk (below_le BW.out hb)
        clear hb hd HQ kq
        have AL : Aside0 ((wh.length + 1) * 8 ≤ 140737488355328) := ⟨by have := NB.out; have := HL.out; omega⟩
        go_wp2_with ((with_reducible refine gate_builtin (b := .append) (xs := #[.tmp 42, .tmp 43]) rfl ?_); at_builtin; refine Kd.R_append (Kd.int .i64) (w0 := w) w.heap.size rfl (.tmp 42) (.tmp 43) 24 2 (.int .i64 0) 8 rfl Try.underlying24 svInfo rfl (by decide) (by omega) u10 wh 1 [.int .i64 1] (fun k => k ≠ b8 ∧ k ≠ b9) (fun _ => False) rfl rfl ?aP (fun _ hk => hk.elim) ?aF ?aO ?aB ?aS ?aL ?_; (case aP => exact rfl); (case aB => exact BW.out); (case aF => exact (fun k hk => ⟨by have := lev_lt R8.out (by have := L8.out; omega); omega, by have := lev_lt R9.out (by have := L9.out; omega); omega⟩)); (case aO => exact R10.out); (case aS => exact BW.out.size); (case aL => exact AL.out); intro v10 wq2 ho hb hg hat; have HO := Aside0.mk ho; have HB := Aside0.mk hb; have R8' := Aside0.mk (Kd.R_grown2 R8.out rfl hg (fun k hk e => (R10.out.1 k hk).1 (Option.some.inj (show some k = some b8 from e)))); have R9' := Aside0.mk (Kd.R_grown2 R9.out rfl hg (fun k hk e => (R10.out.1 k hk).2 (Option.some.inj (show some k = some b9 from e)))); clear ho hb hg hat)
        have R8 := R8'
        have R9 := R9'
        have R10 := HO
        have BW := HB
        clear R8' R9' HO HB AL
        obtain ⟨_, _, e8, _, C8⟩ := Kd.R_reads R8.out
        cases e8
        obtain ⟨_, _, e9, _, C9⟩ := Kd.R_reads R9.out
        cases e9
        have C8 := Aside0.mk C8
        have C9 := Aside0.mk C9
        go_wp2_with fail
        refine (spec_l03Step.gen g0 A0 c0 l0 A1 c1 l1 (some ⟨b8, 0, none⟩) d8 f x _ #[.slice A0 l0.length c0, .slice A1 l1.length c1, .slice A2 l2.length c2, .slice A3 l3.length c3, .int .i64 0] 53 0 rfl rfl (blk_below HBX.out BW.out) (Kd.C_below HT0.out BW.out) hc0 (Kd.C_below HT1.out BW.out) hc1 C8.out E8.out (okStep_valid V1.out f Q8.out x)).mono ?_
        rintro e wq3 ⟨v, rfl, hr, hb⟩
        have hlen : (stepV l0 l1 f x).1.length = l1.length := by exact stepV_length V1.out f Q8.out x
        obtain ⟨ln3, hln⟩ : ∃ l, l = (stepV l0 l1 f x).1 := ⟨_, rfl⟩
        rw [← hln] at hr hlen
        obtain ⟨bn3, dn3, rfl, hdd, hlo, hhi, hRn, hCn⟩ := lev_new hr (by rw [hlen]; have := M1.out; omega) BW.out.size
        have o9_ := lev_lt R9.out (by have := L9.out; omega)
        have R9 := Aside0.mk (R_keep (ok' := fun k => k = b9) R9.out hb (fun k h _ => h))
        have C9 := Aside0.mk (Kd.C_below C9.out hb)
        have R8 := Aside0.mk hRn
        have C8 := Aside0.mk hCn
        have E8 := Aside0.mk hdd
        have L8 : Aside0 (1 ≤ ln3.length ∧ ln3.length ≤ 6) := ⟨by rw [hlen]; exact M1.out⟩
        have Q8 : Aside0 (ln3.length = l1.length) := ⟨hlen⟩
        have R10 := Aside0.mk (R_keep (ok' := fun k => k ≠ bn3 ∧ k ≠ b9) R10.out hb (fun k h hk => ⟨by omega, h.2⟩))
        have N89 : Aside0 (bn3 ≠ b9) := ⟨by omega⟩
        have BW := Aside0.mk (below_le BW.out hb)
        have HL3 := Aside0.mk hln
        clear hb hr hdd hlo hhi hRn hCn hlen hln o9_
        go_wp2_with fail
        go_roundg (us.length - (kk + 1))
        case measure => omega
        case rel =>
          refine ⟨kk + 1, bn3, b9, dn3, d9, (wh ++ [1]), ln3, s, b, by omega, by omega, by rw [wrap_succ hlt (by have := HL.out; omega)], by rfl, rfl, rfl, ⟨?_⟩, R8, R9, R10, ⟨Q8.out, Q9.out, E8.out, E9.out⟩, ⟨by have := NB.out; simp only [List.length_append, List.length_singleton]; omega, by have := NB.out; omega, by have := NB.out; omega, N89.out⟩, BW⟩
          rw [HL3.out]; exact HRS.out
      | false =>
        obtain ⟨q9, hq9⟩ : ∃ q, hasB s x = q := ⟨_, rfl⟩
        have HB9 := Aside0.mk hq9
        rw [hq9] at HRS
        clear hq9
        cases q9 with
        | true =>
          replace HRS := HRS.out
          simp only [Bool.false_eq_true, if_false, if_true, show ¬ ((0 : Int) = 2) by decide, show ¬ ((0 : Int) = 1) by decide, false_and] at HRS
          replace HRS := Aside0.mk HRS
          obtain ⟨kq, hkq⟩ := specHas_ev f x (by have := L8.out; omega)
          have HQ : Aside0 (spec_l00Has.f kq f x = some false) := ⟨(hkq kq (Nat.le_refl _)).trans (by rw [show (f.any fun y => decide (y = x)) = false from HB8.out])⟩
          clear hkq
          go_wp2_with fail
          refine (spec_l00Has.calls kq (some ⟨b8, 0, none⟩) d8 f x false _ C8.out E8.out HQ.out).mono ?_
          rintro e wq1 ⟨rfl, hd⟩
          have hb := hd.below
          have R8 := Aside0.mk (R_keep (ok' := fun k => k = b8) R8.out hb (fun k h _ => h))
          have C8 := Aside0.mk (Kd.C_below C8.out hb)
          have R9 := Aside0.mk (R_keep (ok' := fun k => k = b9) R9.out hb (fun k h _ => h))
          have C9 := Aside0.mk (Kd.C_below C9.out hb)
          have R10 := Aside0.mk (R_keep (ok' := fun k => k ≠ b8 ∧ k ≠ b9) R10.out hb (fun k h _ => h))
          have BW := Aside0.mk (below_le BW.out hb)
          clear hb hd HQ kq
          obtain ⟨kq, hkq⟩ := specHas_ev s x (by have := L9.out; omega)
          have HQ : Aside0 (spec_l00Has.f kq s x = some true) := ⟨(hkq kq (Nat.le_refl _)).trans (by rw [show (s.any fun y => decide (y = x)) = true from HB9.out])⟩
          clear hkq
          go_wp2_with fail
          refine (spec_l00Has.calls kq (some ⟨b9, 0, none⟩) d9 s x true _ C9.out E9.out HQ.out).mono ?_
          rintro e wq2 ⟨rfl, hd⟩
          have hb := hd.below
          have R8 := Aside0.mk (R_keep (ok' := fun k => k = b8) R8.out hb (fun k h _ => h))
          have C8 := Aside0.mk (Kd.C_below C8.out hb)
          have R9 := Aside0.mk (R_keep (ok' := fun k => k = b9) R9.out hb (fun k h _ => h))
          have C9 := Aside0.mk (Kd.C_below C9.out hb)
          have R10 := Aside0.mk (R_keep (ok' := fun k => k ≠ b8 ∧ k ≠ b9) R10.out hb (fun k h _ => h))
          have BW := Aside0.mk (below_le BW.out hb)
          clear hb hd HQ kq
          obtain ⟨gone, hgo⟩ : ∃ g, g = s.getD (s.length - 1) 0 := ⟨_, rfl⟩
          have HGO := Aside0.mk hgo
          clear hgo
          have n1 : 0 ≤ (s.length : Int) - 1 := by have := L9.out; omega
          have n2 : (s.length : Int) - 1 < (s.length : Int) := by omega
          have n3 : ((s.length : Int) - 1).toNat = s.length - 1 := by omega
          have n5 := L9.out.1
          have n6 := L9.out.2
          have n4 : wrap64 ((s.length : Int) - 1) = (s.length : Int) - 1 := wrap_id (by omega) (by omega)
          have AL : Aside0 ((wh.length + 1) * 8 ≤ 140737488355328) := ⟨by have := NB.out; have := HL.out; omega⟩
          go_wp2_with ((with_reducible refine gate_builtin (b := .append) (xs := #[.tmp 57, .tmp 58]) rfl ?_); at_builtin; refine Kd.R_append (Kd.int .i64) (w0 := w) w.heap.size rfl (.tmp 57) (.tmp 58) 24 2 (.int .i64 0) 8 rfl Try.underlying24 svInfo rfl (by decide) (by omega) u10 wh 2 [.int .i64 2] (fun k => k ≠ b8 ∧ k ≠ b9) (fun _ => False) rfl rfl ?aP (fun _ hk => hk.elim) ?aF ?aO ?aB ?aS ?aL ?_; (case aP => exact rfl); (case aB => exact BW.out); (case aF => exact (fun k hk => ⟨by have := lev_lt R8.out (by have := L8.out; omega); omega, by have := lev_lt R9.out (by have := L9.out; omega); omega⟩)); (case aO => exact R10.out); (case aS => exact BW.out.size); (case aL => exact AL.out); intro v10 wq3 ho hb hg hat; have HO := Aside0.mk ho; have HB := Aside0.mk hb; have R8' := Aside0.mk (Kd.R_grown2 R8.out rfl hg (fun k hk e => (R10.out.1 k hk).1 (Option.some.inj (show some k = some b8 from e)))); have R9' := Aside0.mk (Kd.R_grown2 R9.out rfl hg (fun k hk e => (R10.out.1 k hk).2 (Option.some.inj (show some k = some b9 from e)))); have qm : wq3.cell? ⟨g0, 4, none⟩ = some (.int .i64 0) := (blk_cell (blk_below HBX.out HB.out) 4).trans rfl; have lc := lev_cell R9'.out (show s.length - 1 < s.length by have := L9.out; omega); rw [← HGO.out] at lc; clear ho hb hg hat)
          have R8 := R8'
          have R9 := R9'
          have R10 := HO
          have BW := HB
          clear R8' R9' HO HB AL
          obtain ⟨_, _, e8, _, C8⟩ := Kd.R_reads R8.out
          cases e8
          obtain ⟨_, _, e9, _, C9⟩ := Kd.R_reads R9.out
          cases e9
          have C8 := Aside0.mk C8
          have C9 := Aside0.mk C9
          obtain ⟨hit, hhit⟩ : ∃ h, (stepV l2 l3 s x).2 = h := ⟨_, rfl⟩
          have HIT := Aside0.mk hhit
          clear hhit
          go_wp2_with fail
          refine (spec_l03Step.gen g0 A2 c2 l2 A3 c3 l3 (some ⟨b9, 0, none⟩) d9 s x _ #[.slice A0 l0.length c0, .slice A1 l1.length c1, .slice A2 l2.length c2, .slice A3 l3.length c3, .int .i64 0] 53 2 rfl rfl (blk_below HBX.out BW.out) (Kd.C_below HT2.out BW.out) hc2 (Kd.C_below HT3.out BW.out) hc3 C9.out E9.out (okStep_valid V2.out s Q9.out x)).mono ?_
          rintro e wq4 ⟨v, rfl, hr, hb⟩
          have hlen : (stepV l2 l3 s x).1.length = l3.length := by exact stepV_length V2.out s Q9.out x
          obtain ⟨ln4, hln⟩ : ∃ l, l = (stepV l2 l3 s x).1 := ⟨_, rfl⟩
          rw [← hln] at hr hlen
          obtain ⟨bn4, dn4, rfl, hdd, hlo, hhi, hRn, hCn⟩ := lev_new hr (by rw [hlen]; have := M2.out; omega) BW.out.size
          have o8_ := lev_lt R8.out (by have := L8.out; omega)
          have R8 := Aside0.mk (R_keep (ok' := fun k => k = b8) R8.out hb (fun k h _ => h))
          have C8 := Aside0.mk (Kd.C_below C8.out hb)
          have R9 := Aside0.mk hRn
          have C9 := Aside0.mk hCn
          have E9 := Aside0.mk hdd
          have L9 : Aside0 (1 ≤ ln4.length ∧ ln4.length ≤ 6) := ⟨by rw [hlen]; exact M2.out⟩
          have Q9 : Aside0 (ln4.length = l3.length) := ⟨hlen⟩
          have R10 := Aside0.mk (R_keep (ok' := fun k => k ≠ b8 ∧ k ≠ bn4) R10.out hb (fun k h hk => ⟨h.1, by omega⟩))
          have N89 : Aside0 (b8 ≠ bn4) := ⟨by omega⟩
          have BW := Aside0.mk (below_le BW.out hb)
          have HL4 := Aside0.mk hln
          clear hb hr hdd hlo hhi hRn hCn hlen hln o8_
          simp only [HIT.out]
          have qm : wq4.cell? ⟨g0, 4, none⟩ = some (.int .i64 0) := (blk_cell (blk_below HBX.out BW.out) 4).trans rfl
          go_wp2_with fail
          refine (spec_l03Step.gen g0 A0 c0 l0 A1 c1 l1 (some ⟨b8, 0, none⟩) d8 f x _ #[.slice A0 l0.length c0, .slice A1 l1.length c1, .slice A2 l2.length c2, .slice A3 l3.length c3, .int .i64 0] 53 0 rfl rfl (blk_below HBX.out BW.out) (Kd.C_below HT0.out BW.out) hc0 (Kd.C_below HT1.out BW.out) hc1 C8.out E8.out (okStep_valid V1.out f Q8.out x)).mono ?_
          rintro e wq5 ⟨v, rfl, hr, hb⟩
          have hlen : (stepV l0 l1 f x).1.length = l1.length := by exact stepV_length V1.out f Q8.out x
          obtain ⟨ln5, hln⟩ : ∃ l, l = (stepV l0 l1 f x).1 := ⟨_, rfl⟩
          rw [← hln] at hr hlen
          obtain ⟨bn5, dn5, rfl, hdd, hlo, hhi, hRn, hCn⟩ := lev_new hr (by rw [hlen]; have := M1.out; omega) BW.out.size
          have o9_ := lev_lt R9.out (by have := L9.out; omega)
          have R9 := Aside0.mk (R_keep (ok' := fun k => k = bn4) R9.out hb (fun k h _ => h))
          have C9 := Aside0.mk (Kd.C_below C9.out hb)
          have R8 := Aside0.mk hRn
          have C8 := Aside0.mk hCn
          have E8 := Aside0.mk hdd
          have L8 : Aside0 (1 ≤ ln5.length ∧ ln5.length ≤ 6) := ⟨by rw [hlen]; exact M1.out⟩
          have Q8 : Aside0 (ln5.length = l1.length) := ⟨hlen⟩
          have R10 := Aside0.mk (R_keep (ok' := fun k => k ≠ bn5 ∧ k ≠ bn4) R10.out hb (fun k h hk => ⟨by omega, h.2⟩))
          have N89 : Aside0 (bn5 ≠ bn4) := ⟨by omega⟩
          have BW := Aside0.mk (below_le BW.out hb)
          have HL5 := Aside0.mk hln
          clear hb hr hdd hlo hhi hRn hCn hlen hln o9_
          go_wp2_with fail
          go_roundg (us.length - (kk + 1))
          case measure => omega
          case rel =>
            refine ⟨kk + 1, bn5, bn4, dn5, dn4, (wh ++ [2]), ln5, ln4, b, by omega, by omega, by rw [wrap_succ hlt (by have := HL.out; omega)], by rfl, rfl, rfl, ⟨?_⟩, R8, R9, R10, ⟨Q8.out, Q9.out, E8.out, E9.out⟩, ⟨by have := NB.out; simp only [List.length_append, List.length_singleton]; omega, by have := NB.out; omega, by have := NB.out; omega, N89.out⟩, BW⟩
            rw [HL5.out, HL4.out]; exact HRS.out
        | false =>
          replace HRS := HRS.out
          simp only [Bool.false_eq_true, if_false, if_true, show ¬ ((0 : Int) = 2) by decide, show ¬ ((0 : Int) = 1) by decide, false_and] at HRS
          replace HRS := Aside0.mk HRS
          obtain ⟨kq, hkq⟩ := specHas_ev f x (by have := L8.out; omega)
          have HQ : Aside0 (spec_l00Has.f kq f x = some false) := ⟨(hkq kq (Nat.le_refl _)).trans (by rw [show (f.any fun y => decide (y = x)) = false from HB8.out])⟩
          clear hkq
          go_wp2_with fail
          refine (spec_l00Has.calls kq (some ⟨b8, 0, none⟩) d8 f x false _ C8.out E8.out HQ.out).mono ?_
          rintro e wq1 ⟨rfl, hd⟩
          have hb := hd.below
          have R8 := Aside0.mk (R_keep (ok' := fun k => k = b8) R8.out hb (fun k h _ => h))
          have C8 := Aside0.mk (Kd.C_below C8.out hb)
          have R9 := Aside0.mk (R_keep (ok' := fun k => k = b9) R9.out hb (fun k h _ => h))
          have C9 := Aside0.mk (Kd.C_below C9.out hb)
          have R10 := Aside0.mk (R_keep (ok' := fun k => k ≠ b8 ∧ k ≠ b9) R10.out hb (fun k h _ => h))
          have BW := Aside0.mk (below_le BW.out hb)
          clear hb hd HQ kq
          obtain ⟨kq, hkq⟩ := specHas_ev s x (by have := L9.out; omega)
          have HQ : Aside0 (spec_l00Has.f kq s x = some false) := ⟨(hkq kq (Nat.le_refl _)).trans (by rw [show (s.any fun y => decide (y = x)) = false from HB9.out])⟩
          clear hkq
          go_wp2_with fail
          refine (spec_l00Has.calls kq (some ⟨b9, 0, none⟩) d9 s x false _ C9.out E9.out HQ.out).mono ?_
          rintro e wq2 ⟨rfl, hd⟩
          have hb := hd.below
          have R8 := Aside0.mk (R_keep (ok' := fun k => k = b8) R8.out hb (fun k h _ => h))
          have C8 := Aside0.mk (Kd.C_below C8.out hb)
          have R9 := Aside0.mk (R_keep (ok' := fun k => k = b9) R9.out hb (fun k h _ => h))
          have C9 := Aside0.mk (Kd.C_below C9.out hb)
          have R10 := Aside0.mk (R_keep (ok' := fun k => k ≠ b8 ∧ k ≠ b9) R10.out hb (fun k h _ => h))
          have BW := Aside0.mk (below_le BW.out hb)
          clear hb hd HQ kq
          obtain ⟨gone, hgo⟩ : ∃ g, g = s.getD (s.length - 1) 0 := ⟨_, rfl⟩
          have HGO := Aside0.mk hgo
          clear hgo
          have n1 : 0 ≤ (s.length : Int) - 1 := by have := L9.out; omega
          have n2 : (s.length : Int) - 1 < (s.length : Int) := by omega
          have n3 : ((s.length : Int) - 1).toNat = s.length - 1 := by omega
          have n5 := L9.out.1
          have n6 := L9.out.2
          have n4 : wrap64 ((s.length : Int) - 1) = (s.length : Int) - 1 := wrap_id (by omega) (by omega)
          have AL : Aside0 ((wh.length + 1) * 8 ≤ 140737488355328) := ⟨by have := NB.out; have := HL.out; omega⟩
          go_wp2_with ((with_reducible refine gate_builtin (b := .append) (xs := #[.tmp 60, .tmp 61]) rfl ?_); at_builtin; refine Kd.R_append (Kd.int .i64) (w0 := w) w.heap.size rfl (.tmp 60) (.tmp 61) 24 2 (.int .i64 0) 8 rfl Try.underlying24 svInfo rfl (by decide) (by omega) u10 wh 3 [.int .i64 3] (fun k => k ≠ b8 ∧ k ≠ b9) (fun _ => False) rfl rfl ?aP (fun _ hk => hk.elim) ?aF ?aO ?aB ?aS ?aL ?_; (case aP => exact rfl); (case aB => exact BW.out); (case aF => exact (fun k hk => ⟨by have := lev_lt R8.out (by have := L8.out; omega); omega, by have := lev_lt R9.out (by have := L9.out; omega); omega⟩)); (case aO => exact R10.out); (case aS => exact BW.out.size); (case aL => exact AL.out); intro v10 wq3 ho hb hg hat; have HO := Aside0.mk ho; have HB := Aside0.mk hb; have R8' := Aside0.mk (Kd.R_grown2 R8.out rfl hg (fun k hk e => (R10.out.1 k hk).1 (Option.some.inj (show some k = some b8 from e)))); have R9' := Aside0.mk (Kd.R_grown2 R9.out rfl hg (fun k hk e => (R10.out.1 k hk).2 (Option.some.inj (show some k = some b9 from e)))); have qm : wq3.cell? ⟨g0, 4, none⟩ = some (.int .i64 0) := (blk_cell (blk_below HBX.out HB.out) 4).trans rfl; have lc := lev_cell R9'.out (show s.length - 1 < s.length by have := L9.out; omega); rw [← HGO.out] at lc; clear ho hb hg hat)
          have R8 := R8'
          have R9 := R9'
          have R10 := HO
          have BW := HB
          clear R8' R9' HO HB AL
          obtain ⟨_, _, e8, _, C8⟩ := Kd.R_reads R8.out
          cases e8
          obtain ⟨_, _, e9, _, C9⟩ := Kd.R_reads R9.out
          cases e9
          have C8 := Aside0.mk C8
          have C9 := Aside0.mk C9
          obtain ⟨hit, hhit⟩ : ∃ h, (stepV l2 l3 s x).2 = h := ⟨_, rfl⟩
          have HIT := Aside0.mk hhit
          clear hhit
          go_wp2_with fail
          refine (spec_l03Step.gen g0 A2 c2 l2 A3 c3 l3 (some ⟨b9, 0, none⟩) d9 s x _ #[.slice A0 l0.length c0, .slice A1 l1.length c1, .slice A2 l2.length c2, .slice A3 l3.length c3, .int .i64 0] 53 2 rfl rfl (blk_below HBX.out BW.out) (Kd.C_below HT2.out BW.out) hc2 (Kd.C_below HT3.out BW.out) hc3 C9.out E9.out (okStep_valid V2.out s Q9.out x)).mono ?_
          rintro e wq4 ⟨v, rfl, hr, hb⟩
          have hlen : (stepV l2 l3 s x).1.length = l3.length := by exact stepV_length V2.out s Q9.out x
          obtain ⟨ln4, hln⟩ : ∃ l, l = (stepV l2 l3 s x).1 := ⟨_, rfl⟩
          rw [← hln] at hr hlen
          obtain ⟨bn4, dn4, rfl, hdd, hlo, hhi, hRn, hCn⟩ := lev_new hr (by rw [hlen]; have := M2.out; omega) BW.out.size
          have o8_ := lev_lt R8.out (by have := L8.out; omega)
          have R8 := Aside0.mk (R_keep (ok' := fun k => k = b8) R8.out hb (fun k h _ => h))
          have C8 := Aside0.mk (Kd.C_below C8.out hb)
          have R9 := Aside0.mk hRn
          have C9 := Aside0.mk hCn
          have E9 := Aside0.mk hdd
          have L9 : Aside0 (1 ≤ ln4.length ∧ ln4.length ≤ 6) := ⟨by rw [hlen]; exact M2.out⟩
          have Q9 : Aside0 (ln4.length = l3.length) := ⟨hlen⟩
          have R10 := Aside0.mk (R_keep (ok' := fun k => k ≠ b8 ∧ k ≠ bn4) R10.out hb (fun k h hk => ⟨h.1, by omega⟩))
          have N89 : Aside0 (b8 ≠ bn4) := ⟨by omega⟩
          have BW := Aside0.mk (below_le BW.out hb)
          have HL4 := Aside0.mk hln
          clear hb hr hdd hlo hhi hRn hCn hlen hln o8_
          simp only [HIT.out]
          have qm : wq4.cell? ⟨g0, 4, none⟩ = some (.int .i64 0) := (blk_cell (blk_below HBX.out BW.out) 4).trans rfl
          go_wp2_with fail
          refine (spec_l03Step.gen g0 A0 c0 l0 A1 c1 l1 (some ⟨b8, 0, none⟩) d8 f x _ #[.slice A0 l0.length c0, .slice A1 l1.length c1, .slice A2 l2.length c2, .slice A3 l3.length c3, .int .i64 0] 53 0 rfl rfl (blk_below HBX.out BW.out) (Kd.C_below HT0.out BW.out) hc0 (Kd.C_below HT1.out BW.out) hc1 C8.out E8.out (okStep_valid V1.out f Q8.out x)).mono ?_
          rintro e wq5 ⟨v, rfl, hr, hb⟩
          have hlen : (stepV l0 l1 f x).1.length = l1.length := by exact stepV_length V1.out f Q8.out x
          obtain ⟨ln5, hln⟩ : ∃ l, l = (stepV l0 l1 f x).1 := ⟨_, rfl⟩
          rw [← hln] at hr hlen
          obtain ⟨bn5, dn5, rfl, hdd, hlo, hhi, hRn, hCn⟩ := lev_new hr (by rw [hlen]; have := M1.out; omega) BW.out.size
          have o9_ := lev_lt R9.out (by have := L9.out; omega)
          have R9 := Aside0.mk (R_keep (ok' := fun k => k = bn4) R9.out hb (fun k h _ => h))
          have C9 := Aside0.mk (Kd.C_below C9.out hb)
          have R8 := Aside0.mk hRn
          have C8 := Aside0.mk hCn
          have E8 := Aside0.mk hdd
          have L8 : Aside0 (1 ≤ ln5.length ∧ ln5.length ≤ 6) := ⟨by rw [hlen]; exact M1.out⟩
          have Q8 : Aside0 (ln5.length = l1.length) := ⟨hlen⟩
          have R10 := Aside0.mk (R_keep (ok' := fun k => k ≠ bn5 ∧ k ≠ bn4) R10.out hb (fun k h hk => ⟨by omega, h.2⟩))
          have N89 : Aside0 (bn5 ≠ bn4) := ⟨by omega⟩
          have BW := Aside0.mk (below_le BW.out hb)
          have HL5 := Aside0.mk hln
          clear hb hr hdd hlo hhi hRn hCn hlen hln o9_
          go_wp2_with fail
          go_roundg (us.length - (kk + 1))
          case measure => omega
          case rel =>
            refine ⟨kk + 1, bn5, bn4, dn5, dn4, (wh ++ [3]), ln5, ln4, b, by omega, by omega, by rw [wrap_succ hlt (by have := HL.out; omega)], by rfl, rfl, rfl, ⟨?_⟩, R8, R9, R10, ⟨Q8.out, Q9.out, E8.out, E9.out⟩, ⟨by have := NB.out; simp only [List.length_append, List.length_singleton]; omega, by have := NB.out; omega, by have := NB.out; omega, N89.out⟩, BW⟩
            rw [HL5.out, HL4.out]; exact HRS.out
    · have hltz : ¬ (kk : Int) < (us.length : Int) := by omega
      obtain rfl : kk = us.length := by omega
      have HR := HRES.out
      rw [List.drop_length] at HR
      simp only [stackV, Prod.mk.injEq] at HR
      obtain ⟨rfl, rfl, rfl, rfl⟩ := HR
      clear HRES
      go_wp2_with fail
      (try simp only [Exit.inBlock, Exit.then])
      refine bodyPost_ret (results_tmp4 rfl _ _) rfl ?_
      refine ⟨_, _, _, rfl, ?_, ?_, ?_, BW.out⟩
      · exact Kd.R_mono R10.out (fun k hk => ⟨fun e => hk.1 (Option.some.inj (show some k = some b8 from e)), fun e => hk.2 (Option.some.inj (show some k = some b9 from e))⟩)
      · exact Kd.R_mono R8.out (fun k hk => ⟨fun e => (R10.out.1 k e.symm).1 hk, fun e => NB.out.2.2.2 (hk.symm.trans (Option.some.inj (show some k = some b9 from e)))⟩)
      · exact Kd.R_mono R9.out (fun k hk => ⟨fun e => (R10.out.1 k e.symm).2 hk, fun e => NB.out.2.2.2 ((Option.some.inj (show some k = some b8 from e)).symm.trans hk)⟩)
set_option maxHeartbeats 4000000 in
set_option maxRecDepth 100000 in
theorem xStack1 (g0 : Nat) (A0 : Option Addr) (c0 : Nat) (l0 : List (List Int)) (A1 : Option Addr) (c1 : Nat) (l1 : List Int) (A2 : Option Addr) (c2 : Nat) (l2 : List (List Int)) (A3 : Option Addr) (c3 : Nat) (l3 : List Int) (A5 : Option Addr) (c5 : Nat) (us : List Int) (w : World) (hb0 : w.heap[g0]? = some (.cells #[.slice A0 l0.length c0, .slice A1 l1.length c1, .slice A2 l2.length c2, .slice A3 l3.length c3, .int .i64 1] 53 (0, 0))) (hr0 : Kd.C (Kd.slice 2 (Kd.int .i64)) w A0 l0.length l0) (hc0 : l0.length ≤ c0) (hr1 : Kd.C (Kd.int .i64) w A1 l1.length l1) (hc1 : l1.length ≤ c1) (hr2 : Kd.C (Kd.slice 2 (Kd.int .i64)) w A2 l2.length l2) (hc2 : l2.length ≤ c2) (hr3 : Kd.C (Kd.int .i64) w A3 l3.length l3) (hc3 : l3.length ≤ c3) (hr5 : Kd.C (Kd.int .i64) w A5 us.length us) (hc5 : us.length ≤ c5) (hl : us.length ≤ 1048576) (v1 : validB l0 l1 = true) (v2 : validB l2 l3 = true) (WH FF SS : List Int) (BB : Int) (hR : stackV l0 l1 l2 l3 1 us [] (List.replicate l1.length (-1)) (List.replicate l3.length (-1)) 0 = (WH, FF, SS, BB)) :
    Calls Try.prog 65 #[.pointer (some ⟨g0, 0, none⟩), .slice A5 us.length c5] w fun e w' => ∃ v0 v1 v2, e = .returned (.tuple #[v0, v1, v2, .int .i64 BB]) ∧ Kd.R (Kd.int .i64) 2 w' w.heap.size (fun k => some k ≠ (v1 : Value).ownBlock ∧ some k ≠ (v2 : Value).ownBlock) v0 WH ∧ Kd.R (Kd.int .i64) 2 w' w.heap.size (fun k => some k ≠ (v0 : Value).ownBlock ∧ some k ≠ (v2 : Value).ownBlock) v1 FF ∧ Kd.R (Kd.int .i64) 2 w' w.heap.size (fun k => some k ≠ (v0 : Value).ownBlock ∧ some k ≠ (v1 : Value).ownBlock) v2 SS ∧ Below w.heap.size w w' := by
  have HBX := Aside0.mk hb0
  have HL := Aside0.mk hl
  have V1 := Aside0.mk v1
  have V2 := Aside0.mk v2
  have HT0 := Aside0.mk hr0
  have HT1 := Aside0.mk hr1
  have HT2 := Aside0.mk hr2
  have HT3 := Aside0.mk hr3
  have HT5 := Aside0.mk hr5
  obtain ⟨ke1, hke1⟩ := specEmpty_ev l0 l1 (by have := valid_facts V1.out; omega)
  obtain ⟨ke2, hke2⟩ := specEmpty_ev l2 l3 (by have := valid_facts V2.out; omega)
  obtain ⟨f0, hf0⟩ : ∃ f, f = List.replicate l1.length (-1 : Int) := ⟨_, rfl⟩
  obtain ⟨s0, hs0⟩ : ∃ f, f = List.replicate l3.length (-1 : Int) := ⟨_, rfl⟩
  rw [← hf0] at hke1 hR
  rw [← hs0] at hke2 hR
  have HRES := Aside0.mk hR
  have LF : Aside0 (f0.length = l1.length) := ⟨by rw [hf0]; exact List.length_replicate ..⟩
  have LS : Aside0 (s0.length = l3.length) := ⟨by rw [hs0]; exact List.length_replicate ..⟩
  clear hf0 hs0
  have HE1 := Aside0.mk (hke1 ke1 (Nat.le_refl _))
  have HE2 := Aside0.mk (hke2 ke2 (Nat.le_refl _))
  have M1 : Aside0 (1 ≤ l1.length ∧ l1.length ≤ 6) := ⟨⟨(valid_facts V1.out).1, (valid_facts V1.out).2.1⟩⟩
  have M2 : Aside0 (1 ≤ l3.length ∧ l3.length ≤ 6) := ⟨⟨(valid_facts V2.out).1, (valid_facts V2.out).2.1⟩⟩
  clear hb0 hl v1 v2 hR hr0 hr1 hr2 hr3 hr5 hke1 hke2
  go_enter Try.func65, Try.ntmps65
  go_wp2_with fail
  refine (spec_l03Empty.gen ke1 g0 A0 c0 l0 A1 c1 l1 _ _ #[.slice A0 l0.length c0, .slice A1 l1.length c1, .slice A2 l2.length c2, .slice A3 l3.length c3, .int .i64 1] 53 0 rfl rfl (by decide) (blk_below HBX.out (Below.refl _ _)) (Kd.C_below HT0.out (Below.refl _ _)) hc0 (Kd.C_below HT1.out (Below.refl _ _)) hc1 HE1.out).mono ?_
  rintro e w1 ⟨v8, rfl, hr8, hb1⟩
  obtain ⟨b8, d8, rfl, hd8, lo8, hi8, R8, C8⟩ := lev_new hr8 (by have := LF.out; have := M1.out; omega) (Nat.le_refl _)
  have R8 := Aside0.mk R8
  have HB1 := Aside0.mk hb1
  have D8 := Aside0.mk hd8
  have I8 := Aside0.mk (And.intro lo8 hi8)
  clear hr8 hb1 hd8 lo8 hi8 C8
  go_wp2_with fail
  refine (spec_l03Empty.gen ke2 g0 A2 c2 l2 A3 c3 l3 _ _ #[.slice A0 l0.length c0, .slice A1 l1.length c1, .slice A2 l2.length c2, .slice A3 l3.length c3, .int .i64 1] 53 2 rfl rfl (by decide) (blk_below HBX.out HB1.out) (Kd.C_below HT2.out HB1.out) hc2 (Kd.C_below HT3.out HB1.out) hc3 HE2.out).mono ?_
  rintro e w2 ⟨v9, rfl, hr9, hb2⟩
  obtain ⟨b9, d9, rfl, hd9, lo9, hi9, R9, C9⟩ := lev_new hr9 (by have := LS.out; have := M2.out; omega) HB1.out.size
  have R9 := Aside0.mk R9
  have HB2 := Aside0.mk (below_le HB1.out hb2)
  have R8 := Aside0.mk (R_keep (ok' := fun k => k = b8) R8.out hb2 (fun k h _ => h))
  have D9 := Aside0.mk hd9
  have I9 := Aside0.mk (And.intro lo9 hi9)
  clear hr9 hb2 hd9 lo9 hi9 C9
  go_wp2_with ((with_reducible refine gate_dst (N := 28) rfl ?_); refine Kd.R_lit (Kd.int .i64) _ 2 ?hg (N := 28) ?hd (xs := ([] : List Int)) (inner := []) (ok := fun k => k ≠ b8 ∧ k ≠ b9) (okp := fun _ => False) ?hr ?hp (fun _ hk => hk.elim) ⟨by have := I8.out; have := I9.out; omega, by have := I9.out; omega⟩ (Below.refl _ _) (Nat.le_refl _) (by simp) ?_; (case hd => rfl); (case hg => rfl); (case hr => first | (go_simp; done) | (go_simp; rfl)); (case hp => exact (Reps.none _ _)); intro v10 w3 ho4 hb hg_ hnew_; have HO := Aside0.mk ho4; have HB3 := Aside0.mk hb; clear hg_ hnew_ ho4 hb)
  have R10 : Aside0 (Kd.R (Kd.int .i64) 2 w3 w.heap.size (fun k => k ≠ b8 ∧ k ≠ b9) v10 []) := ⟨Kd.R_lower HO.out HB2.out.size⟩
  have R8 := Aside0.mk (R_keep (ok' := fun k => k = b8) R8.out HB3.out (fun k h _ => h))
  have R9 := Aside0.mk (R_keep (ok' := fun k => k = b9) R9.out HB3.out (fun k h _ => h))
  have HB3 := Aside0.mk (below_le HB2.out HB3.out)
  have N89 : Aside0 (b8 ≠ b9) := ⟨by have := I8.out; have := I9.out; omega⟩
  clear HO HB2 HB1 HE1 HE2 I8 I9
  go_loopg [8, 9, 10, 11, 12] us.length (fun gg s8 s9 s10 s11 s12 wr => ∃ (kk b8 b9 d8 d9 : Nat) (wh f s : List Int) (b : Int), kk ≤ us.length ∧ us.length - kk ≤ gg ∧ s12 = .int .i64 kk ∧ s11 = .int .i64 b ∧ s8 = .slice (some ⟨b8, 0, none⟩) f.length d8 ∧ s9 = .slice (some ⟨b9, 0, none⟩) s.length d9 ∧ Aside0 (stackV l0 l1 l2 l3 1 (us.drop kk) wh f s b = (WH, FF, SS, BB)) ∧ Aside0 (Kd.R (Kd.int .i64) 2 wr w.heap.size (fun k => k = b8) s8 f) ∧ Aside0 (Kd.R (Kd.int .i64) 2 wr w.heap.size (fun k => k = b9) s9 s) ∧ Aside0 (Kd.R (Kd.int .i64) 2 wr w.heap.size (fun k => k ≠ b8 ∧ k ≠ b9) s10 wh) ∧ Aside0 (f.length = l1.length ∧ s.length = l3.length ∧ f.length ≤ d8 ∧ s.length ≤ d9) ∧ Aside0 (wh.length ≤ kk ∧ 0 ≤ b ∧ b ≤ kk ∧ b8 ≠ b9) ∧ Aside0 (Below w.heap.size w wr))
  case atStart => exact ⟨0, b8, b9, d8, d9, [], _, _, 0, Nat.zero_le _, by omega, rfl, rfl, rfl, rfl, ⟨by simpa using HRES.out⟩, R8, R9, R10, ⟨LF.out, LS.out, D8.out, D9.out⟩, ⟨by simp, by omega, by omega, N89.out⟩, HB3⟩
  case round =>
    clear R8 R9 R10 HB3 HRES D8 D9 N89 LF LS
    obtain ⟨kk, b8, b9, d8, d9, wh, f, s, b, hkk, hg, rfl, rfl, rfl, rfl, HRES, R8, R9, R10, LN, NB, BW⟩ := hrel
    by_cases hlt : kk < us.length
    · skip
      have hltz : (kk : Int) < (us.length : Int) := by omega
      obtain ⟨x, hx⟩ : ∃ x, x = us.getD kk 0 := ⟨_, rfl⟩
      obtain ⟨adU, eU, hxU⟩ := Kd.at_int (Kd.C_below HT5.out BW.out) (kk : Int) (by omega) hltz
      cases eU
      have ex : rd us (kk : Int) = x := by rw [hx]; rfl
      rw [ex, Int.toNat_natCast] at hxU
      have HRS := HRES.out
      rw [drop_cons us kk 0 hlt, ← hx] at HRS
      unfold stackV at HRS
      replace HRS := Aside0.mk HRS
      clear HRES ex hx
      obtain ⟨_, _, e8, _, C8⟩ := Kd.R_reads R8.out
      cases e8
      obtain ⟨_, _, e9, _, C9⟩ := Kd.R_reads R9.out
      cases e9
      have C8 := Aside0.mk C8
      have C9 := Aside0.mk C9
      have E8 : Aside0 (f.length ≤ d8) := ⟨LN.out.2.2.1⟩
      have E9 : Aside0 (s.length ≤ d9) := ⟨LN.out.2.2.2⟩
      have Q8 : Aside0 (f.length = l1.length) := ⟨LN.out.1⟩
      have Q9 : Aside0 (s.length = l3.length) := ⟨LN.out.2.1⟩
      have L8 : Aside0 (1 ≤ f.length ∧ f.length ≤ 6) := ⟨by have := Q8.out; have := M1.out; omega⟩
      have L9 : Aside0 (1 ≤ s.length ∧ s.length ≤ 6) := ⟨by have := Q9.out; have := M2.out; omega⟩
      obtain ⟨q8, hq8⟩ : ∃ q, hasB f x = q := ⟨_, rfl⟩
      have HB8 := Aside0.mk hq8
      rw [hq8] at HRS
      clear hq8 LN
      cases q8 with
      | true =>
        replace HRS := HRS.out
        simp only [if_true] at HRS
        replace HRS := Aside0.mk HRS
        obtain ⟨kq, hkq⟩ := specHas_ev f x (by have := L8.out; omega)
        have HQ : Aside0 (spec_l00Has.f kq f x = some true) := ⟨(hkq kq (Nat.le_refl _)).trans (by rw [show (f.any fun y => decide (y = x)) = true from HB8.out])⟩
        clear hkq
        go_wp2_with fail
        refine (spec_l00Has.calls kq (some ⟨b8, 0, none⟩) d8 f x true _ C8.out E8.out HQ.out).mono ?_
        rintro e wq1 ⟨rfl, hd⟩
        have hb := hd.below
        have R8 := Aside0.mk (R_keep (ok' := fun k => k = b8) R8.out hb (fun k h _ => h))
        have C8 := Aside0.mk (Kd.C_below C8.out hb)
        have R9 := Aside0.mk (R_keep (ok' := fun k => k = b9) R9.out hb (fun k h _ => h))
        have C9 := Aside0.mk (Kd.C_below C9.out hb)
        have R10 := Aside0.mk (R_keep (ok' := fun k => k ≠ b8 ∧ k ≠ b9) R10.out hb (fun k h _ => h))
        have BW := Aside0.mk (below_le BW.out hb)
        clear hb hd HQ kq
        have AL : Aside0 ((wh.length + 1) * 8 ≤ 140737488355328) := ⟨by have := NB.out; have := HL.out; omega⟩
        go_wp2_with ((with_reducible refine gate_builtin (b := .append) (xs := #[.tmp 42, .tmp 43]) rfl ?_); at_builtin; refine Kd.R_append (Kd.int .i64) (w0 := w) w.heap.size rfl (.tmp 42) (.tmp 43) 24 2 (.int .i64 0) 8 rfl Try.underlying24 svInfo rfl (by decide) (by omega) u10 wh 1 [.int .i64 1] (fun k => k ≠ b8 ∧ k ≠ b9) (fun _ => False) rfl rfl ?aP (fun _ hk => hk.elim) ?aF ?aO ?aB ?aS ?aL ?_; (case aP => exact rfl); (case aB => exact BW.out); (case aF => exact (fun k hk => ⟨by have := lev_lt R8.out (by have := L8.out; omega); omega, by have := lev_lt R9.out (by have := L9.out; omega); omega⟩)); (case aO => exact R10.out); (case aS => exact BW.out.size); (case aL => exact AL.out); intro v10 wq2 ho hb hg hat; have HO := Aside0.mk ho; have HB := Aside0.mk hb; have R8' := Aside0.mk (Kd.R_grown2 R8.out rfl hg (fun k hk e => (R10.out.1 k hk).1 (Option.some.inj (show some k = some b8 from e)))); have R9' := Aside0.mk (Kd.R_grown2 R9.out rfl hg (fun k hk e => (R10.out.1 k hk).2 (Option.some.inj (show some k = some b9 from e)))); clear ho hb hg hat)
        have R8 := R8'
        have R9 := R9'
        have R10 := HO
        have BW := HB
        clear R8' R9' HO HB AL
        obtain ⟨_, _, e8, _, C8⟩ := Kd.R_reads R8.out
        cases e8
        obtain ⟨_, _, e9, _, C9⟩ := Kd.R_reads R9.out
        cases e9
        have C8 := Aside0.mk C8
        have C9 := Aside0.mk C9
        go_wp2_with fail
        refine (spec_l03Step.gen g0 A0 c0 l0 A1 c1 l1 (some ⟨b8, 0, none⟩) d8 f x _ #[.slice A0 l0.length c0, .slice A1 l1.length c1, .slice A2 l2.length c2, .slice A3 l3.length c3, .int .i64 1] 53 0 rfl rfl (blk_below HBX.out BW.out) (Kd.C_below HT0.out BW.out) hc0 (Kd.C_below HT1.out BW.out) hc1 C8.out E8.out (okStep_valid V1.out f Q8.out x)).mono ?_
        rintro e wq3 ⟨v, rfl, hr, hb⟩
        have hlen : (stepV l0 l1 f x).1.length = l1.length := by exact stepV_length V1.out f Q8.out x
        obtain ⟨ln3, hln⟩ : ∃ l, l = (stepV l0 l1 f x).1 := ⟨_, rfl⟩
        rw [← hln] at hr hlen
        obtain ⟨bn3, dn3, rfl, hdd, hlo, hhi, hRn, hCn⟩ := lev_new hr (by rw [hlen]; have := M1.out; omega) BW.out.size
        have o9_ := lev_lt R9.out (by have := L9.out; omega)
        have R9 := Aside0.mk (R_keep (ok' := fun k => k = b9) R9.out hb (fun k h _ => h))
        have C9 := Aside0.mk (Kd.C_below C9.out hb)
        have R8 := Aside0.mk hRn
        have C8 := Aside0.mk hCn
        have E8 := Aside0.mk hdd
        have L8 : Aside0 (1 ≤ ln3.length ∧ ln3.length ≤ 6) := ⟨by rw [hlen]; exact M1.out⟩
        have Q8 : Aside0 (ln3.length = l1.length) := ⟨hlen⟩
        have R10 := Aside0.mk (R_keep (ok' := fun k => k ≠ bn3 ∧ k ≠ b9) R10.out hb (fun k h hk => ⟨by omega, h.2⟩))
        have N89 : Aside0 (bn3 ≠ b9) := ⟨by omega⟩
        have BW := Aside0.mk (below_le BW.out hb)
        have HL3 := Aside0.mk hln
        clear hb hr hdd hlo hhi hRn hCn hlen hln o9_
        go_wp2_with fail
        go_roundg (us.length - (kk + 1))
        case measure => omega
        case rel =>
          refine ⟨kk + 1, bn3, b9, dn3, d9, (wh ++ [1]), ln3, s, b, by omega, by omega, by rw [wrap_succ hlt (by have := HL.out; omega)], by rfl, rfl, rfl, ⟨?_⟩, R8, R9, R10, ⟨Q8.out, Q9.out, E8.out, E9.out⟩, ⟨by have := NB.out; simp only [List.length_append, List.length_singleton]; omega, by have := NB.out; omega, by have := NB.out; omega, N89.out⟩, BW⟩
          rw [HL3.out]; exact HRS.out
      | false =>
        obtain ⟨q9, hq9⟩ : ∃ q, hasB s x = q := ⟨_, rfl⟩
        have HB9 := Aside0.mk hq9
        rw [hq9] at HRS
        clear hq9
        cases q9 with
        | true =>
          replace HRS := HRS.out
          simp only [Bool.false_eq_true, if_false, if_true, show ¬ ((1 : Int) = 2) by decide, true_and] at HRS
          replace HRS := Aside0.mk HRS
          obtain ⟨kq, hkq⟩ := specHas_ev f x (by have := L8.out; omega)
          have HQ : Aside0 (spec_l00Has.f kq f x = some false) := ⟨(hkq kq (Nat.le_refl _)).trans (by rw [show (f.any fun y => decide (y = x)) = false from HB8.out])⟩
          clear hkq
          go_wp2_with fail
          refine (spec_l00Has.calls kq (some ⟨b8, 0, none⟩) d8 f x false _ C8.out E8.out HQ.out).mono ?_
          rintro e wq1 ⟨rfl, hd⟩
          have hb := hd.below
          have R8 := Aside0.mk (R_keep (ok' := fun k => k = b8) R8.out hb (fun k h _ => h))
          have C8 := Aside0.mk (Kd.C_below C8.out hb)
          have R9 := Aside0.mk (R_keep (ok' := fun k => k = b9) R9.out hb (fun k h _ => h))
          have C9 := Aside0.mk (Kd.C_below C9.out hb)
          have R10 := Aside0.mk (R_keep (ok' := fun k => k ≠ b8 ∧ k ≠ b9) R10.out hb (fun k h _ => h))
          have BW := Aside0.mk (below_le BW.out hb)
          clear hb hd HQ kq
          obtain ⟨kq, hkq⟩ := specHas_ev s x (by have := L9.out; omega)
          have HQ : Aside0 (spec_l00Has.f kq s x = some true) := ⟨(hkq kq (Nat.le_refl _)).trans (by rw [show (s.any fun y => decide (y = x)) = true from HB9.out])⟩
          clear hkq
          go_wp2_with fail
          refine (spec_l00Has.calls kq (some ⟨b9, 0, none⟩) d9 s x true _ C9.out E9.out HQ.out).mono ?_
          rintro e wq2 ⟨rfl, hd⟩
          have hb := hd.below
          have R8 := Aside0.mk (R_keep (ok' := fun k => k = b8) R8.out hb (fun k h _ => h))
          have C8 := Aside0.mk (Kd.C_below C8.out hb)
          have R9 := Aside0.mk (R_keep (ok' := fun k => k = b9) R9.out hb (fun k h _ => h))
          have C9 := Aside0.mk (Kd.C_below C9.out hb)
          have R10 := Aside0.mk (R_keep (ok' := fun k => k ≠ b8 ∧ k ≠ b9) R10.out hb (fun k h _ => h))
          have BW := Aside0.mk (below_le BW.out hb)
          clear hb hd HQ kq
          obtain ⟨gone, hgo⟩ : ∃ g, g = s.getD (s.length - 1) 0 := ⟨_, rfl⟩
          have HGO := Aside0.mk hgo
          rw [← hgo] at HRS
          clear hgo
          have n1 : 0 ≤ (s.length : Int) - 1 := by have := L9.out; omega
          have n2 : (s.length : Int) - 1 < (s.length : Int) := by omega
          have n3 : ((s.length : Int) - 1).toNat = s.length - 1 := by omega
          have n5 := L9.out.1
          have n6 := L9.out.2
          have n4 : wrap64 ((s.length : Int) - 1) = (s.length : Int) - 1 := wrap_id (by omega) (by omega)
          have AL : Aside0 ((wh.length + 1) * 8 ≤ 140737488355328) := ⟨by have := NB.out; have := HL.out; omega⟩
          go_wp2_with ((with_reducible refine gate_builtin (b := .append) (xs := #[.tmp 57, .tmp 58]) rfl ?_); at_builtin; refine Kd.R_append (Kd.int .i64) (w0 := w) w.heap.size rfl (.tmp 57) (.tmp 58) 24 2 (.int .i64 0) 8 rfl Try.underlying24 svInfo rfl (by decide) (by omega) u10 wh 2 [.int .i64 2] (fun k => k ≠ b8 ∧ k ≠ b9) (fun _ => False) rfl rfl ?aP (fun _ hk => hk.elim) ?aF ?aO ?aB ?aS ?aL ?_; (case aP => exact rfl); (case aB => exact BW.out); (case aF => exact (fun k hk => ⟨by have := lev_lt R8.out (by have := L8.out; omega); omega, by have := lev_lt R9.out (by have := L9.out; omega); omega⟩)); (case aO => exact R10.out); (case aS => exact BW.out.size); (case aL => exact AL.out); intro v10 wq3 ho hb hg hat; have HO := Aside0.mk ho; have HB := Aside0.mk hb; have R8' := Aside0.mk (Kd.R_grown2 R8.out rfl hg (fun k hk e => (R10.out.1 k hk).1 (Option.some.inj (show some k = some b8 from e)))); have R9' := Aside0.mk (Kd.R_grown2 R9.out rfl hg (fun k hk e => (R10.out.1 k hk).2 (Option.some.inj (show some k = some b9 from e)))); have qm : wq3.cell? ⟨g0, 4, none⟩ = some (.int .i64 1) := (blk_cell (blk_below HBX.out HB.out) 4).trans rfl; have lc := lev_cell R9'.out (show s.length - 1 < s.length by have := L9.out; omega); rw [← HGO.out] at lc; clear ho hb hg hat)
          have R8 := R8'
          have R9 := R9'
          have R10 := HO
          have BW := HB
          clear R8' R9' HO HB AL
          obtain ⟨_, _, e8, _, C8⟩ := Kd.R_reads R8.out
          cases e8
          obtain ⟨_, _, e9, _, C9⟩ := Kd.R_reads R9.out
          cases e9
          have C8 := Aside0.mk C8
          have C9 := Aside0.mk C9
          obtain ⟨hit, hhit⟩ : ∃ h, (stepV l2 l3 s x).2 = h := ⟨_, rfl⟩
          have HIT := Aside0.mk hhit
          rw [hhit] at HRS
          clear hhit
          go_wp2_with fail
          refine (spec_l03Step.gen g0 A2 c2 l2 A3 c3 l3 (some ⟨b9, 0, none⟩) d9 s x _ #[.slice A0 l0.length c0, .slice A1 l1.length c1, .slice A2 l2.length c2, .slice A3 l3.length c3, .int .i64 1] 53 2 rfl rfl (blk_below HBX.out BW.out) (Kd.C_below HT2.out BW.out) hc2 (Kd.C_below HT3.out BW.out) hc3 C9.out E9.out (okStep_valid V2.out s Q9.out x)).mono ?_
          rintro e wq4 ⟨v, rfl, hr, hb⟩
          have hlen : (stepV l2 l3 s x).1.length = l3.length := by exact stepV_length V2.out s Q9.out x
          obtain ⟨ln4, hln⟩ : ∃ l, l = (stepV l2 l3 s x).1 := ⟨_, rfl⟩
          rw [← hln] at hr hlen
          obtain ⟨bn4, dn4, rfl, hdd, hlo, hhi, hRn, hCn⟩ := lev_new hr (by rw [hlen]; have := M2.out; omega) BW.out.size
          have o8_ := lev_lt R8.out (by have := L8.out; omega)
          have R8 := Aside0.mk (R_keep (ok' := fun k => k = b8) R8.out hb (fun k h _ => h))
          have C8 := Aside0.mk (Kd.C_below C8.out hb)
          have R9 := Aside0.mk hRn
          have C9 := Aside0.mk hCn
          have E9 := Aside0.mk hdd
          have L9 : Aside0 (1 ≤ ln4.length ∧ ln4.length ≤ 6) := ⟨by rw [hlen]; exact M2.out⟩
          have Q9 : Aside0 (ln4.length = l3.length) := ⟨hlen⟩
          have R10 := Aside0.mk (R_keep (ok' := fun k => k ≠ b8 ∧ k ≠ bn4) R10.out hb (fun k h hk => ⟨h.1, by omega⟩))
          have N89 : Aside0 (b8 ≠ bn4) := ⟨by omega⟩
          have BW := Aside0.mk (below_le BW.out hb)
          have HL4 := Aside0.mk hln
          clear hb hr hdd hlo hhi hRn hCn hlen hln o8_
          simp only [HIT.out]
          have qm : wq4.cell? ⟨g0, 4, none⟩ = some (.int .i64 1) := (blk_cell (blk_below HBX.out BW.out) 4).trans rfl
          cases hit with
          | true =>
            replace HRS := HRS.out
            simp only [Bool.true_eq_false, if_false] at HRS
            replace HRS := Aside0.mk HRS
            go_wp2_with fail
            refine (spec_l03Step.gen g0 A0 c0 l0 A1 c1 l1 (some ⟨b8, 0, none⟩) d8 f x _ #[.slice A0 l0.length c0, .slice A1 l1.length c1, .slice A2 l2.length c2, .slice A3 l3.length c3, .int .i64 1] 53 0 rfl rfl (blk_below HBX.out BW.out) (Kd.C_below HT0.out BW.out) hc0 (Kd.C_below HT1.out BW.out) hc1 C8.out E8.out (okStep_valid V1.out f Q8.out x)).mono ?_
            rintro e wq5 ⟨v, rfl, hr, hb⟩
            have hlen : (stepV l0 l1 f x).1.length = l1.length := by exact stepV_length V1.out f Q8.out x
            obtain ⟨ln5, hln⟩ : ∃ l, l = (stepV l0 l1 f x).1 := ⟨_, rfl⟩
            rw [← hln] at hr hlen
            obtain ⟨bn5, dn5, rfl, hdd, hlo, hhi, hRn, hCn⟩ := lev_new hr (by rw [hlen]; have := M1.out; omega) BW.out.size
            have o9_ := lev_lt R9.out (by have := L9.out; omega)
            have R9 := Aside0.mk (R_keep (ok' := fun k => k = bn4) R9.out hb (fun k h _ => h))
            have C9 := Aside0.mk (Kd.C_below C9.out hb)
            have R8 := Aside0.mk hRn
            have C8 := Aside0.mk hCn
            have E8 := Aside0.mk hdd
            have L8 : Aside0 (1 ≤ ln5.length ∧ ln5.length ≤ 6) := ⟨by rw [hlen]; exact M1.out⟩
            have Q8 : Aside0 (ln5.length = l1.length) := ⟨hlen⟩
            have R10 := Aside0.mk (R_keep (ok' := fun k => k ≠ bn5 ∧ k ≠ bn4) R10.out hb (fun k h hk => ⟨by omega, h.2⟩))
            have N89 : Aside0 (bn5 ≠ bn4) := ⟨by omega⟩
            have BW := Aside0.mk (below_le BW.out hb)
            have HL5 := Aside0.mk hln
            clear hb hr hdd hlo hhi hRn hCn hlen hln o9_
            go_wp2_with fail
            go_roundg (us.length - (kk + 1))
            case measure => omega
            case rel =>
              refine ⟨kk + 1, bn5, bn4, dn5, dn4, (wh ++ [2]), ln5, ln4, b, by omega, by omega, by rw [wrap_succ hlt (by have := HL.out; omega)], by rfl, rfl, rfl, ⟨?_⟩, R8, R9, R10, ⟨Q8.out, Q9.out, E8.out, E9.out⟩, ⟨by have := NB.out; simp only [List.length_append, List.length_singleton]; omega, by have := NB.out; omega, by have := NB.out; omega, N89.out⟩, BW⟩
              rw [HL5.out, HL4.out]; exact HRS.out
          | false =>
            replace HRS := HRS.out
            simp only [if_true] at HRS
            replace HRS := Aside0.mk HRS
            obtain ⟨wz, hwz⟩ : ∃ q, (takeV f gone).2 = q := ⟨_, rfl⟩
            have WAS := Aside0.mk hwz
            rw [hwz] at HRS
            clear hwz
            cases wz with
            | true =>
              replace HRS : Aside0 (stackV l0 l1 l2 l3 1 (us.drop (kk + 1)) (wh ++ [2]) (stepV l0 l1 (takeV f gone).1 x).1 (stepV l2 l3 s x).1 (b + 1) = (WH, FF, SS, BB)) := ⟨HRS.out⟩
              obtain ⟨kt, hkt⟩ := take_ev f gone (by have := L8.out; omega)
              have HTK : Aside0 (spec_l07Take.f kt f gone = some ((takeV f gone).1, true)) := ⟨(hkt kt (Nat.le_refl _)).trans (by rw [← WAS.out])⟩
              clear hkt
              go_wp2_with fail
              refine (spec_l07Take.calls kt (some ⟨b8, 0, none⟩) d8 f gone _ _ _ C8.out E8.out HTK.out).mono ?_
              rintro e wq5 ⟨v, rfl, hr, hb⟩
              have hlen : (takeV f gone).1.length = l1.length := by rw [takeV_length]; exact Q8.out
              obtain ⟨ln5, hln⟩ : ∃ l, l = (takeV f gone).1 := ⟨_, rfl⟩
              rw [← hln] at hr hlen
              obtain ⟨bn5, dn5, rfl, hdd, hlo, hhi, hRn, hCn⟩ := lev_new hr (by rw [hlen]; have := M1.out; omega) BW.out.size
              have o9_ := lev_lt R9.out (by have := L9.out; omega)
              have R9 := Aside0.mk (R_keep (ok' := fun k => k = bn4) R9.out hb (fun k h _ => h))
              have C9 := Aside0.mk (Kd.C_below C9.out hb)
              have R8 := Aside0.mk hRn
              have C8 := Aside0.mk hCn
              have E8 := Aside0.mk hdd
              have L8 : Aside0 (1 ≤ ln5.length ∧ ln5.length ≤ 6) := ⟨by rw [hlen]; exact M1.out⟩
              have Q8 : Aside0 (ln5.length = l1.length) := ⟨hlen⟩
              have R10 := Aside0.mk (R_keep (ok' := fun k => k ≠ bn5 ∧ k ≠ bn4) R10.out hb (fun k h hk => ⟨by omega, h.2⟩))
              have N89 : Aside0 (bn5 ≠ bn4) := ⟨by omega⟩
              have BW := Aside0.mk (below_le BW.out hb)
              have HL5 := Aside0.mk hln
              clear hb hr hdd hlo hhi hRn hCn hlen hln o9_
              clear HTK kt
              go_wp2_with fail
              refine (spec_l03Step.gen g0 A0 c0 l0 A1 c1 l1 (some ⟨bn5, 0, none⟩) dn5 ln5 x _ #[.slice A0 l0.length c0, .slice A1 l1.length c1, .slice A2 l2.length c2, .slice A3 l3.length c3, .int .i64 1] 53 0 rfl rfl (blk_below HBX.out BW.out) (Kd.C_below HT0.out BW.out) hc0 (Kd.C_below HT1.out BW.out) hc1 C8.out E8.out (okStep_valid V1.out ln5 Q8.out x)).mono ?_
              rintro e wq6 ⟨v, rfl, hr, hb⟩
              have hlen : (stepV l0 l1 ln5 x).1.length = l1.length := by exact stepV_length V1.out ln5 Q8.out x
              obtain ⟨ln6, hln⟩ : ∃ l, l = (stepV l0 l1 ln5 x).1 := ⟨_, rfl⟩
              rw [← hln] at hr hlen
              obtain ⟨bn6, dn6, rfl, hdd, hlo, hhi, hRn, hCn⟩ := lev_new hr (by rw [hlen]; have := M1.out; omega) BW.out.size
              have o9_ := lev_lt R9.out (by have := L9.out; omega)
              have R9 := Aside0.mk (R_keep (ok' := fun k => k = bn4) R9.out hb (fun k h _ => h))
              have C9 := Aside0.mk (Kd.C_below C9.out hb)
              have R8 := Aside0.mk hRn
              have C8 := Aside0.mk hCn
              have E8 := Aside0.mk hdd
              have L8 : Aside0 (1 ≤ ln6.length ∧ ln6.length ≤ 6) := ⟨by rw [hlen]; exact M1.out⟩
              have Q8 : Aside0 (ln6.length = l1.length) := ⟨hlen⟩
              have R10 := Aside0.mk (R_keep (ok' := fun k => k ≠ bn6 ∧ k ≠ bn4) R10.out hb (fun k h hk => ⟨by omega, h.2⟩))
              have N89 : Aside0 (bn6 ≠ bn4) := ⟨by omega⟩
              have BW := Aside0.mk (below_le BW.out hb)
              have HL6 := Aside0.mk hln
              clear hb hr hdd hlo hhi hRn hCn hlen hln o9_
              go_wp2_with fail
              go_roundg (us.length - (kk + 1))
              case measure => omega
              case rel =>
                refine ⟨kk + 1, bn6, bn4, dn6, dn4, (wh ++ [2]), ln6, ln4, (b + 1), by omega, by omega, by rw [wrap_succ hlt (by have := HL.out; omega)], by rw [wrap_id (x := b + 1) (by have := NB.out; omega) (by have := NB.out; have := HL.out; omega)], rfl, rfl, ⟨?_⟩, R8, R9, R10, ⟨Q8.out, Q9.out, E8.out, E9.out⟩, ⟨by have := NB.out; simp only [List.length_append, List.length_singleton]; omega, by have := NB.out; omega, by have := NB.out; omega, N89.out⟩, BW⟩
                rw [HL6.out, HL5.out, HL4.out]; exact HRS.out
            | false =>
              replace HRS : Aside0 (stackV l0 l1 l2 l3 1 (us.drop (kk + 1)) (wh ++ [2]) (stepV l0 l1 (takeV f gone).1 x).1 (stepV l2 l3 s x).1 b = (WH, FF, SS, BB)) := ⟨HRS.out⟩
              obtain ⟨kt, hkt⟩ := take_ev f gone (by have := L8.out; omega)
              have HTK : Aside0 (spec_l07Take.f kt f gone = some ((takeV f gone).1, false)) := ⟨(hkt kt (Nat.le_refl _)).trans (by rw [← WAS.out])⟩
              clear hkt
              go_wp2_with fail
              refine (spec_l07Take.calls kt (some ⟨b8, 0, none⟩) d8 f gone _ _ _ C8.out E8.out HTK.out).mono ?_
              rintro e wq5 ⟨v, rfl, hr, hb⟩
              have hlen : (takeV f gone).1.length = l1.length := by rw [takeV_length]; exact Q8.out
              obtain ⟨ln5, hln⟩ : ∃ l, l = (takeV f gone).1 := ⟨_, rfl⟩
              rw [← hln] at hr hlen
              obtain ⟨bn5, dn5, rfl, hdd, hlo, hhi, hRn, hCn⟩ := lev_new hr (by rw [hlen]; have := M1.out; omega) BW.out.size
              have o9_ := lev_lt R9.out (by have := L9.out; omega)
              have R9 := Aside0.mk (R_keep (ok' := fun k => k = bn4) R9.out hb (fun k h _ => h))
              have C9 := Aside0.mk (Kd.C_below C9.out hb)
              have R8 := Aside0.mk hRn
              have C8 := Aside0.mk hCn
              have E8 := Aside0.mk hdd
              have L8 : Aside0 (1 ≤ ln5.length ∧ ln5.length ≤ 6) := ⟨by rw [hlen]; exact M1.out⟩
              have Q8 : Aside0 (ln5.length = l1.length) := ⟨hlen⟩
              have R10 := Aside0.mk (R_keep (ok' := fun k => k ≠ bn5 ∧ k ≠ bn4) R10.out hb (fun k h hk => ⟨by omega, h.2⟩))
              have N89 : Aside0 (bn5 ≠ bn4) := ⟨by omega⟩
              have BW := Aside0.mk (below_le BW.out hb)
              have HL5 := Aside0.mk hln
              clear hb hr hdd hlo hhi hRn hCn hlen hln o9_
              clear HTK kt
              go_wp2_with fail
              refine (spec_l03Step.gen g0 A0 c0 l0 A1 c1 l1 (some ⟨bn5, 0, none⟩) dn5 ln5 x _ #[.slice A0 l0.length c0, .slice A1 l1.length c1, .slice A2 l2.length c2, .slice A3 l3.length c3, .int .i64 1] 53 0 rfl rfl (blk_below HBX.out BW.out) (Kd.C_below HT0.out BW.out) hc0 (Kd.C_below HT1.out BW.out) hc1 C8.out E8.out (okStep_valid V1.out ln5 Q8.out x)).mono ?_
              rintro e wq6 ⟨v, rfl, hr, hb⟩
              have hlen : (stepV l0 l1 ln5 x).1.length = l1.length := by exact stepV_length V1.out ln5 Q8.out x
              obtain ⟨ln6, hln⟩ : ∃ l, l = (stepV l0 l1 ln5 x).1 := ⟨_, rfl⟩
              rw [← hln] at hr hlen
              obtain ⟨bn6, dn6, rfl, hdd, hlo, hhi, hRn, hCn⟩ := lev_new hr (by rw [hlen]; have := M1.out; omega) BW.out.size
              have o9_ := lev_lt R9.out (by have := L9.out; omega)
              have R9 := Aside0.mk (R_keep (ok' := fun k => k = bn4) R9.out hb (fun k h _ => h))
              have C9 := Aside0.mk (Kd.C_below C9.out hb)
              have R8 := Aside0.mk hRn
              have C8 := Aside0.mk hCn
              have E8 := Aside0.mk hdd
              have L8 : Aside0 (1 ≤ ln6.length ∧ ln6.length ≤ 6) := ⟨by rw [hlen]; exact M1.out⟩
              have Q8 : Aside0 (ln6.length = l1.length) := ⟨hlen⟩
              have R10 := Aside0.mk (R_keep (ok' := fun k => k ≠ bn6 ∧ k ≠ bn4) R10.out hb (fun k h hk => ⟨by omega, h.2⟩))
              have N89 : Aside0 (bn6 ≠ bn4) := ⟨by omega⟩
              have BW := Aside0.mk (below_le BW.out hb)
              have HL6 := Aside0.mk hln
              clear hb hr hdd hlo hhi hRn hCn hlen hln o9_
              go_wp2_with fail
              go_roundg (us.length - (kk + 1))
              case measure => omega
              case rel =>
                refine ⟨kk + 1, bn6, bn4, dn6, dn4, (wh ++ [2]), ln6, ln4, b, by omega, by omega, by rw [wrap_succ hlt (by have := HL.out; omega)], by rfl, rfl, rfl, ⟨?_⟩, R8, R9, R10, ⟨Q8.out, Q9.out, E8.out, E9.out⟩, ⟨by have := NB.out; simp only [List.length_append, List.length_singleton]; omega, by have := NB.out; omega, by have := NB.out; omega, N89.out⟩, BW⟩
                rw [HL6.out, HL5.out, HL4.out]; exact HRS.out
        | false =>
          replace HRS := HRS.out
          simp only [Bool.false_eq_true, if_false, if_true, show ¬ ((1 : Int) = 2) by decide, true_and] at HRS
          replace HRS := Aside0.mk HRS
          obtain ⟨kq, hkq⟩ := specHas_ev f x (by have := L8.out; omega)
          have HQ : Aside0 (spec_l00Has.f kq f x = some false) := ⟨(hkq kq (Nat.le_refl _)).trans (by rw [show (f.any fun y => decide (y = x)) = false from HB8.out])⟩
          clear hkq
          go_wp2_with fail
          refine (spec_l00Has.calls kq (some ⟨b8, 0, none⟩) d8 f x false _ C8.out E8.out HQ.out).mono ?_
          rintro e wq1 ⟨rfl, hd⟩
          have hb := hd.below
          have R8 := Aside0.mk (R_keep (ok' := fun k => k = b8) R8.out hb (fun k h _ => h))
          have C8 := Aside0.mk (Kd.C_below C8.out hb)
          have R9 := Aside0.mk (R_keep (ok' := fun k => k = b9) R9.out hb (fun k h _ => h))
          have C9 := Aside0.mk (Kd.C_below C9.out hb)
          have R10 := Aside0.mk (R_keep (ok' := fun k => k ≠ b8 ∧ k ≠ b9) R10.out hb (fun k h _ => h))
          have BW := Aside0.mk (below_le BW.out hb)
          clear hb hd HQ kq
          obtain ⟨kq, hkq⟩ := specHas_ev s x (by have := L9.out; omega)
          have HQ : Aside0 (spec_l00Has.f kq s x = some false) := ⟨(hkq kq (Nat.le_refl _)).trans (by rw [show (s.any fun y => decide (y = x)) = false from HB9.out])⟩
          clear hkq
          go_wp2_with fail
          refine (spec_l00Has.calls kq (some ⟨b9, 0, none⟩) d9 s x false _ C9.out E9.out HQ.out).mono ?_
          rintro e wq2 ⟨rfl, hd⟩
          have hb := hd.below
          have R8 := Aside0.mk (R_keep (ok' := fun k => k = b8) R8.out hb (fun k h _ => h))
          have C8 := Aside0.mk (Kd.C_below C8.out hb)
          have R9 := Aside0.mk (R_keep (ok' := fun k => k = b9) R9.out hb (fun k h _ => h))
          have C9 := Aside0.mk (Kd.C_below C9.out hb)
          have R10 := Aside0.mk (R_keep (ok' := fun k => k ≠ b8 ∧ k ≠ b9) R10.out hb (fun k h _ => h))
          have BW := Aside0.mk (below_le BW.out hb)
          clear hb hd HQ kq
          obtain ⟨gone, hgo⟩ : ∃ g, g = s.getD (s.length - 1) 0 := ⟨_, rfl⟩
          have HGO := Aside0.mk hgo
          rw [← hgo] at HRS
          clear hgo
          have n1 : 0 ≤ (s.length : Int) - 1 := by have := L9.out; omega
          have n2 : (s.length : Int) - 1 < (s.length : Int) := by omega
          have n3 : ((s.length : Int) - 1).toNat = s.length - 1 := by omega
          have n5 := L9.out.1
          have n6 := L9.out.2
          have n4 : wrap64 ((s.length : Int) - 1) = (s.length : Int) - 1 := wrap_id (by omega) (by omega)
          have AL : Aside0 ((wh.length + 1) * 8 ≤ 140737488355328) := ⟨by have := NB.out; have := HL.out; omega⟩
          go_wp2_with ((with_reducible refine gate_builtin (b := .append) (xs := #[.tmp 60, .tmp 61]) rfl ?_); at_builtin; refine Kd.R_append (Kd.int .i64) (w0 := w) w.heap.size rfl (.tmp 60) (.tmp 61) 24 2 (.int .i64 0) 8 rfl Try.underlying24 svInfo rfl (by decide) (by omega) u10 wh 3 [.int .i64 3] (fun k => k ≠ b8 ∧ k ≠ b9) (fun _ => False) rfl rfl ?aP (fun _ hk => hk.elim) ?aF ?aO ?aB ?aS ?aL ?_; (case aP => exact rfl); (case aB => exact BW.out); (case aF => exact (fun k hk => ⟨by have := lev_lt R8.out (by have := L8.out; omega); omega, by have := lev_lt R9.out (by have := L9.out; omega); omega⟩)); (case aO => exact R10.out); (case aS => exact BW.out.size); (case aL => exact AL.out); intro v10 wq3 ho hb hg hat; have HO := Aside0.mk ho; have HB := Aside0.mk hb; have R8' := Aside0.mk (Kd.R_grown2 R8.out rfl hg (fun k hk e => (R10.out.1 k hk).1 (Option.some.inj (show some k = some b8 from e)))); have R9' := Aside0.mk (Kd.R_grown2 R9.out rfl hg (fun k hk e => (R10.out.1 k hk).2 (Option.some.inj (show some k = some b9 from e)))); have qm : wq3.cell? ⟨g0, 4, none⟩ = some (.int .i64 1) := (blk_cell (blk_below HBX.out HB.out) 4).trans rfl; have lc := lev_cell R9'.out (show s.length - 1 < s.length by have := L9.out; omega); rw [← HGO.out] at lc; clear ho hb hg hat)
          have R8 := R8'
          have R9 := R9'
          have R10 := HO
          have BW := HB
          clear R8' R9' HO HB AL
          obtain ⟨_, _, e8, _, C8⟩ := Kd.R_reads R8.out
          cases e8
          obtain ⟨_, _, e9, _, C9⟩ := Kd.R_reads R9.out
          cases e9
          have C8 := Aside0.mk C8
          have C9 := Aside0.mk C9
          obtain ⟨hit, hhit⟩ : ∃ h, (stepV l2 l3 s x).2 = h := ⟨_, rfl⟩
          have HIT := Aside0.mk hhit
          rw [hhit] at HRS
          clear hhit
          go_wp2_with fail
          refine (spec_l03Step.gen g0 A2 c2 l2 A3 c3 l3 (some ⟨b9, 0, none⟩) d9 s x _ #[.slice A0 l0.length c0, .slice A1 l1.length c1, .slice A2 l2.length c2, .slice A3 l3.length c3, .int .i64 1] 53 2 rfl rfl (blk_below HBX.out BW.out) (Kd.C_below HT2.out BW.out) hc2 (Kd.C_below HT3.out BW.out) hc3 C9.out E9.out (okStep_valid V2.out s Q9.out x)).mono ?_
          rintro e wq4 ⟨v, rfl, hr, hb⟩
          have hlen : (stepV l2 l3 s x).1.length = l3.length := by exact stepV_length V2.out s Q9.out x
          obtain ⟨ln4, hln⟩ : ∃ l, l = (stepV l2 l3 s x).1 := ⟨_, rfl⟩
          rw [← hln] at hr hlen
          obtain ⟨bn4, dn4, rfl, hdd, hlo, hhi, hRn, hCn⟩ := lev_new hr (by rw [hlen]; have := M2.out; omega) BW.out.size
          have o8_ := lev_lt R8.out (by have := L8.out; omega)
          have R8 := Aside0.mk (R_keep (ok' := fun k => k = b8) R8.out hb (fun k h _ => h))
          have C8 := Aside0.mk (Kd.C_below C8.out hb)
          have R9 := Aside0.mk hRn
          have C9 := Aside0.mk hCn
          have E9 := Aside0.mk hdd
          have L9 : Aside0 (1 ≤ ln4.length ∧ ln4.length ≤ 6) := ⟨by rw [hlen]; exact M2.out⟩
          have Q9 : Aside0 (ln4.length = l3.length) := ⟨hlen⟩
          have R10 := Aside0.mk (R_keep (ok' := fun k => k ≠ b8 ∧ k ≠ bn4) R10.out hb (fun k h hk => ⟨h.1, by omega⟩))
          have N89 : Aside0 (b8 ≠ bn4) := ⟨by omega⟩
          have BW := Aside0.mk (below_le BW.out hb)
          have HL4 := Aside0.mk hln
          clear hb hr hdd hlo hhi hRn hCn hlen hln o8_
          simp only [HIT.out]
          have qm : wq4.cell? ⟨g0, 4, none⟩ = some (.int .i64 1) := (blk_cell (blk_below HBX.out BW.out) 4).trans rfl
          cases hit with
          | true =>
            replace HRS := HRS.out
            simp only [Bool.true_eq_false, if_false] at HRS
            replace HRS := Aside0.mk HRS
            go_wp2_with fail
            refine (spec_l03Step.gen g0 A0 c0 l0 A1 c1 l1 (some ⟨b8, 0, none⟩) d8 f x _ #[.slice A0 l0.length c0, .slice A1 l1.length c1, .slice A2 l2.length c2, .slice A3 l3.length c3, .int .i64 1] 53 0 rfl rfl (blk_below HBX.out BW.out) (Kd.C_below HT0.out BW.out) hc0 (Kd.C_below HT1.out BW.out) hc1 C8.out E8.out (okStep_valid V1.out f Q8.out x)).mono ?_
            rintro e wq5 ⟨v, rfl, hr, hb⟩
            have hlen : (stepV l0 l1 f x).1.length = l1.length := by exact stepV_length V1.out f Q8.out x
            obtain ⟨ln5, hln⟩ : ∃ l, l = (stepV l0 l1 f x).1 := ⟨_, rfl⟩
            rw [← hln] at hr hlen
            obtain ⟨bn5, dn5, rfl, hdd, hlo, hhi, hRn, hCn⟩ := lev_new hr (by rw [hlen]; have := M1.out; omega) BW.out.size
            have o9_ := lev_lt R9.out (by have := L9.out; omega)
            have R9 := Aside0.mk (R_keep (ok' := fun k => k = bn4) R9.out hb (fun k h _ => h))
            have C9 := Aside0.mk (Kd.C_below C9.out hb)
            have R8 := Aside0.mk hRn
            have C8 := Aside0.mk hCn
            have E8 := Aside0.mk hdd
            have L8 : Aside0 (1 ≤ ln5.length ∧ ln5.length ≤ 6) := ⟨by rw [hlen]; exact M1.out⟩
            have Q8 : Aside0 (ln5.length = l1.length) := ⟨hlen⟩
            have R10 := Aside0.mk (R_keep (ok' := fun k => k ≠ bn5 ∧ k ≠ bn4) R10.out hb (fun k h hk => ⟨by omega, h.2⟩))
            have N89 : Aside0 (bn5 ≠ bn4) := ⟨by omega⟩
            have BW := Aside0.mk (below_le BW.out hb)
            have HL5 := Aside0.mk hln
            clear hb hr hdd hlo hhi hRn hCn hlen hln o9_
            go_wp2_with fail
            go_roundg (us.length - (kk + 1))
            case measure => omega
            case rel =>
              refine ⟨kk + 1, bn5, bn4, dn5, dn4, (wh ++ [3]), ln5, ln4, b, by omega, by omega, by rw [wrap_succ hlt (by have := HL.out; omega)], by rfl, rfl, rfl, ⟨?_⟩, R8, R9, R10, ⟨Q8.out, Q9.out, E8.out, E9.out⟩, ⟨by have := NB.out; simp only [List.length_append, List.length_singleton]; omega, by have := NB.out; omega, by have := NB.out; omega, N89.out⟩, BW⟩
              rw [HL5.out, HL4.out]; exact HRS.out
          | false =>
            replace HRS := HRS.out
            simp only [if_true] at HRS
            replace HRS := Aside0.mk HRS
            obtain ⟨wz, hwz⟩ : ∃ q, (takeV f gone).2 = q := ⟨_, rfl⟩
            have WAS := Aside0.mk hwz
            rw [hwz] at HRS
            clear hwz
            cases wz with
            | true =>
              replace HRS : Aside0 (stackV l0 l1 l2 l3 1 (us.drop (kk + 1)) (wh ++ [3]) (stepV l0 l1 (takeV f gone).1 x).1 (stepV l2 l3 s x).1 (b + 1) = (WH, FF, SS, BB)) := ⟨HRS.out⟩
              obtain ⟨kt, hkt⟩ := take_ev f gone (by have := L8.out; omega)
              have HTK : Aside0 (spec_l07Take.f kt f gone = some ((takeV f gone).1, true)) := ⟨(hkt kt (Nat.le_refl _)).trans (by rw [← WAS.out])⟩
              clear hkt
              go_wp2_with fail
              refine (spec_l07Take.calls kt (some ⟨b8, 0, none⟩) d8 f gone _ _ _ C8.out E8.out HTK.out).mono ?_
              rintro e wq5 ⟨v, rfl, hr, hb⟩
              have hlen : (takeV f gone).1.length = l1.length := by rw [takeV_length]; exact Q8.out
              obtain ⟨ln5, hln⟩ : ∃ l, l = (takeV f gone).1 := ⟨_, rfl⟩
              rw [← hln] at hr hlen
              obtain ⟨bn5, dn5, rfl, hdd, hlo, hhi, hRn, hCn⟩ := lev_new hr (by rw [hlen]; have := M1.out; omega) BW.out.size
              have o9_ := lev_lt R9.out (by have := L9.out; omega)
              have R9 := Aside0.mk (R_keep (ok' := fun k => k = bn4) R9.out hb (fun k h _ => h))
              have C9 := Aside0.mk (Kd.C_below C9.out hb)
              have R8 := Aside0.mk hRn
              have C8 := Aside0.mk hCn
              have E8 := Aside0.mk hdd
              have L8 : Aside0 (1 ≤ ln5.length ∧ ln5.length ≤ 6) := ⟨by rw [hlen]; exact M1.out⟩
              have Q8 : Aside0 (ln5.length = l1.length) := ⟨hlen⟩
              have R10 := Aside0.mk (R_keep (ok' := fun k => k ≠ bn5 ∧ k ≠ bn4) R10.out hb (fun k h hk => ⟨by omega, h.2⟩))
              have N89 : Aside0 (bn5 ≠ bn4) := ⟨by omega⟩
              have BW := Aside0.mk (below_le BW.out hb)
              have HL5 := Aside0.mk hln
              clear hb hr hdd hlo hhi hRn hCn hlen hln o9_
              clear HTK kt
              go_wp2_with fail
              refine (spec_l03Step.gen g0 A0 c0 l0 A1 c1 l1 (some ⟨bn5, 0, none⟩) dn5 ln5 x _ #[.slice A0 l0.length c0, .slice A1 l1.length c1, .slice A2 l2.length c2, .slice A3 l3.length c3, .int .i64 1] 53 0 rfl rfl (blk_below HBX.out BW.out) (Kd.C_below HT0.out BW.out) hc0 (Kd.C_below HT1.out BW.out) hc1 C8.out E8.out (okStep_valid V1.out ln5 Q8.out x)).mono ?_
              rintro e wq6 ⟨v, rfl, hr, hb⟩
              have hlen : (stepV l0 l1 ln5 x).1.length = l1.length := by exact stepV_length V1.out ln5 Q8.out x
              obtain ⟨ln6, hln⟩ : ∃ l, l = (stepV l0 l1 ln5 x).1 := ⟨_, rfl⟩
              rw [← hln] at hr hlen
              obtain ⟨bn6, dn6, rfl, hdd, hlo, hhi, hRn, hCn⟩ := lev_new hr (by rw [hlen]; have := M1.out; omega) BW.out.size
              have o9_ := lev_lt R9.out (by have := L9.out; omega)
              have R9 := Aside0.mk (R_keep (ok' := fun k => k = bn4) R9.out hb (fun k h _ => h))
              have C9 := Aside0.mk (Kd.C_below C9.out hb)
              have R8 := Aside0.mk hRn
              have C8 := Aside0.mk hCn
              have E8 := Aside0.mk hdd
              have L8 : Aside0 (1 ≤ ln6.length ∧ ln6.length ≤ 6) := ⟨by rw [hlen]; exact M1.out⟩
              have Q8 : Aside0 (ln6.length = l1.length) := ⟨hlen⟩
              have R10 := Aside0.mk (R_keep (ok' := fun k => k ≠ bn6 ∧ k ≠ bn4) R10.out hb (fun k h hk => ⟨by omega, h.2⟩))
              have N89 : Aside0 (bn6 ≠ bn4) := ⟨by omega⟩
              have BW := Aside0.mk (below_le BW.out hb)
              have HL6 := Aside0.mk hln
              clear hb hr hdd hlo hhi hRn hCn hlen hln o9_
              go_wp2_with fail
              go_roundg (us.length - (kk + 1))
              case measure => omega
              case rel =>
                refine ⟨kk + 1, bn6, bn4, dn6, dn4, (wh ++ [3]), ln6, ln4, (b + 1), by omega, by omega, by rw [wrap_succ hlt (by have := HL.out; omega)], by rw [wrap_id (x := b + 1) (by have := NB.out; omega) (by have := NB.out; have := HL.out; omega)], rfl, rfl, ⟨?_⟩, R8, R9, R10, ⟨Q8.out, Q9.out, E8.out, E9.out⟩, ⟨by have := NB.out; simp only [List.length_append, List.length_singleton]; omega, by have := NB.out; omega, by have := NB.out; omega, N89.out⟩, BW⟩
                rw [HL6.out, HL5.out, HL4.out]; exact HRS.out
            | false =>
              replace HRS : Aside0 (stackV l0 l1 l2 l3 1 (us.drop (kk + 1)) (wh ++ [3]) (stepV l0 l1 (takeV f gone).1 x).1 (stepV l2 l3 s x).1 b = (WH, FF, SS, BB)) := ⟨HRS.out⟩
              obtain ⟨kt, hkt⟩ := take_ev f gone (by have := L8.out; omega)
              have HTK : Aside0 (spec_l07Take.f kt f gone = some ((takeV f gone).1, false)) := ⟨(hkt kt (Nat.le_refl _)).trans (by rw [← WAS.out])⟩
              clear hkt
              go_wp2_with fail
              refine (spec_l07Take.calls kt (some ⟨b8, 0, none⟩) d8 f gone _ _ _ C8.out E8.out HTK.out).mono ?_
              rintro e wq5 ⟨v, rfl, hr, hb⟩
              have hlen : (takeV f gone).1.length = l1.length := by rw [takeV_length]; exact Q8.out
              obtain ⟨ln5, hln⟩ : ∃ l, l = (takeV f gone).1 := ⟨_, rfl⟩
              rw [← hln] at hr hlen
              obtain ⟨bn5, dn5, rfl, hdd, hlo, hhi, hRn, hCn⟩ := lev_new hr (by rw [hlen]; have := M1.out; omega) BW.out.size
              have o9_ := lev_lt R9.out (by have := L9.out; omega)
              have R9 := Aside0.mk (R_keep (ok' := fun k => k = bn4) R9.out hb (fun k h _ => h))
              have C9 := Aside0.mk (Kd.C_below C9.out hb)
              have R8 := Aside0.mk hRn
              have C8 := Aside0.mk hCn
              have E8 := Aside0.mk hdd
              have L8 : Aside0 (1 ≤ ln5.length ∧ ln5.length ≤ 6) := ⟨by rw [hlen]; exact M1.out⟩
              have Q8 : Aside0 (ln5.length = l1.length) := ⟨hlen⟩
              have R10 := Aside0.mk (R_keep (ok' := fun k => k ≠ bn5 ∧ k ≠ bn4) R10.out hb (fun k h hk => ⟨by omega, h.2⟩))
              have N89 : Aside0 (bn5 ≠ bn4) := ⟨by omega⟩
              have BW := Aside0.mk (below_le BW.out hb)
              have HL5 := Aside0.mk hln
              clear hb hr hdd hlo hhi hRn hCn hlen hln o9_
              clear HTK kt
              go_wp2_with fail
              refine (spec_l03Step.gen g0 A0 c0 l0 A1 c1 l1 (some ⟨bn5, 0, none⟩) dn5 ln5 x _ #[.slice A0 l0.length c0, .slice A1 l1.length c1, .slice A2 l2.length c2, .slice A3 l3.length c3, .int .i64 1] 53 0 rfl rfl (blk_below HBX.out BW.out) (Kd.C_below HT0.out BW.out) hc0 (Kd.C_below HT1.out BW.out) hc1 C8.out E8.out (okStep_valid V1.out ln5 Q8.out x)).mono ?_
              rintro e wq6 ⟨v, rfl, hr, hb⟩
              have hlen : (stepV l0 l1 ln5 x).1.length = l1.length := by exact stepV_length V1.out ln5 Q8.out x
              obtain ⟨ln6, hln⟩ : ∃ l, l = (stepV l0 l1 ln5 x).1 := ⟨_, rfl⟩
              rw [← hln] at hr hlen
              obtain ⟨bn6, dn6, rfl, hdd, hlo, hhi, hRn, hCn⟩ := lev_new hr (by rw [hlen]; have := M1.out; omega) BW.out.size
              have o9_ := lev_lt R9.out (by have := L9.out; omega)
              have R9 := Aside0.mk (R_keep (ok' := fun k => k = bn4) R9.out hb (fun k h _ => h))
              have C9 := Aside0.mk (Kd.C_below C9.out hb)
              have R8 := Aside0.mk hRn
              have C8 := Aside0.mk hCn
              have E8 := Aside0.mk hdd
              have L8 : Aside0 (1 ≤ ln6.length ∧ ln6.length ≤ 6) := ⟨by rw [hlen]; exact M1.out⟩
              have Q8 : Aside0 (ln6.length = l1.length) := ⟨hlen⟩
              have R10 := Aside0.mk (R_keep (ok' := fun k => k ≠ bn6 ∧ k ≠ bn4) R10.out hb (fun k h hk => ⟨by omega, h.2⟩))
              have N89 : Aside0 (bn6 ≠ bn4) := ⟨by omega⟩
              have BW := Aside0.mk (below_le BW.out hb)
              have HL6 := Aside0.mk hln
              clear hb hr hdd hlo hhi hRn hCn hlen hln o9_
              go_wp2_with fail
              go_roundg (us.length - (kk + 1))
              case measure => omega
              case rel =>
                refine ⟨kk + 1, bn6, bn4, dn6, dn4, (wh ++ [3]), ln6, ln4, b, by omega, by omega, by rw [wrap_succ hlt (by have := HL.out; omega)], by rfl, rfl, rfl, ⟨?_⟩, R8, R9, R10, ⟨Q8.out, Q9.out, E8.out, E9.out⟩, ⟨by have := NB.out; simp only [List.length_append, List.length_singleton]; omega, by have := NB.out; omega, by have := NB.out; omega, N89.out⟩, BW⟩
                rw [HL6.out, HL5.out, HL4.out]; exact HRS.out
    · have hltz : ¬ (kk : Int) < (us.length : Int) := by omega
      obtain rfl : kk = us.length := by omega
      have HR := HRES.out
      rw [List.drop_length] at HR
      simp only [stackV, Prod.mk.injEq] at HR
      obtain ⟨rfl, rfl, rfl, rfl⟩ := HR
      clear HRES
      go_wp2_with fail
      (try simp only [Exit.inBlock, Exit.then])
      refine bodyPost_ret (results_tmp4 rfl _ _) rfl ?_
      refine ⟨_, _, _, rfl, ?_, ?_, ?_, BW.out⟩
      · exact Kd.R_mono R10.out (fun k hk => ⟨fun e => hk.1 (Option.some.inj (show some k = some b8 from e)), fun e => hk.2 (Option.some.inj (show some k = some b9 from e))⟩)
      · exact Kd.R_mono R8.out (fun k hk => ⟨fun e => (R10.out.1 k e.symm).1 hk, fun e => NB.out.2.2.2 (hk.symm.trans (Option.some.inj (show some k = some b9 from e)))⟩)
      · exact Kd.R_mono R9.out (fun k hk => ⟨fun e => (R10.out.1 k e.symm).2 hk, fun e => NB.out.2.2.2 ((Option.some.inj (show some k = some b8 from e)).symm.trans hk)⟩)
set_option maxHeartbeats 4000000 in
set_option maxRecDepth 100000 in
theorem xStack2 (g0 : Nat) (A0 : Option Addr) (c0 : Nat) (l0 : List (List Int)) (A1 : Option Addr) (c1 : Nat) (l1 : List Int) (A2 : Option Addr) (c2 : Nat) (l2 : List (List Int)) (A3 : Option Addr) (c3 : Nat) (l3 : List Int) (A5 : Option Addr) (c5 : Nat) (us : List Int) (w : World) (hb0 : w.heap[g0]? = some (.cells #[.slice A0 l0.length c0, .slice A1 l1.length c1, .slice A2 l2.length c2, .slice A3 l3.length c3, .int .i64 2] 53 (0, 0))) (hr0 : Kd.C (Kd.slice 2 (Kd.int .i64)) w A0 l0.length l0) (hc0 : l0.length ≤ c0) (hr1 : Kd.C (Kd.int .i64) w A1 l1.length l1) (hc1 : l1.length ≤ c1) (hr2 : Kd.C (Kd.slice 2 (Kd.int .i64)) w A2 l2.length l2) (hc2 : l2.length ≤ c2) (hr3 : Kd.C (Kd.int .i64) w A3 l3.length l3) (hc3 : l3.length ≤ c3) (hr5 : Kd.C (Kd.int .i64) w A5 us.length us) (hc5 : us.length ≤ c5) (hl : us.length ≤ 1048576) (v1 : validB l0 l1 = true) (v2 : validB l2 l3 = true) (WH FF SS : List Int) (BB : Int) (hR : stackV l0 l1 l2 l3 2 us [] (List.replicate l1.length (-1)) (List.replicate l3.length (-1)) 0 = (WH, FF, SS, BB)) :
    Calls Try.prog 65 #[.pointer (some ⟨g0, 0, none⟩), .slice A5 us.length c5] w fun e w' => ∃ v0 v1 v2, e = .returned (.tuple #[v0, v1, v2, .int .i64 BB]) ∧ Kd.R (Kd.int .i64) 2 w' w.heap.size (fun k => some k ≠ (v1 : Value).ownBlock ∧ some k ≠ (v2 : Value).ownBlock) v0 WH ∧ Kd.R (Kd.int .i64) 2 w' w.heap.size (fun k => some k ≠ (v0 : Value).ownBlock ∧ some k ≠ (v2 : Value).ownBlock) v1 FF ∧ Kd.R (Kd.int .i64) 2 w' w.heap.size (fun k => some k ≠ (v0 : Value).ownBlock ∧ some k ≠ (v1 : Value).ownBlock) v2 SS ∧ Below w.heap.size w w' := by
  have HBX := Aside0.mk hb0
  have HL := Aside0.mk hl
  have V1 := Aside0.mk v1
  have V2 := Aside0.mk v2
  have HT0 := Aside0.mk hr0
  have HT1 := Aside0.mk hr1
  have HT2 := Aside0.mk hr2
  have HT3 := Aside0.mk hr3
  have HT5 := Aside0.mk hr5
  obtain ⟨ke1, hke1⟩ := specEmpty_ev l0 l1 (by have := valid_facts V1.out; omega)
  obtain ⟨ke2, hke2⟩ := specEmpty_ev l2 l3 (by have := valid_facts V2.out; omega)
  obtain ⟨f0, hf0⟩ : ∃ f, f = List.replicate l1.length (-1 : Int) := ⟨_, rfl⟩
  obtain ⟨s0, hs0⟩ : ∃ f, f = List.replicate l3.length (-1 : Int) := ⟨_, rfl⟩
  rw [← hf0] at hke1 hR
  rw [← hs0] at hke2 hR
  have HRES := Aside0.mk hR
  have LF : Aside0 (f0.length = l1.length) := ⟨by rw [hf0]; exact List.length_replicate ..⟩
  have LS : Aside0 (s0.length = l3.length) := ⟨by rw [hs0]; exact List.length_replicate ..⟩
  clear hf0 hs0
  have HE1 := Aside0.mk (hke1 ke1 (Nat.le_refl _))
  have HE2 := Aside0.mk (hke2 ke2 (Nat.le_refl _))
  have M1 : Aside0 (1 ≤ l1.length ∧ l1.length ≤ 6) := ⟨⟨(valid_facts V1.out).1, (valid_facts V1.out).2.1⟩⟩
  have M2 : Aside0 (1 ≤ l3.length ∧ l3.length ≤ 6) := ⟨⟨(valid_facts V2.out).1, (valid_facts V2.out).2.1⟩⟩
  clear hb0 hl v1 v2 hR hr0 hr1 hr2 hr3 hr5 hke1 hke2
  go_enter Try.func65, Try.ntmps65
  go_wp2_with fail
  refine (spec_l03Empty.gen ke1 g0 A0 c0 l0 A1 c1 l1 _ _ #[.slice A0 l0.length c0, .slice A1 l1.length c1, .slice A2 l2.length c2, .slice A3 l3.length c3, .int .i64 2] 53 0 rfl rfl (by decide) (blk_below HBX.out (Below.refl _ _)) (Kd.C_below HT0.out (Below.refl _ _)) hc0 (Kd.C_below HT1.out (Below.refl _ _)) hc1 HE1.out).mono ?_
  rintro e w1 ⟨v8, rfl, hr8, hb1⟩
  obtain ⟨b8, d8, rfl, hd8, lo8, hi8, R8, C8⟩ := lev_new hr8 (by have := LF.out; have := M1.out; omega) (Nat.le_refl _)
  have R8 := Aside0.mk R8
  have HB1 := Aside0.mk hb1
  have D8 := Aside0.mk hd8
  have I8 := Aside0.mk (And.intro lo8 hi8)
  clear hr8 hb1 hd8 lo8 hi8 C8
  go_wp2_with fail
  refine (spec_l03Empty.gen ke2 g0 A2 c2 l2 A3 c3 l3 _ _ #[.slice A0 l0.length c0, .slice A1 l1.length c1, .slice A2 l2.length c2, .slice A3 l3.length c3, .int .i64 2] 53 2 rfl rfl (by decide) (blk_below HBX.out HB1.out) (Kd.C_below HT2.out HB1.out) hc2 (Kd.C_below HT3.out HB1.out) hc3 HE2.out).mono ?_
  rintro e w2 ⟨v9, rfl, hr9, hb2⟩
  obtain ⟨b9, d9, rfl, hd9, lo9, hi9, R9, C9⟩ := lev_new hr9 (by have := LS.out; have := M2.out; omega) HB1.out.size
  have R9 := Aside0.mk R9
  have HB2 := Aside0.mk (below_le HB1.out hb2)
  have R8 := Aside0.mk (R_keep (ok' := fun k => k = b8) R8.out hb2 (fun k h _ => h))
  have D9 := Aside0.mk hd9
  have I9 := Aside0.mk (And.intro lo9 hi9)
  clear hr9 hb2 hd9 lo9 hi9 C9
  go_wp2_with ((with_reducible refine gate_dst (N := 28) rfl ?_); refine Kd.R_lit (Kd.int .i64) _ 2 ?hg (N := 28) ?hd (xs := ([] : List Int)) (inner := []) (ok := fun k => k ≠ b8 ∧ k ≠ b9) (okp := fun _ => False) ?hr ?hp (fun _ hk => hk.elim) ⟨by have := I8.out; have := I9.out; omega, by have := I9.out; omega⟩ (Below.refl _ _) (Nat.le_refl _) (by simp) ?_; (case hd => rfl); (case hg => rfl); (case hr => first | (go_simp; done) | (go_simp; rfl)); (case hp => exact (Reps.none _ _)); intro v10 w3 ho4 hb hg_ hnew_; have HO := Aside0.mk ho4; have HB3 := Aside0.mk hb; clear hg_ hnew_ ho4 hb)
  have R10 : Aside0 (Kd.R (Kd.int .i64) 2 w3 w.heap.size (fun k => k ≠ b8 ∧ k ≠ b9) v10 []) := ⟨Kd.R_lower HO.out HB2.out.size⟩
  have R8 := Aside0.mk (R_keep (ok' := fun k => k = b8) R8.out HB3.out (fun k h _ => h))
  have R9 := Aside0.mk (R_keep (ok' := fun k => k = b9) R9.out HB3.out (fun k h _ => h))
  have HB3 := Aside0.mk (below_le HB2.out HB3.out)
  have N89 : Aside0 (b8 ≠ b9) := ⟨by have := I8.out; have := I9.out; omega⟩
  clear HO HB2 HB1 HE1 HE2 I8 I9
  go_loopg [8, 9, 10, 11, 12] us.length (fun gg s8 s9 s10 s11 s12 wr => ∃ (kk b8 b9 d8 d9 : Nat) (wh f s : List Int) (b : Int), kk ≤ us.length ∧ us.length - kk ≤ gg ∧ s12 = .int .i64 kk ∧ s11 = .int .i64 b ∧ s8 = .slice (some ⟨b8, 0, none⟩) f.length d8 ∧ s9 = .slice (some ⟨b9, 0, none⟩) s.length d9 ∧ Aside0 (stackV l0 l1 l2 l3 2 (us.drop kk) wh f s b = (WH, FF, SS, BB)) ∧ Aside0 (Kd.R (Kd.int .i64) 2 wr w.heap.size (fun k => k = b8) s8 f) ∧ Aside0 (Kd.R (Kd.int .i64) 2 wr w.heap.size (fun k => k = b9) s9 s) ∧ Aside0 (Kd.R (Kd.int .i64) 2 wr w.heap.size (fun k => k ≠ b8 ∧ k ≠ b9) s10 wh) ∧ Aside0 (f.length = l1.length ∧ s.length = l3.length ∧ f.length ≤ d8 ∧ s.length ≤ d9) ∧ Aside0 (wh.length ≤ kk ∧ 0 ≤ b ∧ b ≤ kk ∧ b8 ≠ b9) ∧ Aside0 (Below w.heap.size w wr))
  case atStart => exact ⟨0, b8, b9, d8, d9, [], _, _, 0, Nat.zero_le _, by omega, rfl, rfl, rfl, rfl, ⟨by simpa using HRES.out⟩, R8, R9, R10, ⟨LF.out, LS.out, D8.out, D9.out⟩, ⟨by simp, by omega, by omega, N89.out⟩, HB3⟩
  case round =>
    clear R8 R9 R10 HB3 HRES D8 D9 N89 LF LS
    obtain ⟨kk, b8, b9, d8, d9, wh, f, s, b, hkk, hg, rfl, rfl, rfl, rfl, HRES, R8, R9, R10, LN, NB, BW⟩ := hrel
    by_cases hlt : kk < us.length
    · skip
      have hltz : (kk : Int) < (us.length : Int) := by omega
      obtain ⟨x, hx⟩ : ∃ x, x = us.getD kk 0 := ⟨_, rfl⟩
      obtain ⟨adU, eU, hxU⟩ := Kd.at_int (Kd.C_below HT5.out BW.out) (kk : Int) (by omega) hltz
      cases eU
      have ex : rd us (kk : Int) = x := by rw [hx]; rfl
      rw [ex, Int.toNat_natCast] at hxU
      have HRS := HRES.out
      rw [drop_cons us kk 0 hlt, ← hx] at HRS
      unfold stackV at HRS
      replace HRS := Aside0.mk HRS
      clear HRES ex hx
      obtain ⟨_, _, e8, _, C8⟩ := Kd.R_reads R8.out
      cases e8
      obtain ⟨_, _, e9, _, C9⟩ := Kd.R_reads R9.out
      cases e9
      have C8 := Aside0.mk C8
      have C9 := Aside0.mk C9
      have E8 : Aside0 (f.length ≤ d8) := ⟨LN.out.2.2.1⟩
      have E9 : Aside0 (s.length ≤ d9) := ⟨LN.out.2.2.2⟩
      have Q8 : Aside0 (f.length = l1.length) := ⟨LN.out.1⟩
      have Q9 : Aside0 (s.length = l3.length) := ⟨LN.out.2.1⟩
      have L8 : Aside0 (1 ≤ f.length ∧ f.length ≤ 6) := ⟨by have := Q8.out; have := M1.out; omega⟩
      have L9 : Aside0 (1 ≤ s.length ∧ s.length ≤ 6) := ⟨by have := Q9.out; have := M2.out; omega⟩
      obtain ⟨q8, hq8⟩ : ∃ q, hasB f x = q := ⟨_, rfl⟩
      have HB8 := Aside0.mk hq8
      rw [hq8] at HRS
      clear hq8 LN
      cases q8 with
      | true =>
        replace HRS := HRS.out
        simp only [if_true] at HRS
        replace HRS := Aside0.mk HRS
        obtain ⟨kq, hkq⟩ := specHas_ev f x (by have := L8.out; omega)
        have HQ : Aside0 (spec_l00Has.f kq f x = some true) := ⟨(hkq kq (Nat.le_refl _)).trans (by rw [show (f.any fun y => decide (y = x)) = true from HB8.out])⟩
        clear hkq
        go_wp2_with fail
        refine (spec_l00Has.calls kq (some ⟨b8, 0, none⟩) d8 f x true _ C8.out E8.out HQ.out).mono ?_
        rintro e wq1 ⟨rfl, hd⟩
        have hb := hd.below
        have R8 := Aside0.mk (R_keep (ok' := fun k => k = b8) R8.out hb (fun k h _ => h))
        have C8 := Aside0.mk (Kd.C_below C8.out hb)
        have R9 := Aside0.mk (R_keep (ok' := fun k => k = b9) R9.out hb (fun k h _ => h))
        have C9 := Aside0.mk (Kd.C_below C9.out hb)
        have R10 := Aside0.mk (R_keep (ok' := fun k => k ≠ b8 ∧ k ≠ b9) R10.out hb (fun k h _ => h))
        have BW := Aside0.mk (below_le BW.out hb)
        clear hb hd HQ kq
        have AL : Aside0 ((wh.length + 1) * 8 ≤ 140737488355328) := ⟨by have := NB.out; have := HL.out; omega⟩
        go_wp2_with ((with_reducible refine gate_builtin (b := .append) (xs := #[.tmp 42, .tmp 43]) rfl ?_); at_builtin; refine Kd.R_append (Kd.int .i64) (w0 := w) w.heap.size rfl (.tmp 42) (.tmp 43) 24 2 (.int .i64 0) 8 rfl Try.underlying24 svInfo rfl (by decide) (by omega) u10 wh 1 [.int .i64 1] (fun k => k ≠ b8 ∧ k ≠ b9) (fun _ => False) rfl rfl ?aP (fun _ hk => hk.elim) ?aF ?aO ?aB ?aS ?aL ?_; (case aP => exact rfl); (case aB => exact BW.out); (case aF => exact (fun k hk => ⟨by have := lev_lt R8.out (by have := L8.out; omega); omega, by have := lev_lt R9.out (by have := L9.out; omega); omega⟩)); (case aO => exact R10.out); (case aS => exact BW.out.size); (case aL => exact AL.out); intro v10 wq2 ho hb hg hat; have HO := Aside0.mk ho; have HB := Aside0.mk hb; have R8' := Aside0.mk (Kd.R_grown2 R8.out rfl hg (fun k hk e => (R10.out.1 k hk).1 (Option.some.inj (show some k = some b8 from e)))); have R9' := Aside0.mk (Kd.R_grown2 R9.out rfl hg (fun k hk e => (R10.out.1 k hk).2 (Option.some.inj (show some k = some b9 from e)))); clear ho hb hg hat)
        have R8 := R8'
        have R9 := R9'
        have R10 := HO
        have BW := HB
        clear R8' R9' HO HB AL
        obtain ⟨_, _, e8, _, C8⟩ := Kd.R_reads R8.out
        cases e8
        obtain ⟨_, _, e9, _, C9⟩ := Kd.R_reads R9.out
        cases e9
        have C8 := Aside0.mk C8
        have C9 := Aside0.mk C9
        go_wp2_with fail
        refine (spec_l03Step.gen g0 A0 c0 l0 A1 c1 l1 (some ⟨b8, 0, none⟩) d8 f x _ #[.slice A0 l0.length c0, .slice A1 l1.length c1, .slice A2 l2.length c2, .slice A3 l3.length c3, .int .i64 2] 53 0 rfl rfl (blk_below HBX.out BW.out) (Kd.C_below HT0.out BW.out) hc0 (Kd.C_below HT1.out BW.out) hc1 C8.out E8.out (okStep_valid V1.out f Q8.out x)).mono ?_
        rintro e wq3 ⟨v, rfl, hr, hb⟩
        have hlen : (stepV l0 l1 f x).1.length = l1.length := by exact stepV_length V1.out f Q8.out x
        obtain ⟨ln3, hln⟩ : ∃ l, l = (stepV l0 l1 f x).1 := ⟨_, rfl⟩
        rw [← hln] at hr hlen
        obtain ⟨bn3, dn3, rfl, hdd, hlo, hhi, hRn, hCn⟩ := lev_new hr (by rw [hlen]; have := M1.out; omega) BW.out.size
        have o9_ := lev_lt R9.out (by have := L9.out; omega)
        have R9 := Aside0.mk (R_keep (ok' := fun k => k = b9) R9.out hb (fun k h _ => h))
        have C9 := Aside0.mk (Kd.C_below C9.out hb)
        have R8 := Aside0.mk hRn
        have C8 := Aside0.mk hCn
        have E8 := Aside0.mk hdd
        have L8 : Aside0 (1 ≤ ln3.length ∧ ln3.length ≤ 6) := ⟨by rw [hlen]; exact M1.out⟩
        have Q8 : Aside0 (ln3.length = l1.length) := ⟨hlen⟩
        have R10 := Aside0.mk (R_keep (ok' := fun k => k ≠ bn3 ∧ k ≠ b9) R10.out hb (fun k h hk => ⟨by omega, h.2⟩))
        have N89 : Aside0 (bn3 ≠ b9) := ⟨by omega⟩
        have BW := Aside0.mk (below_le BW.out hb)
        have HL3 := Aside0.mk hln
        clear hb hr hdd hlo hhi hRn hCn hlen hln o9_
        go_wp2_with fail
        go_roundg (us.length - (kk + 1))
        case measure => omega
        case rel =>
          refine ⟨kk + 1, bn3, b9, dn3, d9, (wh ++ [1]), ln3, s, b, by omega, by omega, by rw [wrap_succ hlt (by have := HL.out; omega)], by rfl, rfl, rfl, ⟨?_⟩, R8, R9, R10, ⟨Q8.out, Q9.out, E8.out, E9.out⟩, ⟨by have := NB.out; simp only [List.length_append, List.length_singleton]; omega, by have := NB.out; omega, by have := NB.out; omega, N89.out⟩, BW⟩
          rw [HL3.out]; exact HRS.out
      | false =>
        obtain ⟨q9, hq9⟩ : ∃ q, hasB s x = q := ⟨_, rfl⟩
        have HB9 := Aside0.mk hq9
        rw [hq9] at HRS
        clear hq9
        cases q9 with
        | true =>
          replace HRS := HRS.out
          simp only [Bool.false_eq_true, if_false, if_true] at HRS
          replace HRS := Aside0.mk HRS
          obtain ⟨kq, hkq⟩ := specHas_ev f x (by have := L8.out; omega)
          have HQ : Aside0 (spec_l00Has.f kq f x = some false) := ⟨(hkq kq (Nat.le_refl _)).trans (by rw [show (f.any fun y => decide (y = x)) = false from HB8.out])⟩
          clear hkq
          go_wp2_with fail
          refine (spec_l00Has.calls kq (some ⟨b8, 0, none⟩) d8 f x false _ C8.out E8.out HQ.out).mono ?_
          rintro e wq1 ⟨rfl, hd⟩
          have hb := hd.below
          have R8 := Aside0.mk (R_keep (ok' := fun k => k = b8) R8.out hb (fun k h _ => h))
          have C8 := Aside0.mk (Kd.C_below C8.out hb)
          have R9 := Aside0.mk (R_keep (ok' := fun k => k = b9) R9.out hb (fun k h _ => h))
          have C9 := Aside0.mk (Kd.C_below C9.out hb)
          have R10 := Aside0.mk (R_keep (ok' := fun k => k ≠ b8 ∧ k ≠ b9) R10.out hb (fun k h _ => h))
          have BW := Aside0.mk (below_le BW.out hb)
          clear hb hd HQ kq
          obtain ⟨kq, hkq⟩ := specHas_ev s x (by have := L9.out; omega)
          have HQ : Aside0 (spec_l00Has.f kq s x = some true) := ⟨(hkq kq (Nat.le_refl _)).trans (by rw [show (s.any fun y => decide (y = x)) = true from HB9.out])⟩
          clear hkq
          go_wp2_with fail
          refine (spec_l00Has.calls kq (some ⟨b9, 0, none⟩) d9 s x true _ C9.out E9.out HQ.out).mono ?_
          rintro e wq2 ⟨rfl, hd⟩
          have hb := hd.below
          have R8 := Aside0.mk (R_keep (ok' := fun k => k = b8) R8.out hb (fun k h _ => h))
          have C8 := Aside0.mk (Kd.C_below C8.out hb)
          have R9 := Aside0.mk (R_keep (ok' := fun k => k = b9) R9.out hb (fun k h _ => h))
          have C9 := Aside0.mk (Kd.C_below C9.out hb)
          have R10 := Aside0.mk (R_keep (ok' := fun k => k ≠ b8 ∧ k ≠ b9) R10.out hb (fun k h _ => h))
          have BW := Aside0.mk (below_le BW.out hb)
          clear hb hd HQ kq
          have AL : Aside0 ((wh.length + 1) * 8 ≤ 140737488355328) := ⟨by have := NB.out; have := HL.out; omega⟩
          go_wp2_with ((with_reducible refine gate_builtin (b := .append) (xs := #[.tmp 57, .tmp 58]) rfl ?_); at_builtin; refine Kd.R_append (Kd.int .i64) (w0 := w) w.heap.size rfl (.tmp 57) (.tmp 58) 24 2 (.int .i64 0) 8 rfl Try.underlying24 svInfo rfl (by decide) (by omega) u10 wh 2 [.int .i64 2] (fun k => k ≠ b8 ∧ k ≠ b9) (fun _ => False) rfl rfl ?aP (fun _ hk => hk.elim) ?aF ?aO ?aB ?aS ?aL ?_; (case aP => exact rfl); (case aB => exact BW.out); (case aF => exact (fun k hk => ⟨by have := lev_lt R8.out (by have := L8.out; omega); omega, by have := lev_lt R9.out (by have := L9.out; omega); omega⟩)); (case aO => exact R10.out); (case aS => exact BW.out.size); (case aL => exact AL.out); intro v10 wq3 ho hb hg hat; have HO := Aside0.mk ho; have HB := Aside0.mk hb; have R8' := Aside0.mk (Kd.R_grown2 R8.out rfl hg (fun k hk e => (R10.out.1 k hk).1 (Option.some.inj (show some k = some b8 from e)))); have R9' := Aside0.mk (Kd.R_grown2 R9.out rfl hg (fun k hk e => (R10.out.1 k hk).2 (Option.some.inj (show some k = some b9 from e)))); have qm : wq3.cell? ⟨g0, 4, none⟩ = some (.int .i64 2) := (blk_cell (blk_below HBX.out HB.out) 4).trans rfl; clear ho hb hg hat)
          have R8 := R8'
          have R9 := R9'
          have R10 := HO
          have BW := HB
          clear R8' R9' HO HB AL
          obtain ⟨_, _, e8, _, C8⟩ := Kd.R_reads R8.out
          cases e8
          obtain ⟨_, _, e9, _, C9⟩ := Kd.R_reads R9.out
          cases e9
          have C8 := Aside0.mk C8
          have C9 := Aside0.mk C9
          obtain ⟨wz, hwz⟩ : ∃ q, (takeV s x).2 = q := ⟨_, rfl⟩
          have WAS := Aside0.mk hwz
          clear hwz
          obtain ⟨kt, hkt⟩ := take_ev s x (by have := L9.out; omega)
          have HTK : Aside0 (spec_l07Take.f kt s x = some ((takeV s x).1, wz)) := ⟨(hkt kt (Nat.le_refl _)).trans (by rw [← WAS.out])⟩
          clear hkt
          go_wp2_with fail
          refine (spec_l07Take.calls kt (some ⟨b9, 0, none⟩) d9 s x _ _ _ C9.out E9.out HTK.out).mono ?_
          rintro e wq4 ⟨v, rfl, hr, hb⟩
          have hlen : (takeV s x).1.length = l3.length := by rw [takeV_length]; exact Q9.out
          obtain ⟨ln4, hln⟩ : ∃ l, l = (takeV s x).1 := ⟨_, rfl⟩
          rw [← hln] at hr hlen
          obtain ⟨bn4, dn4, rfl, hdd, hlo, hhi, hRn, hCn⟩ := lev_new hr (by rw [hlen]; have := M2.out; omega) BW.out.size
          have o8_ := lev_lt R8.out (by have := L8.out; omega)
          have R8 := Aside0.mk (R_keep (ok' := fun k => k = b8) R8.out hb (fun k h _ => h))
          have C8 := Aside0.mk (Kd.C_below C8.out hb)
          have R9 := Aside0.mk hRn
          have C9 := Aside0.mk hCn
          have E9 := Aside0.mk hdd
          have L9 : Aside0 (1 ≤ ln4.length ∧ ln4.length ≤ 6) := ⟨by rw [hlen]; exact M2.out⟩
          have Q9 : Aside0 (ln4.length = l3.length) := ⟨hlen⟩
          have R10 := Aside0.mk (R_keep (ok' := fun k => k ≠ b8 ∧ k ≠ bn4) R10.out hb (fun k h hk => ⟨h.1, by omega⟩))
          have N89 : Aside0 (b8 ≠ bn4) := ⟨by omega⟩
          have BW := Aside0.mk (below_le BW.out hb)
          have HL4 := Aside0.mk hln
          clear hb hr hdd hlo hhi hRn hCn hlen hln o8_
          clear HTK kt
          have lc := lev_cell R8.out (show f.length - 1 < f.length by have := L8.out; omega)
          have n1 : 0 ≤ (f.length : Int) - 1 := by have := L8.out; omega
          have n2 : (f.length : Int) - 1 < (f.length : Int) := by omega
          have n3 : ((f.length : Int) - 1).toNat = f.length - 1 := by omega
          have n5 := L8.out.1
          have n6 := L8.out.2
          have n4 : wrap64 ((f.length : Int) - 1) = (f.length : Int) - 1 := wrap_id (by omega) (by omega)
          obtain ⟨gone, hgo⟩ : ∃ g, g = f.getD (f.length - 1) 0 := ⟨_, rfl⟩
          rw [← hgo] at lc HRS
          clear hgo
          go_wp2_with fail
          refine (spec_l03Step.gen g0 A0 c0 l0 A1 c1 l1 (some ⟨b8, 0, none⟩) d8 f x _ #[.slice A0 l0.length c0, .slice A1 l1.length c1, .slice A2 l2.length c2, .slice A3 l3.length c3, .int .i64 2] 53 0 rfl rfl (blk_below HBX.out BW.out) (Kd.C_below HT0.out BW.out) hc0 (Kd.C_below HT1.out BW.out) hc1 C8.out E8.out (okStep_valid V1.out f Q8.out x)).mono ?_
          rintro e wq5 ⟨v, rfl, hr, hb⟩
          have hlen : (stepV l0 l1 f x).1.length = l1.length := by exact stepV_length V1.out f Q8.out x
          obtain ⟨ln5, hln⟩ : ∃ l, l = (stepV l0 l1 f x).1 := ⟨_, rfl⟩
          rw [← hln] at hr hlen
          obtain ⟨bn5, dn5, rfl, hdd, hlo, hhi, hRn, hCn⟩ := lev_new hr (by rw [hlen]; have := M1.out; omega) BW.out.size
          have o9_ := lev_lt R9.out (by have := L9.out; omega)
          have R9 := Aside0.mk (R_keep (ok' := fun k => k = bn4) R9.out hb (fun k h _ => h))
          have C9 := Aside0.mk (Kd.C_below C9.out hb)
          have R8 := Aside0.mk hRn
          have C8 := Aside0.mk hCn
          have E8 := Aside0.mk hdd
          have L8 : Aside0 (1 ≤ ln5.length ∧ ln5.length ≤ 6) := ⟨by rw [hlen]; exact M1.out⟩
          have Q8 : Aside0 (ln5.length = l1.length) := ⟨hlen⟩
          have R10 := Aside0.mk (R_keep (ok' := fun k => k ≠ bn5 ∧ k ≠ bn4) R10.out hb (fun k h hk => ⟨by omega, h.2⟩))
          have N89 : Aside0 (bn5 ≠ bn4) := ⟨by omega⟩
          have BW := Aside0.mk (below_le BW.out hb)
          have HL5 := Aside0.mk hln
          clear hb hr hdd hlo hhi hRn hCn hlen hln o9_
          clear lc n1 n2 n3
          by_cases hgo : gone ≥ 0
          · replace HRS := HRS.out
            simp only [if_pos hgo] at HRS
            replace HRS := Aside0.mk HRS
            go_wp2_with fail
            refine (spec_l03Step.gen g0 A2 c2 l2 A3 c3 l3 (some ⟨bn4, 0, none⟩) dn4 ln4 gone _ #[.slice A0 l0.length c0, .slice A1 l1.length c1, .slice A2 l2.length c2, .slice A3 l3.length c3, .int .i64 2] 53 2 rfl rfl (blk_below HBX.out BW.out) (Kd.C_below HT2.out BW.out) hc2 (Kd.C_below HT3.out BW.out) hc3 C9.out E9.out (okStep_valid V2.out ln4 Q9.out gone)).mono ?_
            rintro e wq6 ⟨v, rfl, hr, hb⟩
            have hlen : (stepV l2 l3 ln4 gone).1.length = l3.length := by exact stepV_length V2.out ln4 Q9.out gone
            obtain ⟨ln6, hln⟩ : ∃ l, l = (stepV l2 l3 ln4 gone).1 := ⟨_, rfl⟩
            rw [← hln] at hr hlen
            obtain ⟨bn6, dn6, rfl, hdd, hlo, hhi, hRn, hCn⟩ := lev_new hr (by rw [hlen]; have := M2.out; omega) BW.out.size
            have o8_ := lev_lt R8.out (by have := L8.out; omega)
            have R8 := Aside0.mk (R_keep (ok' := fun k => k = bn5) R8.out hb (fun k h _ => h))
            have C8 := Aside0.mk (Kd.C_below C8.out hb)
            have R9 := Aside0.mk hRn
            have C9 := Aside0.mk hCn
            have E9 := Aside0.mk hdd
            have L9 : Aside0 (1 ≤ ln6.length ∧ ln6.length ≤ 6) := ⟨by rw [hlen]; exact M2.out⟩
            have Q9 : Aside0 (ln6.length = l3.length) := ⟨hlen⟩
            have R10 := Aside0.mk (R_keep (ok' := fun k => k ≠ bn5 ∧ k ≠ bn6) R10.out hb (fun k h hk => ⟨h.1, by omega⟩))
            have N89 : Aside0 (bn5 ≠ bn6) := ⟨by omega⟩
            have BW := Aside0.mk (below_le BW.out hb)
            have HL6 := Aside0.mk hln
            clear hb hr hdd hlo hhi hRn hCn hlen hln o8_
            go_wp2_with fail
            go_roundg (us.length - (kk + 1))
            case measure => omega
            case rel =>
              refine ⟨kk + 1, bn5, bn6, dn5, dn6, (wh ++ [2]), ln5, ln6, b, by omega, by omega, by rw [wrap_succ hlt (by have := HL.out; omega)], by rfl, rfl, rfl, ⟨?_⟩, R8, R9, R10, ⟨Q8.out, Q9.out, E8.out, E9.out⟩, ⟨by have := NB.out; simp only [List.length_append, List.length_singleton]; omega, by have := NB.out; omega, by have := NB.out; omega, N89.out⟩, BW⟩
              rw [HL6.out, HL5.out, HL4.out]; exact HRS.out
          · replace HRS := HRS.out
            simp only [if_neg hgo] at HRS
            replace HRS := Aside0.mk HRS
            go_wp2_with fail
            go_roundg (us.length - (kk + 1))
            case measure => omega
            case rel =>
              refine ⟨kk + 1, bn5, bn4, dn5, dn4, (wh ++ [2]), ln5, ln4, b, by omega, by omega, by rw [wrap_succ hlt (by have := HL.out; omega)], by rfl, rfl, rfl, ⟨?_⟩, R8, R9, R10, ⟨Q8.out, Q9.out, E8.out, E9.out⟩, ⟨by have := NB.out; simp only [List.length_append, List.length_singleton]; omega, by have := NB.out; omega, by have := NB.out; omega, N89.out⟩, BW⟩
              rw [HL5.out, HL4.out]; exact HRS.out
        | false =>
          replace HRS := HRS.out
          simp only [Bool.false_eq_true, if_false, if_true] at HRS
          replace HRS := Aside0.mk HRS
          obtain ⟨kq, hkq⟩ := specHas_ev f x (by have := L8.out; omega)
          have HQ : Aside0 (spec_l00Has.f kq f x = some false) := ⟨(hkq kq (Nat.le_refl _)).trans (by rw [show (f.any fun y => decide (y = x)) = false from HB8.out])⟩
          clear hkq
          go_wp2_with fail
          refine (spec_l00Has.calls kq (some ⟨b8, 0, none⟩) d8 f x false _ C8.out E8.out HQ.out).mono ?_
          rintro e wq1 ⟨rfl, hd⟩
          have hb := hd.below
          have R8 := Aside0.mk (R_keep (ok' := fun k => k = b8) R8.out hb (fun k h _ => h))
          have C8 := Aside0.mk (Kd.C_below C8.out hb)
          have R9 := Aside0.mk (R_keep (ok' := fun k => k = b9) R9.out hb (fun k h _ => h))
          have C9 := Aside0.mk (Kd.C_below C9.out hb)
          have R10 := Aside0.mk (R_keep (ok' := fun k => k ≠ b8 ∧ k ≠ b9) R10.out hb (fun k h _ => h))
          have BW := Aside0.mk (below_le BW.out hb)
          clear hb hd HQ kq
          obtain ⟨kq, hkq⟩ := specHas_ev s x (by have := L9.out; omega)
          have HQ : Aside0 (spec_l00Has.f kq s x = some false) := ⟨(hkq kq (Nat.le_refl _)).trans (by rw [show (s.any fun y => decide (y = x)) = false from HB9.out])⟩
          clear hkq
          go_wp2_with fail
          refine (spec_l00Has.calls kq (some ⟨b9, 0, none⟩) d9 s x false _ C9.out E9.out HQ.out).mono ?_
          rintro e wq2 ⟨rfl, hd⟩
          have hb := hd.below
          have R8 := Aside0.mk (R_keep (ok' := fun k => k = b8) R8.out hb (fun k h _ => h))
          have C8 := Aside0.mk (Kd.C_below C8.out hb)
          have R9 := Aside0.mk (R_keep (ok' := fun k => k = b9) R9.out hb (fun k h _ => h))
          have C9 := Aside0.mk (Kd.C_below C9.out hb)
          have R10 := Aside0.mk (R_keep (ok' := fun k => k ≠ b8 ∧ k ≠ b9) R10.out hb (fun k h _ => h))
          have BW := Aside0.mk (below_le BW.out hb)
          clear hb hd HQ kq
          have AL : Aside0 ((wh.length + 1) * 8 ≤ 140737488355328) := ⟨by have := NB.out; have := HL.out; omega⟩
          go_wp2_with ((with_reducible refine gate_builtin (b := .append) (xs := #[.tmp 60, .tmp 61]) rfl ?_); at_builtin; refine Kd.R_append (Kd.int .i64) (w0 := w) w.heap.size rfl (.tmp 60) (.tmp 61) 24 2 (.int .i64 0) 8 rfl Try.underlying24 svInfo rfl (by decide) (by omega) u10 wh 3 [.int .i64 3] (fun k => k ≠ b8 ∧ k ≠ b9) (fun _ => False) rfl rfl ?aP (fun _ hk => hk.elim) ?aF ?aO ?aB ?aS ?aL ?_; (case aP => exact rfl); (case aB => exact BW.out); (case aF => exact (fun k hk => ⟨by have := lev_lt R8.out (by have := L8.out; omega); omega, by have := lev_lt R9.out (by have := L9.out; omega); omega⟩)); (case aO => exact R10.out); (case aS => exact BW.out.size); (case aL => exact AL.out); intro v10 wq3 ho hb hg hat; have HO := Aside0.mk ho; have HB := Aside0.mk hb; have R8' := Aside0.mk (Kd.R_grown2 R8.out rfl hg (fun k hk e => (R10.out.1 k hk).1 (Option.some.inj (show some k = some b8 from e)))); have R9' := Aside0.mk (Kd.R_grown2 R9.out rfl hg (fun k hk e => (R10.out.1 k hk).2 (Option.some.inj (show some k = some b9 from e)))); have qm : wq3.cell? ⟨g0, 4, none⟩ = some (.int .i64 2) := (blk_cell (blk_below HBX.out HB.out) 4).trans rfl; clear ho hb hg hat)
          have R8 := R8'
          have R9 := R9'
          have R10 := HO
          have BW := HB
          clear R8' R9' HO HB AL
          obtain ⟨_, _, e8, _, C8⟩ := Kd.R_reads R8.out
          cases e8
          obtain ⟨_, _, e9, _, C9⟩ := Kd.R_reads R9.out
          cases e9
          have C8 := Aside0.mk C8
          have C9 := Aside0.mk C9
          obtain ⟨wz, hwz⟩ : ∃ q, (takeV s x).2 = q := ⟨_, rfl⟩
          have WAS := Aside0.mk hwz
          clear hwz
          obtain ⟨kt, hkt⟩ := take_ev s x (by have := L9.out; omega)
          have HTK : Aside0 (spec_l07Take.f kt s x = some ((takeV s x).1, wz)) := ⟨(hkt kt (Nat.le_refl _)).trans (by rw [← WAS.out])⟩
          clear hkt
          go_wp2_with fail
          refine (spec_l07Take.calls kt (some ⟨b9, 0, none⟩) d9 s x _ _ _ C9.out E9.out HTK.out).mono ?_
          rintro e wq4 ⟨v, rfl, hr, hb⟩
          have hlen : (takeV s x).1.length = l3.length := by rw [takeV_length]; exact Q9.out
          obtain ⟨ln4, hln⟩ : ∃ l, l = (takeV s x).1 := ⟨_, rfl⟩
          rw [← hln] at hr hlen
          obtain ⟨bn4, dn4, rfl, hdd, hlo, hhi, hRn, hCn⟩ := lev_new hr (by rw [hlen]; have := M2.out; omega) BW.out.size
          have o8_ := lev_lt R8.out (by have := L8.out; omega)
          have R8 := Aside0.mk (R_keep (ok' := fun k => k = b8) R8.out hb (fun k h _ => h))
          have C8 := Aside0.mk (Kd.C_below C8.out hb)
          have R9 := Aside0.mk hRn
          have C9 := Aside0.mk hCn
          have E9 := Aside0.mk hdd
          have L9 : Aside0 (1 ≤ ln4.length ∧ ln4.length ≤ 6) := ⟨by rw [hlen]; exact M2.out⟩
          have Q9 : Aside0 (ln4.length = l3.length) := ⟨hlen⟩
          have R10 := Aside0.mk (R_keep (ok' := fun k => k ≠ b8 ∧ k ≠ bn4) R10.out hb (fun k h hk => ⟨h.1, by omega⟩))
          have N89 : Aside0 (b8 ≠ bn4) := ⟨by omega⟩
          have BW := Aside0.mk (below_le BW.out hb)
          have HL4 := Aside0.mk hln
          clear hb hr hdd hlo hhi hRn hCn hlen hln o8_
          clear HTK kt
          have lc := lev_cell R8.out (show f.length - 1 < f.length by have := L8.out; omega)
          have n1 : 0 ≤ (f.length : Int) - 1 := by have := L8.out; omega
          have n2 : (f.length : Int) - 1 < (f.length : Int) := by omega
          have n3 : ((f.length : Int) - 1).toNat = f.length - 1 := by omega
          have n5 := L8.out.1
          have n6 := L8.out.2
          have n4 : wrap64 ((f.length : Int) - 1) = (f.length : Int) - 1 := wrap_id (by omega) (by omega)
          obtain ⟨gone, hgo⟩ : ∃ g, g = f.getD (f.length - 1) 0 := ⟨_, rfl⟩
          rw [← hgo] at lc HRS
          clear hgo
          go_wp2_with fail
          refine (spec_l03Step.gen g0 A0 c0 l0 A1 c1 l1 (some ⟨b8, 0, none⟩) d8 f x _ #[.slice A0 l0.length c0, .slice A1 l1.length c1, .slice A2 l2.length c2, .slice A3 l3.length c3, .int .i64 2] 53 0 rfl rfl (blk_below HBX.out BW.out) (Kd.C_below HT0.out BW.out) hc0 (Kd.C_below HT1.out BW.out) hc1 C8.out E8.out (okStep_valid V1.out f Q8.out x)).mono ?_
          rintro e wq5 ⟨v, rfl, hr, hb⟩
          have hlen : (stepV l0 l1 f x).1.length = l1.length := by exact stepV_length V1.out f Q8.out x
          obtain ⟨ln5, hln⟩ : ∃ l, l = (stepV l0 l1 f x).1 := ⟨_, rfl⟩
          rw [← hln] at hr hlen
          obtain ⟨bn5, dn5, rfl, hdd, hlo, hhi, hRn, hCn⟩ := lev_new hr (by rw [hlen]; have := M1.out; omega) BW.out.size
          have o9_ := lev_lt R9.out (by have := L9.out; omega)
          have R9 := Aside0.mk (R_keep (ok' := fun k => k = bn4) R9.out hb (fun k h _ => h))
          have C9 := Aside0.mk (Kd.C_below C9.out hb)
          have R8 := Aside0.mk hRn
          have C8 := Aside0.mk hCn
          have E8 := Aside0.mk hdd
          have L8 : Aside0 (1 ≤ ln5.length ∧ ln5.length ≤ 6) := ⟨by rw [hlen]; exact M1.out⟩
          have Q8 : Aside0 (ln5.length = l1.length) := ⟨hlen⟩
          have R10 := Aside0.mk (R_keep (ok' := fun k => k ≠ bn5 ∧ k ≠ bn4) R10.out hb (fun k h hk => ⟨by omega, h.2⟩))
          have N89 : Aside0 (bn5 ≠ bn4) := ⟨by omega⟩
          have BW := Aside0.mk (below_le BW.out hb)
          have HL5 := Aside0.mk hln
          clear hb hr hdd hlo hhi hRn hCn hlen hln o9_
          clear lc n1 n2 n3
          by_cases hgo : gone ≥ 0
          · replace HRS := HRS.out
            simp only [if_pos hgo] at HRS
            replace HRS := Aside0.mk HRS
            go_wp2_with fail
            refine (spec_l03Step.gen g0 A2 c2 l2 A3 c3 l3 (some ⟨bn4, 0, none⟩) dn4 ln4 gone _ #[.slice A0 l0.length c0, .slice A1 l1.length c1, .slice A2 l2.length c2, .slice A3 l3.length c3, .int .i64 2] 53 2 rfl rfl (blk_below HBX.out BW.out) (Kd.C_below HT2.out BW.out) hc2 (Kd.C_below HT3.out BW.out) hc3 C9.out E9.out (okStep_valid V2.out ln4 Q9.out gone)).mono ?_
            rintro e wq6 ⟨v, rfl, hr, hb⟩
            have hlen : (stepV l2 l3 ln4 gone).1.length = l3.length := by exact stepV_length V2.out ln4 Q9.out gone
            obtain ⟨ln6, hln⟩ : ∃ l, l = (stepV l2 l3 ln4 gone).1 := ⟨_, rfl⟩
            rw [← hln] at hr hlen
            obtain ⟨bn6, dn6, rfl, hdd, hlo, hhi, hRn, hCn⟩ := lev_new hr (by rw [hlen]; have := M2.out; omega) BW.out.size
            have o8_ := lev_lt R8.out (by have := L8.out; omega)
            have R8 := Aside0.mk (R_keep (ok' := fun k => k = bn5) R8.out hb (fun k h _ => h))
            have C8 := Aside0.mk (Kd.C_below C8.out hb)
            have R9 := Aside0.mk hRn
            have C9 := Aside0.mk hCn
            have E9 := Aside0.mk hdd
            have L9 : Aside0 (1 ≤ ln6.length ∧ ln6.length ≤ 6) := ⟨by rw [hlen]; exact M2.out⟩
            have Q9 : Aside0 (ln6.length = l3.length) := ⟨hlen⟩
            have R10 := Aside0.mk (R_keep (ok' := fun k => k ≠ bn5 ∧ k ≠ bn6) R10.out hb (fun k h hk => ⟨h.1, by omega⟩))
            have N89 : Aside0 (bn5 ≠ bn6) := ⟨by omega⟩
            have BW := Aside0.mk (below_le BW.out hb)
            have HL6 := Aside0.mk hln
            clear hb hr hdd hlo hhi hRn hCn hlen hln o8_
            go_wp2_with fail
            go_roundg (us.length - (kk + 1))
            case measure => omega
            case rel =>
              refine ⟨kk + 1, bn5, bn6, dn5, dn6, (wh ++ [3]), ln5, ln6, b, by omega, by omega, by rw [wrap_succ hlt (by have := HL.out; omega)], by rfl, rfl, rfl, ⟨?_⟩, R8, R9, R10, ⟨Q8.out, Q9.out, E8.out, E9.out⟩, ⟨by have := NB.out; simp only [List.length_append, List.length_singleton]; omega, by have := NB.out; omega, by have := NB.out; omega, N89.out⟩, BW⟩
              rw [HL6.out, HL5.out, HL4.out]; exact HRS.out
          · replace HRS := HRS.out
            simp only [if_neg hgo] at HRS
            replace HRS := Aside0.mk HRS
            go_wp2_with fail
            go_roundg (us.length - (kk + 1))
            case measure => omega
            case rel =>
              refine ⟨kk + 1, bn5, bn4, dn5, dn4, (wh ++ [3]), ln5, ln4, b, by omega, by omega, by rw [wrap_succ hlt (by have := HL.out; omega)], by rfl, rfl, rfl, ⟨?_⟩, R8, R9, R10, ⟨Q8.out, Q9.out, E8.out, E9.out⟩, ⟨by have := NB.out; simp only [List.length_append, List.length_singleton]; omega, by have := NB.out; omega, by have := NB.out; omega, N89.out⟩, BW⟩
              rw [HL5.out, HL4.out]; exact HRS.out
    · have hltz : ¬ (kk : Int) < (us.length : Int) := by omega
      obtain rfl : kk = us.length := by omega
      have HR := HRES.out
      rw [List.drop_length] at HR
      simp only [stackV, Prod.mk.injEq] at HR
      obtain ⟨rfl, rfl, rfl, rfl⟩ := HR
      clear HRES
      go_wp2_with fail
      (try simp only [Exit.inBlock, Exit.then])
      refine bodyPost_ret (results_tmp4 rfl _ _) rfl ?_
      refine ⟨_, _, _, rfl, ?_, ?_, ?_, BW.out⟩
      · exact Kd.R_mono R10.out (fun k hk => ⟨fun e => hk.1 (Option.some.inj (show some k = some b8 from e)), fun e => hk.2 (Option.some.inj (show some k = some b9 from e))⟩)
      · exact Kd.R_mono R8.out (fun k hk => ⟨fun e => (R10.out.1 k e.symm).1 hk, fun e => NB.out.2.2.2 (hk.symm.trans (Option.some.inj (show some k = some b9 from e)))⟩)
      · exact Kd.R_mono R9.out (fun k hk => ⟨fun e => (R10.out.1 k e.symm).2 hk, fun e => NB.out.2.2.2 ((Option.some.inj (show some k = some b8 from e)).symm.trans hk)⟩)
def spec_l07Stack.f (l0_0 : List (List Int)) (l0_1 : List Int) (l0_2 : List (List Int)) (l0_3 : List Int) (a0_4 : Int) (l1 : List Int) : Option (List Int × List Int × List Int × Int) := if levB l0_0 l0_1 l0_2 l0_3 a0_4 = true ∧ l1.length ≤ 1048576 then some (stackV l0_0 l0_1 l0_2 l0_3 a0_4 l1 [] (List.replicate l0_1.length (-1)) (List.replicate l0_3.length (-1)) 0) else none
theorem spec_l07Stack.calls (g0 : Nat) (A0_0 : Option Addr) (c0_0 : Nat) (l0_0 : List (List Int)) (A0_1 : Option Addr) (c0_1 : Nat) (l0_1 : List Int) (A0_2 : Option Addr) (c0_2 : Nat) (l0_2 : List (List Int)) (A0_3 : Option Addr) (c0_3 : Nat) (l0_3 : List Int) (a0_4 : Int) (A1 : Option Addr) (c1 : Nat) (l1 : List Int) (r1 r2 r3 : List Int) (r4 : Int) (w : World) (hb0 : w.heap[g0]? = some (.cells #[.slice A0_0 l0_0.length c0_0, .slice A0_1 l0_1.length c0_1, .slice A0_2 l0_2.length c0_2, .slice A0_3 l0_3.length c0_3, .int .i64 a0_4] 53 (0, 0))) (hr0_0 : Kd.C (Kd.slice 2 (Kd.int .i64)) w A0_0 l0_0.length l0_0) (hc0_0 : l0_0.length ≤ c0_0) (hr0_1 : Kd.C (Kd.int .i64) w A0_1 l0_1.length l0_1) (hc0_1 : l0_1.length ≤ c0_1) (hr0_2 : Kd.C (Kd.slice 2 (Kd.int .i64)) w A0_2 l0_2.length l0_2) (hc0_2 : l0_2.length ≤ c0_2) (hr0_3 : Kd.C (Kd.int .i64) w A0_3 l0_3.length l0_3) (hc0_3 : l0_3.length ≤ c0_3) (hr1 : Kd.C (Kd.int .i64) w A1 l1.length l1) (hc1 : l1.length ≤ c1) (h : spec_l07Stack.f l0_0 l0_1 l0_2 l0_3 a0_4 l1 = some (r1, r2, r3, r4)) :
    Calls Try.prog 65 #[.pointer (some ⟨g0, 0, none⟩), .slice A1 l1.length c1] w fun e w' => ∃ v0_ v1_ v2_ : Value, e = .returned (.tuple #[v0_, v1_, v2_, .int .i64 r4]) ∧ Kd.R (Kd.int .i64) 2 w' w.heap.size (fun k_ => some k_ ≠ (v1_ : Value).ownBlock ∧ some k_ ≠ (v2_ : Value).ownBlock) v0_ r1 ∧ Kd.R (Kd.int .i64) 2 w' w.heap.size (fun k_ => some k_ ≠ (v0_ : Value).ownBlock ∧ some k_ ≠ (v2_ : Value).ownBlock) v1_ r2 ∧ Kd.R (Kd.int .i64) 2 w' w.heap.size (fun k_ => some k_ ≠ (v0_ : Value).ownBlock ∧ some k_ ≠ (v1_ : Value).ownBlock) v2_ r3 ∧ Below w.heap.size w w' := by
  unfold spec_l07Stack.f at h
  split at h
  rotate_left
  · cases h
  rename_i hok
  obtain ⟨hlev, hl⟩ := hok
  have hR := Option.some.inj h
  unfold levB at hlev
  rw [Bool.and_eq_true, Bool.and_eq_true, Bool.and_eq_true, decide_eq_true_eq, decide_eq_true_eq] at hlev
  obtain ⟨hv, hm0, hm2⟩ := hlev
  rcases (show a0_4 = 0 ∨ a0_4 = 1 ∨ a0_4 = 2 by omega) with rfl | rfl | rfl
  · exact xStack0 g0 A0_0 c0_0 l0_0 A0_1 c0_1 l0_1 A0_2 c0_2 l0_2 A0_3 c0_3 l0_3 A1 c1 l1 w hb0 hr0_0 hc0_0 hr0_1 hc0_1 hr0_2 hc0_2 hr0_3 hc0_3 hr1 hc1 hl hv.1 hv.2 r1 r2 r3 r4 hR
  · exact xStack1 g0 A0_0 c0_0 l0_0 A0_1 c0_1 l0_1 A0_2 c0_2 l0_2 A0_3 c0_3 l0_3 A1 c1 l1 w hb0 hr0_0 hc0_0 hr0_1 hc0_1 hr0_2 hc0_2 hr0_3 hc0_3 hr1 hc1 hl hv.1 hv.2 r1 r2 r3 r4 hR
  · exact xStack2 g0 A0_0 c0_0 l0_0 A0_1 c0_1 l0_1 A0_2 c0_2 l0_2 A0_3 c0_3 l0_3 A1 c1 l1 w hb0 hr0_0 hc0_0 hr0_1 hc0_1 hr0_2 hc0_2 hr0_3 hc0_3 hr1 hc1 hl hv.1 hv.2 r1 r2 r3 r4 hR


end Go.Proofs.Ytpndbaomhcehdaa.PFnExactLevelContents
