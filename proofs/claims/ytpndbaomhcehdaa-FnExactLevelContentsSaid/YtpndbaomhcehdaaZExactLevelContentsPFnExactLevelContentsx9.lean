-- Printed by this session's own program (wip/tools/xprint.py) over the kit's print; not trusted: Lean checks it.
import Derived.Test.YtpndbaomhcehdaaZExactLevelContentsPFnExactLevelContentsx0
import Derived.Test.YtpndbaomhcehdaaZExactLevelContentsPFnExactLevelContentsx3
import Derived.Test.YtpndbaomhcehdaaZExactLevelContentsPFnExactLevelContentsx5
import Derived.Test.YtpndbaomhcehdaaZExactLevelContentsPFnExactLevelContentsx6
import Derived.Test.YtpndbaomhcehdaaZExactLevelContentsPFnExactLevelContentsx7
import Derived.Test.YtpndbaomhcehdaaZExactLevelContentsPFnExactLevelContentsx8
namespace Go.Proofs.Ytpndbaomhcehdaa.PFnExactLevelContents
open Go.RowKit Go.Proofs.YtpndbaomhcehdaaW.PrintWords Go.Proofs.YtpndbaomhcehdaaW.PrintLast Go.Proofs.YtpndbaomhcehdaaW.PrintMore
attribute [local go_sem] max2_int min2_int max_two min_two max_three min_three max_four min_four   -- for this text's walks alone
set_option linter.unusedVariables false
set_option linter.unusedSimpArgs false

/-! ### impl_LevelContents: function 31 -/
/-- Where a use that misses the first level is found. -/
def whV (b : Bool) : Int := if b = true then 2 else 3
theorem own_takeOut {w0 W : World} {L L' : List (Thing × Nat × Nat)} {b n c lo hi : Nat} {l l' : List Int} {a : Int} {r : Bool} (h : Hold w0 W L) (hT : takeV l a = (l', r))
    (u : Sw (flat (Kd.int .i64) 2 (.slice (some ⟨b, 0, none⟩) n c) l, lo, hi) (flat (Kd.int .i64) 2 (.slice (some ⟨b, 0, none⟩) n c) l', lo, hi) L L') (hp : 0 < l.length) (hl : l.length ≤ 1048576) :
    Calls Try.prog 138 #[.slice (some ⟨b, 0, none⟩) n c, .int .i64 a] W fun e w' => e = .returned (.bool r) ∧ Hold w0 w' L' := by
  obtain ⟨hP, hlo, hlh, hhi⟩ := h.get u.mem
  have hP' : (Kd.int .i64).R 2 W lo (In lo hi) (.slice (some ⟨b, 0, none⟩) n c) l := hP
  obtain ⟨b', d, e, hd, hm, h1, h2, hB, hs⟩ := RowB.of_R' (enc := Value.int .i64) (h1 := fun _ => rfl) hP' hp
  injection e with e1 e2 e3
  injection e1 with e1
  injection e1 with e1
  subst e1 e2 e3
  have hin := hP'.1 b (by simp [Value.ownBlock])
  have hlen := takeV_length l a
  have hC := impl_takeOut.calls b c l a W hB hd hl
  rw [hT] at hC hlen
  refine hC.mono ?_
  rintro e w' ⟨rfl, hB', hO⟩
  refine ⟨rfl, h.only u hO (fun k e => ?_) ?_⟩
  · have e : k = b := e
    exact e ▸ hin
  · show (Kd.int .i64).R 2 w' lo (In lo hi) _ _
    have := RowB.toR (h1 := fun _ => rfl) hB' ((hO.shape b h2).trans hs) (by rw [hlen]; exact hd) hm hin.1 (ok := In lo hi) hin
    rw [hlen] at this
    exact this
/-- The address that a step drops, -1 if none. -/
def goneV (c : List Int) (a : Int) : Int := if 0 ≤ ageOf c a then -1 else c.getD (c.length - 1) 0
theorem permuted_ev (l o : List Int) (hl : o.length ≤ 1048576) (ho : ∀ j ∈ o, 0 ≤ j ∧ j < (l.length : Int)) : Ev (fun k => impl_permuted.f k l o) (o.map fun j => rd l j) := by
  unfold impl_permuted.f
  refine Ev.upto (F := fun k s i => impl_permuted.l0 k l s o (o.length : Int) i) (n := o.length) (r := o.map fun j => rd l j) (fun i s => s = (o.take i).map fun j => rd l j) ?_ ?_ 0 (Nat.zero_le _) _ (by simp)
  · intro i s hi hs ih
    have hsl : s.length ≤ 1048576 := by rw [hs, List.length_map, List.length_take]; omega
    have hrd : rd o (i : Int) = o.getD i 0 := rfl
    have hj := ho _ (getD_mem o i 0 hi)
    refine Ev.succ ?_
    simp only [impl_permuted.l0]
    rw [hrd, wrap_succ hi (by omega)]
    refine Ev.pos (by omega) (Ev.pos (by omega) (Ev.pos (by omega) (Ev.pos hj.1 (Ev.pos hj.2 (Ev.pos (by omega) (ih _ ?_))))))
    rw [take_succ o i 0 hi, List.map_append, hs]
    rfl
  · intro s hs
    refine Ev.succ ?_
    simp only [impl_permuted.l0]
    exact Ev.neg (by omega) (Ev.some (by rw [hs, List.take_length]))
theorem implStepG_ev {h : List (List Int)} {m : List Int} (hv : validB h m = true) (c : List Int) (hc : c.length = m.length) (a : Int) : Ev (fun k => impl_Policy_step.f k h m c a) ((stepV h m c a).1, goneV c a, (stepV h m c a).2) := by
  obtain ⟨h1, h2, h3, h4, h5⟩ := valid_facts hv
  obtain ⟨o1, o2, o3⟩ := (orderB_iff _ _).1 (ord_order hv c hc a)
  have hage := age_lt c a
  unfold impl_Policy_step.f
  have hix : Ev (fun k => slices_Index_int64_int64.f k c a) (ageOf c a) := xInIdx_ev c a (by omega)
  by_cases hp : 0 ≤ ageOf c a
  · have eg : goneV c a = -1 := by unfold goneV; rw [if_pos hp]
    rw [eg]
    refine Ev.bind hix (Ev.pos hp (Ev.pos hp (Ev.pos (by omega) ?_)))
    have e1 : stepOrd h m c a = rd_L1 h (ageOf c a) := by unfold stepOrd; rw [if_pos hp]; rfl
    have e2 : stepOld c a = c := by unfold stepOld; rw [if_pos hp]
    rw [← e1]
    refine Ev.bind (permuted_ev c _ (by omega) (fun j hj => by have := o2 j hj; omega)) (Ev.some ?_)
    unfold stepV
    rw [e2, decide_eq_true hp]
  · have eg : goneV c a = rd c ((c.length : Int) - 1) := by unfold goneV; rw [if_neg hp]; exact (last_getD c).symm
    rw [eg]
    refine Ev.bind hix (Ev.neg hp (Ev.bindc (show slices_Clone_int64_int64.f c = some c by unfold slices_Clone_int64_int64.f; rw [if_pos (by omega)]) ?_))
    rw [wrap_id (by omega) (by omega)]
    refine Ev.pos (by omega) (Ev.pos (by omega) ?_)
    have e1 : stepOrd h m c a = m := by unfold stepOrd; rw [if_neg hp]
    have e2 : stepOld c a = c.set ((c.length : Int) - 1).toNat a := by
      unfold stepOld; rw [if_neg hp]
      congr 1; omega
    rw [← e2]
    refine Ev.bind (permuted_ev _ m (by omega) (fun j hj => by rw [stepOld_length]; rw [e1] at o2; have := o2 j hj; omega)) (Ev.some ?_)
    unfold stepV
    rw [e1, decide_eq_false hp]
set_option maxHeartbeats 4000000 in
set_option maxRecDepth 100000 in
theorem use_hit {w0 w : World} {R : List (Thing × Nat × Nat)} {A0 : Option Addr} {c0 : Nat} {l0 : List (List Int)} {A1 : Option Addr} {c1 : Nat} {l1 : List Int} {A2 : Option Addr} {c2 : Nat} {l2 : List (List Int)} {A3 : Option Addr} {c3 : Nat} {l3 : List Int} {g g1 fc flo fhi sc slo shi vc vlo vhi : Nat} {F S V : Option Addr} {md bk a : Int} {f s wh : List Int}
    (h : Hold w0 w ((boxT #[.slice A0 l0.length c0, .slice A1 l1.length c1, .slice A2 l2.length c2, .slice A3 l3.length c3, .int .i64 md, .slice F f.length fc, .slice S s.length sc, .slice V wh.length vc, .int .i64 bk] 111, g, g1) :: (flat (Kd.int .i64) 2 (.slice F f.length fc) f, flo, fhi) :: (flat (Kd.int .i64) 2 (.slice S s.length sc) s, slo, shi) :: (flat (Kd.int .i64) 2 (.slice V wh.length vc) wh, vlo, vhi) :: R))
    (r0 : Rd w0 R (Kd.slice 2 (Kd.int .i64)) A0 l0) (r1 : Rd w0 R (Kd.int .i64) A1 l1) (r2 : Rd w0 R (Kd.slice 2 (Kd.int .i64)) A2 l2) (r3 : Rd w0 R (Kd.int .i64) A3 l3) (q0 : l0.length ≤ c0) (q1 : l1.length ≤ c1) (q2 : l2.length ≤ c2) (q3 : l3.length ≤ c3) (hwh : wh.length ≤ 1000)
    (hc1 : Ev (fun k => slices_Contains_int64_int64.f k f a) true) {x1 : List Int} {o1 : Int} {b1 : Bool} (e1 : Ev (fun k => impl_Policy_step.f k l0 l1 f a) (x1, o1, b1)) :
    Calls Try.prog 104 #[.pointer (some ⟨g, 0, none⟩), .int .i64 a] w fun e w' => e = .returned (.tuple #[]) ∧ ∃ F' fc' flo' fhi' S' sc' slo' shi' V' vc' vlo' vhi', Hold w0 w' ((boxT #[.slice A0 l0.length c0, .slice A1 l1.length c1, .slice A2 l2.length c2, .slice A3 l3.length c3, .int .i64 md, .slice F' (x1).length fc', .slice S' (s).length sc', .slice V' (wh.length + 1) vc', .int .i64 (bk)] 111, g, g1) :: (flat (Kd.int .i64) 2 (.slice F' (x1).length fc') x1, flo', fhi') :: (flat (Kd.int .i64) 2 (.slice S' (s).length sc') s, slo', shi') :: (flat (Kd.int .i64) 2 (.slice V' (wh.length + 1) vc') (wh ++ [1]), vlo', vhi') :: R) := by
  have HS := h
  have HR0 := Aside0.mk r0
  have HR1 := Aside0.mk r1
  have HR2 := Aside0.mk r2
  have HR3 := Aside0.mk r3
  have HQ0 := Aside0.mk q0
  have HQ1 := Aside0.mk q1
  have HQ2 := Aside0.mk q2
  have HQ3 := Aside0.mk q3
  have HHWH := Aside0.mk hwh
  have HHC1 := Aside0.mk hc1
  have HE1 := Aside0.mk e1
  have hgt : w0.heap.size ≤ g ∧ g < w.heap.size := by obtain ⟨⟨_, e_⟩, h1_, _, h3_⟩ := HS.get List.mem_cons_self; omega
  have hg : g < w.heap.size := hgt.2
  clear h hgt r0 r1 r2 r3 q0 q1 q2 q3 hwh hc1 e1
  have xa0 : w.cell? ⟨g, 0, none⟩ = some (.slice A0 l0.length c0) := HS.cell List.mem_cons_self 0 _ rfl
  have xa1 : w.cell? ⟨g, 1, none⟩ = some (.slice A1 l1.length c1) := HS.cell List.mem_cons_self 1 _ rfl
  have xa2 : w.cell? ⟨g, 2, none⟩ = some (.slice A2 l2.length c2) := HS.cell List.mem_cons_self 2 _ rfl
  have xa3 : w.cell? ⟨g, 3, none⟩ = some (.slice A3 l3.length c3) := HS.cell List.mem_cons_self 3 _ rfl
  have ya0 : (w.alloc (.cells #[.slice none 0 0, .slice none 0 0] 29)).cell? ⟨g, 0, none⟩ = some (.slice A0 l0.length c0) := (HS.alloc _).cell List.mem_cons_self 0 _ rfl
  have ya1 : (w.alloc (.cells #[.slice none 0 0, .slice none 0 0] 29)).cell? ⟨g, 1, none⟩ = some (.slice A1 l1.length c1) := (HS.alloc _).cell List.mem_cons_self 1 _ rfl
  have ya2 : (w.alloc (.cells #[.slice none 0 0, .slice none 0 0] 29)).cell? ⟨g, 2, none⟩ = some (.slice A2 l2.length c2) := (HS.alloc _).cell List.mem_cons_self 2 _ rfl
  have ya3 : (w.alloc (.cells #[.slice none 0 0, .slice none 0 0] 29)).cell? ⟨g, 3, none⟩ = some (.slice A3 l3.length c3) := (HS.alloc _).cell List.mem_cons_self 3 _ rfl
  have za0 : ((w.alloc (.cells #[.slice none 0 0, .slice none 0 0] 29)).alloc (.cells #[.slice none 0 0, .slice none 0 0] 29)).cell? ⟨g, 0, none⟩ = some (.slice A0 l0.length c0) := ((HS.alloc _).alloc _).cell List.mem_cons_self 0 _ rfl
  have za1 : ((w.alloc (.cells #[.slice none 0 0, .slice none 0 0] 29)).alloc (.cells #[.slice none 0 0, .slice none 0 0] 29)).cell? ⟨g, 1, none⟩ = some (.slice A1 l1.length c1) := ((HS.alloc _).alloc _).cell List.mem_cons_self 1 _ rfl
  have za2 : ((w.alloc (.cells #[.slice none 0 0, .slice none 0 0] 29)).alloc (.cells #[.slice none 0 0, .slice none 0 0] 29)).cell? ⟨g, 2, none⟩ = some (.slice A2 l2.length c2) := ((HS.alloc _).alloc _).cell List.mem_cons_self 2 _ rfl
  have za3 : ((w.alloc (.cells #[.slice none 0 0, .slice none 0 0] 29)).alloc (.cells #[.slice none 0 0, .slice none 0 0] 29)).cell? ⟨g, 3, none⟩ = some (.slice A3 l3.length c3) := ((HS.alloc _).alloc _).cell List.mem_cons_self 3 _ rfl
  have n1 : ¬ g = w.heap.size := by omega
  have n2 : ¬ g = w.heap.size + 1 := by omega
  have n3 : ¬ w.heap.size = g := by omega
  have n4 : ¬ w.heap.size + 1 = g := by omega
  go_enter Try.func104, Try.ntmps104
  go_upto_region 0 with fail
  go_cut [4, 5] (fun v4 v5 wc => ∃ p q, v4 = .pointer (some ⟨p, 0, none⟩) ∧ v5 = .pointer (some ⟨q, 0, none⟩) ∧ Hold w0 wc ((boxT #[.slice A0 l0.length c0, .slice A1 l1.length c1] 29, p, p + 1) :: (boxT #[.slice A2 l2.length c2, .slice A3 l3.length c3] 29, q, q + 1) :: (boxT #[.slice A0 l0.length c0, .slice A1 l1.length c1, .slice A2 l2.length c2, .slice A3 l3.length c3, .int .i64 md, .slice F f.length fc, .slice S s.length sc, .slice V wh.length vc, .int .i64 bk] 111, g, g1) :: (flat (Kd.int .i64) 2 (.slice F f.length fc) f, flo, fhi) :: (flat (Kd.int .i64) 2 (.slice S s.length sc) s, slo, shi) :: (flat (Kd.int .i64) 2 (.slice V wh.length vc) wh, vlo, vhi) :: R))
  case first =>
    go_region
    · go_wp2_with fail
      go_meet
      have HZ := ((HS.box #[.slice A0 l0.length c0, .slice A1 l1.length c1] 29).box #[.slice A2 l2.length c2, .slice A3 l3.length c3] 29).drew
      simp only [World.size_alloc] at HZ
      exact ⟨_, _, rfl, rfl, HZ.pick (.there .here)⟩
    · go_wp2_with fail
      go_meet
      have HZ := ((HS.box #[.slice A2 l2.length c2, .slice A3 l3.length c3] 29).box #[.slice A0 l0.length c0, .slice A1 l1.length c1] 29).drew
      simp only [World.size_alloc] at HZ
      exact ⟨_, _, rfl, rfl, HZ⟩
  case rest =>
    clear HS xa0 xa1 xa2 xa3 ya0 ya1 ya2 ya3 za0 za1 za2 za3 n1 n2 n3 n4 hg
    obtain ⟨p, q, rfl, rfl, HS⟩ := hcut
    obtain ⟨wa, rfl⟩ : ∃ x, x = wc := ⟨_, rfl⟩
    have q5 : wa.cell? ⟨g, 5, none⟩ = some (.slice F f.length fc) := HS.cell (List.mem_cons_of_mem _ (List.mem_cons_of_mem _ List.mem_cons_self)) 5 _ rfl
    go_wp2_with fail
    refine (slices_Contains_int64_int64.calls (Ev.num HHC1.out) F fc f a _ _ (HS.reads' (List.mem_cons_of_mem _ (List.mem_cons_of_mem _ (List.mem_cons_of_mem _ List.mem_cons_self)))).2.2 (HS.reads' (List.mem_cons_of_mem _ (List.mem_cons_of_mem _ (List.mem_cons_of_mem _ List.mem_cons_self)))).2.1 (Ev.is HHC1.out)).mono ?_
    rintro e w1 ⟨rfl, hb⟩
    clear q5
    replace HS := HS.step (by first | exact hb | exact hb.below)
    clear hb
    have q7 : w1.cell? ⟨g, 7, none⟩ = some (.slice V wh.length vc) := HS.cell (List.mem_cons_of_mem _ (List.mem_cons_of_mem _ List.mem_cons_self)) 7 _ rfl
    go_wp2_with ((with_reducible refine gate_builtin (b := .append) (xs := #[.tmp 27, .tmp 28]) rfl ?_); at_builtin; refine Hold.appendI HS rfl (.tmp 27) (.tmp 28) 24 2 rfl Try.underlying24 svInfo (.slice V wh.length vc) wh 1 rfl rfl (List.mem_cons_of_mem _ (List.mem_cons_of_mem _ (List.mem_cons_of_mem _ (List.mem_cons_of_mem _ (List.mem_cons_of_mem _ List.mem_cons_self))))) (by have := HHWH.out; omega) ?_; intro V2 vc2 vlo2 vhi2 w2 HQ; clear q7; replace HS := HQ _ (.there (.there (.there (.there (.there .here))))); clear HQ; have q7 : w2.cell? ⟨g, 7, none⟩ = some (.slice V wh.length vc) := HS.cell (List.mem_cons_of_mem _ (List.mem_cons_of_mem _ List.mem_cons_self)) 7 _ rfl; have fzq : ∀ j, w2.frozen? ⟨g, j, none⟩ = false := HS.thaw (List.mem_cons_of_mem _ (List.mem_cons_of_mem _ List.mem_cons_self)))
    clear fzq q7
    replace HS := HS.setBox 7 (.slice V2 (wh.length + 1) vc2) (.there (.there .here))
    simp only [List.setIfInBounds_toArray, List.set_cons_zero, List.set_cons_succ] at HS
    have HD := Hold.drew HS
    refine start_ (n := 15) (S := fun w' => w'.cell? ⟨p, 0, none⟩ = some (.slice A0 l0.length c0) ∧ w'.cell? ⟨p, 1, none⟩ = some (.slice A1 l1.length c1) ∧ w'.cell? ⟨g, 5, none⟩ = some (.slice F f.length fc)) (ds := [14]) #[false, false, false, false, false, false, false, false, false, false, false, false, false, false, false] (by kernel_rfl) rfl rfl ⟨(HD.cell List.mem_cons_self 0 _ rfl), (HD.cell List.mem_cons_self 1 _ rfl), (HD.cell (List.mem_cons_of_mem _ (List.mem_cons_of_mem _ List.mem_cons_self)) 5 _ rfl)⟩ (fun hHeld => ?_)
    generalize w2.drew = wd at HD hHeld ⊢
    refine pure_ (i := 0) (N := some 33) (v := ?_) (a' := ?_) #[true, false, false, false, false, false, false, false, false, false, false, false, false, false, false] rfl rfl (by kernel_rfl) (fun _ _ _ h => h) (Or.inl ⟨by rfl, ?_⟩) ?_ ?_
    rotate_left
    · intro w'
      go_simp
      with_reducible rfl
    rotate_left
    · simp only [Act.put, List.setIfInBounds_toArray, List.set_cons_zero, List.set_cons_succ, i64_w, i32_w]
      rfl
    refine pure_ (i := 2) (N := some 35) (v := ?_) (a' := ?_) #[true, false, true, false, false, false, false, false, false, false, false, false, false, false, false] rfl rfl (by kernel_rfl) (fun _ _ _ h => h) (Or.inl ⟨by rfl, ?_⟩) ?_ ?_
    rotate_left
    · intro w'
      go_simp
      with_reducible rfl
    rotate_left
    · simp only [Act.put, List.setIfInBounds_toArray, List.set_cons_zero, List.set_cons_succ, i64_w, i32_w]
      rfl
    refine pure_ (i := 3) (N := some 36) (v := ?_) (a' := ?_) #[true, false, true, true, false, false, false, false, false, false, false, false, false, false, false] rfl rfl (by kernel_rfl) (fun _ _ _ h => h) (Or.inl ⟨by rfl, ?_⟩) ?_ ?_
    rotate_left
    · intro w'
      go_simp
      with_reducible rfl
    rotate_left
    · simp only [Act.put, List.setIfInBounds_toArray, List.set_cons_zero, List.set_cons_succ, i64_w, i32_w]
      rfl
    refine pure_ (i := 4) (N := some 37) (v := ?_) (a' := ?_) #[true, false, true, true, true, false, false, false, false, false, false, false, false, false, false] rfl rfl (by kernel_rfl) (fun _ _ _ h => h) (Or.inl ⟨by rfl, ?_⟩) ?_ ?_
    rotate_left
    · intro w'
      go_simp
      with_reducible rfl
    rotate_left
    · simp only [Act.put, List.setIfInBounds_toArray, List.set_cons_zero, List.set_cons_succ, i64_w, i32_w]
      rfl
    refine pure_ (i := 6) (N := some 39) (v := ?_) (a' := ?_) #[true, false, true, true, true, false, true, false, false, false, false, false, false, false, false] rfl rfl (by kernel_rfl) (fun _ _ _ h => h) (Or.inl ⟨by rfl, ?_⟩) ?_ ?_
    rotate_left
    · intro w'
      go_simp
      with_reducible rfl
    rotate_left
    · simp only [Act.put, List.setIfInBounds_toArray, List.set_cons_zero, List.set_cons_succ, i64_w, i32_w]
      rfl
    refine take_ (i := 1) (N := some 34) (v := ?_) (a' := ?_) #[true, true, true, true, true, false, true, false, false, false, false, false, false, false, false] rfl rfl (by kernel_rfl) (fun _ _ _ h => h) (Or.inl ⟨by rfl, ?_⟩) hHeld ?_ ?_
    rotate_left
    · rintro w' ⟨s0, s1, s2⟩
      go_simp
      with_reducible rfl
    rotate_left
    · simp only [Act.put, List.setIfInBounds_toArray, List.set_cons_zero, List.set_cons_succ, i64_w, i32_w]
      rfl
    refine take_ (i := 5) (N := some 38) (v := ?_) (a' := ?_) #[true, true, true, true, true, true, true, false, false, false, false, false, false, false, false] rfl rfl (by kernel_rfl) (fun _ _ _ h => h) (Or.inl ⟨by rfl, ?_⟩) hHeld ?_ ?_
    rotate_left
    · rintro w' ⟨s0, s1, s2⟩
      go_simp
      with_reducible rfl
    rotate_left
    · simp only [Act.put, List.setIfInBounds_toArray, List.set_cons_zero, List.set_cons_succ, i64_w, i32_w]
      rfl
    refine one_ (i := 7) (N := some 40) #[true, true, true, true, true, true, true, true, false, false, false, false, false, false, false] rfl rfl (by kernel_rfl) (by decide) (fun K hK => ?_)
    refine goes_ Try.func83 (by kernel_rfl) rfl #[.agg #[.slice A0 l0.length c0, .slice A1 l1.length c1], .slice F f.length fc, .int .i64 a] (by rfl) rfl rfl (by simp only [List.map_toArray, List.map_cons, List.map_nil]; rfl) ?_
    with_reducible refine (impl_Policy_step.calls (Ev.num HE1.out) A0 c0 l0 A1 c1 l1 F fc f a _ _ _ _ (HR0.out.at HD (fun _ hx_ => (List.mem_cons_of_mem _ (List.mem_cons_of_mem _ (List.mem_cons_of_mem _ (List.mem_cons_of_mem _ (List.mem_cons_of_mem _ (List.mem_cons_of_mem _ hx_)))))))) HQ0.out (HR1.out.at HD (fun _ hx_ => (List.mem_cons_of_mem _ (List.mem_cons_of_mem _ (List.mem_cons_of_mem _ (List.mem_cons_of_mem _ (List.mem_cons_of_mem _ (List.mem_cons_of_mem _ hx_)))))))) HQ1.out (HD.reads' (List.mem_cons_of_mem _ (List.mem_cons_of_mem _ (List.mem_cons_of_mem _ List.mem_cons_self)))).2.2 (HD.reads' (List.mem_cons_of_mem _ (List.mem_cons_of_mem _ (List.mem_cons_of_mem _ List.mem_cons_self)))).2.1 (Ev.is HE1.out)).mono ?_
    rintro e w3 ⟨v_, rfl, hr, hb⟩
    refine ⟨_, rfl, ?_⟩
    obtain ⟨B3, bc3, rfl⟩ := Kd.R_slice hr
    replace HD := HD.made hb hr
    clear hb hr
    have s0_ : w3.cell? ⟨p, 0, none⟩ = some (.slice A0 l0.length c0) := HD.cell (List.mem_cons_of_mem _ List.mem_cons_self) 0 _ rfl
    have s1_ : w3.cell? ⟨p, 1, none⟩ = some (.slice A1 l1.length c1) := HD.cell (List.mem_cons_of_mem _ List.mem_cons_self) 1 _ rfl
    have s2_ : w3.cell? ⟨g, 5, none⟩ = some (.slice F f.length fc) := HD.cell (List.mem_cons_of_mem _ (List.mem_cons_of_mem _ (List.mem_cons_of_mem _ List.mem_cons_self))) 5 _ rfl
    have fz_ : ∀ j, w3.frozen? ⟨g, j, none⟩ = false := HD.thaw (List.mem_cons_of_mem _ (List.mem_cons_of_mem _ (List.mem_cons_of_mem _ List.mem_cons_self)))
    refine hK.out _ _ ⟨s0_, s1_, s2_⟩ (fun hHeld => ?_)
    clear hK K
    refine norm_ (a' := ?_) ?_ ?_
    rotate_left
    · show Act.put _ (some 40) _ = _
      simp only [Act.put, List.setIfInBounds_toArray, List.set_cons_zero, List.set_cons_succ, i64_w, i32_w]
      rfl
    refine pure_ (i := 8) (N := some 32) (v := ?_) (a' := ?_) #[true, true, true, true, true, true, true, true, true, false, false, false, false, false, false] rfl rfl (by kernel_rfl) (fun _ _ _ h => h) (Or.inl ⟨by rfl, ?_⟩) ?_ ?_
    rotate_left
    · intro w'
      go_simp
      with_reducible rfl
    rotate_left
    · simp only [Act.put, List.setIfInBounds_toArray, List.set_cons_zero, List.set_cons_succ, i64_w, i32_w]
      rfl
    refine pure_ (i := 9) (N := some 41) (v := ?_) (a' := ?_) #[true, true, true, true, true, true, true, true, true, true, false, false, false, false, false] rfl rfl (by kernel_rfl) (fun _ _ _ h => h) (Or.inl ⟨by rfl, ?_⟩) ?_ ?_
    rotate_left
    · intro w'
      go_simp
      with_reducible rfl
    rotate_left
    · simp only [Act.put, List.setIfInBounds_toArray, List.set_cons_zero, List.set_cons_succ, i64_w, i32_w]
      rfl
    refine pure_ (i := 10) (N := some 42) (v := ?_) (a' := ?_) #[true, true, true, true, true, true, true, true, true, true, true, false, false, false, false] rfl rfl (by kernel_rfl) (fun _ _ _ h => h) (Or.inl ⟨by rfl, ?_⟩) ?_ ?_
    rotate_left
    · intro w'
      go_simp
      with_reducible rfl
    rotate_left
    · simp only [Act.put, List.setIfInBounds_toArray, List.set_cons_zero, List.set_cons_succ, i64_w, i32_w]
      rfl
    refine pure_ (i := 11) (N := some 43) (v := ?_) (a' := ?_) #[true, true, true, true, true, true, true, true, true, true, true, true, false, false, false] rfl rfl (by kernel_rfl) (fun _ _ _ h => h) (Or.inl ⟨by rfl, ?_⟩) ?_ ?_
    rotate_left
    · intro w'
      go_simp
      with_reducible rfl
    rotate_left
    · simp only [Act.put, List.setIfInBounds_toArray, List.set_cons_zero, List.set_cons_succ, i64_w, i32_w]
      rfl
    refine pure_ (i := 12) (N := some 44) (v := ?_) (a' := ?_) #[true, true, true, true, true, true, true, true, true, true, true, true, true, false, false] rfl rfl (by kernel_rfl) (fun _ _ _ h => h) (Or.inl ⟨by rfl, ?_⟩) ?_ ?_
    rotate_left
    · intro w'
      go_simp
      with_reducible rfl
    rotate_left
    · simp only [Act.put, List.setIfInBounds_toArray, List.set_cons_zero, List.set_cons_succ, i64_w, i32_w]
      rfl
    refine pure_ (i := 13) (N := some 45) (v := ?_) (a' := ?_) #[true, true, true, true, true, true, true, true, true, true, true, true, true, true, false] rfl rfl (by kernel_rfl) (fun _ _ _ h => h) (Or.inl ⟨by rfl, ?_⟩) ?_ ?_
    rotate_left
    · intro w'
      go_simp
      with_reducible rfl
    rotate_left
    · simp only [Act.put, List.setIfInBounds_toArray, List.set_cons_zero, List.set_cons_succ, i64_w, i32_w]
      rfl
    refine last_ (i := 14) (N := none) #[true, true, true, true, true, true, true, true, true, true, true, true, true, true, true] rfl rfl (by kernel_rfl) (by decide) (fun K hK => ?_)
    refine skip_ (w1 := ?_) (by rfl) rfl ?_ ?_
    rotate_left
    · go_simp
      rfl
    refine hK.out _ _ ?_
    clear hK K
    refine done_ (by kernel_rfl) ?_
    clear hHeld s0_ s1_ s2_ fz_
    replace HS := HD
    clear HD
    replace HS := HS.setBox 5 (.slice B3 (x1).length bc3) (.there (.there (.there .here)))
    simp only [List.setIfInBounds_toArray, List.set_cons_zero, List.set_cons_succ] at HS
    generalize w3.setCell ⟨g, 5, none⟩ (.slice B3 (x1).length bc3) = w3b at HS ⊢
    replace HS := HS.pick (.there (.there (.there (.there .here))))
    replace HS := HS.tail
    go_wp2_with fail
    (try simp only [Exit.inBlock, Exit.then]); first | refine bodyPost_ret (results_none rfl _ _ _) rfl ?_ | refine bodyPost_end (results_none rfl _ _ _) rfl ?_
    replace HS := HS.pick (.there .here)
    replace HS := HS.tail
    replace HS := HS.pick (.there .here)
    replace HS := HS.tail
    replace HS := HS.pick (.there (.there (.there .here)))
    replace HS := HS.pick (.there (.there (.there .here)))
    replace HS := HS.pick (.there (.there .here))
    replace HS := HS.pick (.there (.there (.there .here)))
    exact ⟨rfl, _, _, _, _, _, _, _, _, _, _, _, _, HS⟩
set_option maxHeartbeats 4000000 in
set_option maxRecDepth 100000 in
theorem use_0 {w0 w : World} {R : List (Thing × Nat × Nat)} {A0 : Option Addr} {c0 : Nat} {l0 : List (List Int)} {A1 : Option Addr} {c1 : Nat} {l1 : List Int} {A2 : Option Addr} {c2 : Nat} {l2 : List (List Int)} {A3 : Option Addr} {c3 : Nat} {l3 : List Int} {g g1 fc flo fhi sc slo shi vc vlo vhi : Nat} {F S V : Option Addr} {bk a : Int} {f s wh : List Int}
    (h : Hold w0 w ((boxT #[.slice A0 l0.length c0, .slice A1 l1.length c1, .slice A2 l2.length c2, .slice A3 l3.length c3, .int .i64 0, .slice F f.length fc, .slice S s.length sc, .slice V wh.length vc, .int .i64 bk] 111, g, g1) :: (flat (Kd.int .i64) 2 (.slice F f.length fc) f, flo, fhi) :: (flat (Kd.int .i64) 2 (.slice S s.length sc) s, slo, shi) :: (flat (Kd.int .i64) 2 (.slice V wh.length vc) wh, vlo, vhi) :: R))
    (r0 : Rd w0 R (Kd.slice 2 (Kd.int .i64)) A0 l0) (r1 : Rd w0 R (Kd.int .i64) A1 l1) (r2 : Rd w0 R (Kd.slice 2 (Kd.int .i64)) A2 l2) (r3 : Rd w0 R (Kd.int .i64) A3 l3) (q0 : l0.length ≤ c0) (q1 : l1.length ≤ c1) (q2 : l2.length ≤ c2) (q3 : l3.length ≤ c3) (hwh : wh.length ≤ 1000)
    (hc1 : Ev (fun k => slices_Contains_int64_int64.f k f a) false) {b2 : Bool} (hc2 : Ev (fun k => slices_Contains_int64_int64.f k s a) b2) {x2 : List Int} {o2 : Int} {b3 : Bool} (e2 : Ev (fun k => impl_Policy_step.f k l2 l3 s a) (x2, o2, b3)) {x1 : List Int} {o1 : Int} {b1 : Bool} (e1 : Ev (fun k => impl_Policy_step.f k l0 l1 f a) (x1, o1, b1)) :
    Calls Try.prog 104 #[.pointer (some ⟨g, 0, none⟩), .int .i64 a] w fun e w' => e = .returned (.tuple #[]) ∧ ∃ F' fc' flo' fhi' S' sc' slo' shi' V' vc' vlo' vhi', Hold w0 w' ((boxT #[.slice A0 l0.length c0, .slice A1 l1.length c1, .slice A2 l2.length c2, .slice A3 l3.length c3, .int .i64 0, .slice F' (x1).length fc', .slice S' (x2).length sc', .slice V' (wh.length + 1) vc', .int .i64 (bk)] 111, g, g1) :: (flat (Kd.int .i64) 2 (.slice F' (x1).length fc') x1, flo', fhi') :: (flat (Kd.int .i64) 2 (.slice S' (x2).length sc') x2, slo', shi') :: (flat (Kd.int .i64) 2 (.slice V' (wh.length + 1) vc') (wh ++ [whV b2]), vlo', vhi') :: R) := by
  have HS := h
  have HR0 := Aside0.mk r0
  have HR1 := Aside0.mk r1
  have HR2 := Aside0.mk r2
  have HR3 := Aside0.mk r3
  have HQ0 := Aside0.mk q0
  have HQ1 := Aside0.mk q1
  have HQ2 := Aside0.mk q2
  have HQ3 := Aside0.mk q3
  have HHWH := Aside0.mk hwh
  have HHC1 := Aside0.mk hc1
  have HHC2 := Aside0.mk hc2
  have HE1 := Aside0.mk e1
  have HE2 := Aside0.mk e2
  have hgt : w0.heap.size ≤ g ∧ g < w.heap.size := by obtain ⟨⟨_, e_⟩, h1_, _, h3_⟩ := HS.get List.mem_cons_self; omega
  have hg : g < w.heap.size := hgt.2
  clear h hgt r0 r1 r2 r3 q0 q1 q2 q3 hwh hc1 hc2 e1 e2
  have xa0 : w.cell? ⟨g, 0, none⟩ = some (.slice A0 l0.length c0) := HS.cell List.mem_cons_self 0 _ rfl
  have xa1 : w.cell? ⟨g, 1, none⟩ = some (.slice A1 l1.length c1) := HS.cell List.mem_cons_self 1 _ rfl
  have xa2 : w.cell? ⟨g, 2, none⟩ = some (.slice A2 l2.length c2) := HS.cell List.mem_cons_self 2 _ rfl
  have xa3 : w.cell? ⟨g, 3, none⟩ = some (.slice A3 l3.length c3) := HS.cell List.mem_cons_self 3 _ rfl
  have ya0 : (w.alloc (.cells #[.slice none 0 0, .slice none 0 0] 29)).cell? ⟨g, 0, none⟩ = some (.slice A0 l0.length c0) := (HS.alloc _).cell List.mem_cons_self 0 _ rfl
  have ya1 : (w.alloc (.cells #[.slice none 0 0, .slice none 0 0] 29)).cell? ⟨g, 1, none⟩ = some (.slice A1 l1.length c1) := (HS.alloc _).cell List.mem_cons_self 1 _ rfl
  have ya2 : (w.alloc (.cells #[.slice none 0 0, .slice none 0 0] 29)).cell? ⟨g, 2, none⟩ = some (.slice A2 l2.length c2) := (HS.alloc _).cell List.mem_cons_self 2 _ rfl
  have ya3 : (w.alloc (.cells #[.slice none 0 0, .slice none 0 0] 29)).cell? ⟨g, 3, none⟩ = some (.slice A3 l3.length c3) := (HS.alloc _).cell List.mem_cons_self 3 _ rfl
  have za0 : ((w.alloc (.cells #[.slice none 0 0, .slice none 0 0] 29)).alloc (.cells #[.slice none 0 0, .slice none 0 0] 29)).cell? ⟨g, 0, none⟩ = some (.slice A0 l0.length c0) := ((HS.alloc _).alloc _).cell List.mem_cons_self 0 _ rfl
  have za1 : ((w.alloc (.cells #[.slice none 0 0, .slice none 0 0] 29)).alloc (.cells #[.slice none 0 0, .slice none 0 0] 29)).cell? ⟨g, 1, none⟩ = some (.slice A1 l1.length c1) := ((HS.alloc _).alloc _).cell List.mem_cons_self 1 _ rfl
  have za2 : ((w.alloc (.cells #[.slice none 0 0, .slice none 0 0] 29)).alloc (.cells #[.slice none 0 0, .slice none 0 0] 29)).cell? ⟨g, 2, none⟩ = some (.slice A2 l2.length c2) := ((HS.alloc _).alloc _).cell List.mem_cons_self 2 _ rfl
  have za3 : ((w.alloc (.cells #[.slice none 0 0, .slice none 0 0] 29)).alloc (.cells #[.slice none 0 0, .slice none 0 0] 29)).cell? ⟨g, 3, none⟩ = some (.slice A3 l3.length c3) := ((HS.alloc _).alloc _).cell List.mem_cons_self 3 _ rfl
  have n1 : ¬ g = w.heap.size := by omega
  have n2 : ¬ g = w.heap.size + 1 := by omega
  have n3 : ¬ w.heap.size = g := by omega
  have n4 : ¬ w.heap.size + 1 = g := by omega
  go_enter Try.func104, Try.ntmps104
  go_upto_region 0 with fail
  go_cut [4, 5] (fun v4 v5 wc => ∃ p q, v4 = .pointer (some ⟨p, 0, none⟩) ∧ v5 = .pointer (some ⟨q, 0, none⟩) ∧ Hold w0 wc ((boxT #[.slice A0 l0.length c0, .slice A1 l1.length c1] 29, p, p + 1) :: (boxT #[.slice A2 l2.length c2, .slice A3 l3.length c3] 29, q, q + 1) :: (boxT #[.slice A0 l0.length c0, .slice A1 l1.length c1, .slice A2 l2.length c2, .slice A3 l3.length c3, .int .i64 0, .slice F f.length fc, .slice S s.length sc, .slice V wh.length vc, .int .i64 bk] 111, g, g1) :: (flat (Kd.int .i64) 2 (.slice F f.length fc) f, flo, fhi) :: (flat (Kd.int .i64) 2 (.slice S s.length sc) s, slo, shi) :: (flat (Kd.int .i64) 2 (.slice V wh.length vc) wh, vlo, vhi) :: R))
  case first =>
    go_region
    · go_wp2_with fail
      go_meet
      have HZ := ((HS.box #[.slice A0 l0.length c0, .slice A1 l1.length c1] 29).box #[.slice A2 l2.length c2, .slice A3 l3.length c3] 29).drew
      simp only [World.size_alloc] at HZ
      exact ⟨_, _, rfl, rfl, HZ.pick (.there .here)⟩
    · go_wp2_with fail
      go_meet
      have HZ := ((HS.box #[.slice A2 l2.length c2, .slice A3 l3.length c3] 29).box #[.slice A0 l0.length c0, .slice A1 l1.length c1] 29).drew
      simp only [World.size_alloc] at HZ
      exact ⟨_, _, rfl, rfl, HZ⟩
  case rest =>
    clear HS xa0 xa1 xa2 xa3 ya0 ya1 ya2 ya3 za0 za1 za2 za3 n1 n2 n3 n4 hg
    obtain ⟨p, q, rfl, rfl, HS⟩ := hcut
    obtain ⟨wa, rfl⟩ : ∃ x, x = wc := ⟨_, rfl⟩
    have q5 : wa.cell? ⟨g, 5, none⟩ = some (.slice F f.length fc) := HS.cell (List.mem_cons_of_mem _ (List.mem_cons_of_mem _ List.mem_cons_self)) 5 _ rfl
    go_wp2_with fail
    refine (slices_Contains_int64_int64.calls (Ev.num HHC1.out) F fc f a _ _ (HS.reads' (List.mem_cons_of_mem _ (List.mem_cons_of_mem _ (List.mem_cons_of_mem _ List.mem_cons_self)))).2.2 (HS.reads' (List.mem_cons_of_mem _ (List.mem_cons_of_mem _ (List.mem_cons_of_mem _ List.mem_cons_self)))).2.1 (Ev.is HHC1.out)).mono ?_
    rintro e w1 ⟨rfl, hb⟩
    clear q5
    replace HS := HS.step (by first | exact hb | exact hb.below)
    clear hb
    have q6 : w1.cell? ⟨g, 6, none⟩ = some (.slice S s.length sc) := HS.cell (List.mem_cons_of_mem _ (List.mem_cons_of_mem _ List.mem_cons_self)) 6 _ rfl
    go_wp2_with fail
    refine (slices_Contains_int64_int64.calls (Ev.num HHC2.out) S sc s a _ _ (HS.reads' (List.mem_cons_of_mem _ (List.mem_cons_of_mem _ (List.mem_cons_of_mem _ (List.mem_cons_of_mem _ List.mem_cons_self))))).2.2 (HS.reads' (List.mem_cons_of_mem _ (List.mem_cons_of_mem _ (List.mem_cons_of_mem _ (List.mem_cons_of_mem _ List.mem_cons_self))))).2.1 (Ev.is HHC2.out)).mono ?_
    rintro e w2 ⟨rfl, hb⟩
    clear q6
    replace HS := HS.step (by first | exact hb | exact hb.below)
    clear hb
    go_upto_if 51 with fail
    go_cut [] (fun wc => ∃ V2 vc2 vlo2 vhi2, Hold w0 wc ((boxT #[.slice A0 l0.length c0, .slice A1 l1.length c1] 29, p, p + 1) :: (boxT #[.slice A2 l2.length c2, .slice A3 l3.length c3] 29, q, q + 1) :: (boxT #[.slice A0 l0.length c0, .slice A1 l1.length c1, .slice A2 l2.length c2, .slice A3 l3.length c3, .int .i64 0, .slice F f.length fc, .slice S s.length sc, .slice V2 (wh.length + 1) vc2, .int .i64 bk] 111, g, g1) :: (flat (Kd.int .i64) 2 (.slice F f.length fc) f, flo, fhi) :: (flat (Kd.int .i64) 2 (.slice S s.length sc) s, slo, shi) :: (flat (Kd.int .i64) 2 (.slice V2 (wh.length + 1) vc2) ((wh ++ [(whV b2)])), vlo2, vhi2) :: R))
    case first =>
      cases b2
      · have q7 : w2.cell? ⟨g, 7, none⟩ = some (.slice V wh.length vc) := HS.cell (List.mem_cons_of_mem _ (List.mem_cons_of_mem _ List.mem_cons_self)) 7 _ rfl
        go_wp2_with ((with_reducible refine gate_builtin (b := .append) (xs := #[.tmp 65, .tmp 66]) rfl ?_); at_builtin; refine Hold.appendI HS rfl (.tmp 65) (.tmp 66) 24 2 rfl Try.underlying24 svInfo (.slice V wh.length vc) wh 3 rfl rfl (List.mem_cons_of_mem _ (List.mem_cons_of_mem _ (List.mem_cons_of_mem _ (List.mem_cons_of_mem _ (List.mem_cons_of_mem _ List.mem_cons_self))))) (by have := HHWH.out; omega) ?_; intro V2 vc2 vlo2 vhi2 w3 HQ; clear q7; replace HS := HQ _ (.there (.there (.there (.there (.there .here))))); clear HQ; have q7 : w3.cell? ⟨g, 7, none⟩ = some (.slice V wh.length vc) := HS.cell (List.mem_cons_of_mem _ (List.mem_cons_of_mem _ List.mem_cons_self)) 7 _ rfl; have fzq : ∀ j, w3.frozen? ⟨g, j, none⟩ = false := HS.thaw (List.mem_cons_of_mem _ (List.mem_cons_of_mem _ List.mem_cons_self)))
        clear fzq q7
        replace HS := HS.setBox 7 (.slice V2 (wh.length + 1) vc2) (.there (.there .here))
        simp only [List.setIfInBounds_toArray, List.set_cons_zero, List.set_cons_succ] at HS
        go_meet
        exact ⟨_, _, _, _, HS⟩
      · have q7 : w2.cell? ⟨g, 7, none⟩ = some (.slice V wh.length vc) := HS.cell (List.mem_cons_of_mem _ (List.mem_cons_of_mem _ List.mem_cons_self)) 7 _ rfl
        go_wp2_with ((with_reducible refine gate_builtin (b := .append) (xs := #[.tmp 56, .tmp 57]) rfl ?_); at_builtin; refine Hold.appendI HS rfl (.tmp 56) (.tmp 57) 24 2 rfl Try.underlying24 svInfo (.slice V wh.length vc) wh 2 rfl rfl (List.mem_cons_of_mem _ (List.mem_cons_of_mem _ (List.mem_cons_of_mem _ (List.mem_cons_of_mem _ (List.mem_cons_of_mem _ List.mem_cons_self))))) (by have := HHWH.out; omega) ?_; intro V2 vc2 vlo2 vhi2 w3 HQ; clear q7; replace HS := HQ _ (.there (.there (.there (.there (.there .here))))); clear HQ; have q7 : w3.cell? ⟨g, 7, none⟩ = some (.slice V wh.length vc) := HS.cell (List.mem_cons_of_mem _ (List.mem_cons_of_mem _ List.mem_cons_self)) 7 _ rfl; have fzq : ∀ j, w3.frozen? ⟨g, j, none⟩ = false := HS.thaw (List.mem_cons_of_mem _ (List.mem_cons_of_mem _ List.mem_cons_self)))
        clear fzq q7
        replace HS := HS.setBox 7 (.slice V2 (wh.length + 1) vc2) (.there (.there .here))
        simp only [List.setIfInBounds_toArray, List.set_cons_zero, List.set_cons_succ] at HS
        go_meet
        exact ⟨_, _, _, _, HS⟩
    case rest =>
      obtain ⟨V2, vc2, vlo2, vhi2, HS⟩ := hcut
      obtain ⟨wb, rfl⟩ : ∃ x, x = wc := ⟨_, rfl⟩
      have m4 : wb.cell? ⟨g, 4, none⟩ = some (.int .i64 0) := HS.cell (List.mem_cons_of_mem _ (List.mem_cons_of_mem _ List.mem_cons_self)) 4 _ rfl
      go_wp2_with fail
      clear m4
      have HD := Hold.drew HS
      refine start_ (n := 15) (S := fun w' => w'.cell? ⟨q, 0, none⟩ = some (.slice A2 l2.length c2) ∧ w'.cell? ⟨q, 1, none⟩ = some (.slice A3 l3.length c3) ∧ w'.cell? ⟨g, 6, none⟩ = some (.slice S s.length sc)) (ds := [14]) #[false, false, false, false, false, false, false, false, false, false, false, false, false, false, false] (by kernel_rfl) rfl rfl ⟨(HD.cell (List.mem_cons_of_mem _ List.mem_cons_self) 0 _ rfl), (HD.cell (List.mem_cons_of_mem _ List.mem_cons_self) 1 _ rfl), (HD.cell (List.mem_cons_of_mem _ (List.mem_cons_of_mem _ List.mem_cons_self)) 6 _ rfl)⟩ (fun hHeld => ?_)
      generalize wb.drew = wd at HD hHeld ⊢
      refine pure_ (i := 0) (N := some 76) (v := ?_) (a' := ?_) #[true, false, false, false, false, false, false, false, false, false, false, false, false, false, false] rfl rfl (by kernel_rfl) (fun _ _ _ h => h) (Or.inl ⟨by rfl, ?_⟩) ?_ ?_
      rotate_left
      · intro w'
        go_simp
        with_reducible rfl
      rotate_left
      · simp only [Act.put, List.setIfInBounds_toArray, List.set_cons_zero, List.set_cons_succ, i64_w, i32_w]
        rfl
      refine pure_ (i := 2) (N := some 78) (v := ?_) (a' := ?_) #[true, false, true, false, false, false, false, false, false, false, false, false, false, false, false] rfl rfl (by kernel_rfl) (fun _ _ _ h => h) (Or.inl ⟨by rfl, ?_⟩) ?_ ?_
      rotate_left
      · intro w'
        go_simp
        with_reducible rfl
      rotate_left
      · simp only [Act.put, List.setIfInBounds_toArray, List.set_cons_zero, List.set_cons_succ, i64_w, i32_w]
        rfl
      refine pure_ (i := 3) (N := some 79) (v := ?_) (a' := ?_) #[true, false, true, true, false, false, false, false, false, false, false, false, false, false, false] rfl rfl (by kernel_rfl) (fun _ _ _ h => h) (Or.inl ⟨by rfl, ?_⟩) ?_ ?_
      rotate_left
      · intro w'
        go_simp
        with_reducible rfl
      rotate_left
      · simp only [Act.put, List.setIfInBounds_toArray, List.set_cons_zero, List.set_cons_succ, i64_w, i32_w]
        rfl
      refine pure_ (i := 4) (N := some 80) (v := ?_) (a' := ?_) #[true, false, true, true, true, false, false, false, false, false, false, false, false, false, false] rfl rfl (by kernel_rfl) (fun _ _ _ h => h) (Or.inl ⟨by rfl, ?_⟩) ?_ ?_
      rotate_left
      · intro w'
        go_simp
        with_reducible rfl
      rotate_left
      · simp only [Act.put, List.setIfInBounds_toArray, List.set_cons_zero, List.set_cons_succ, i64_w, i32_w]
        rfl
      refine pure_ (i := 6) (N := some 82) (v := ?_) (a' := ?_) #[true, false, true, true, true, false, true, false, false, false, false, false, false, false, false] rfl rfl (by kernel_rfl) (fun _ _ _ h => h) (Or.inl ⟨by rfl, ?_⟩) ?_ ?_
      rotate_left
      · intro w'
        go_simp
        with_reducible rfl
      rotate_left
      · simp only [Act.put, List.setIfInBounds_toArray, List.set_cons_zero, List.set_cons_succ, i64_w, i32_w]
        rfl
      refine take_ (i := 1) (N := some 77) (v := ?_) (a' := ?_) #[true, true, true, true, true, false, true, false, false, false, false, false, false, false, false] rfl rfl (by kernel_rfl) (fun _ _ _ h => h) (Or.inl ⟨by rfl, ?_⟩) hHeld ?_ ?_
      rotate_left
      · rintro w' ⟨s0, s1, s2⟩
        go_simp
        with_reducible rfl
      rotate_left
      · simp only [Act.put, List.setIfInBounds_toArray, List.set_cons_zero, List.set_cons_succ, i64_w, i32_w]
        rfl
      refine take_ (i := 5) (N := some 81) (v := ?_) (a' := ?_) #[true, true, true, true, true, true, true, false, false, false, false, false, false, false, false] rfl rfl (by kernel_rfl) (fun _ _ _ h => h) (Or.inl ⟨by rfl, ?_⟩) hHeld ?_ ?_
      rotate_left
      · rintro w' ⟨s0, s1, s2⟩
        go_simp
        with_reducible rfl
      rotate_left
      · simp only [Act.put, List.setIfInBounds_toArray, List.set_cons_zero, List.set_cons_succ, i64_w, i32_w]
        rfl
      refine one_ (i := 7) (N := some 83) #[true, true, true, true, true, true, true, true, false, false, false, false, false, false, false] rfl rfl (by kernel_rfl) (by decide) (fun K hK => ?_)
      refine goes_ Try.func83 (by kernel_rfl) rfl #[.agg #[.slice A2 l2.length c2, .slice A3 l3.length c3], .slice S s.length sc, .int .i64 a] (by rfl) rfl rfl (by simp only [List.map_toArray, List.map_cons, List.map_nil]; rfl) ?_
      with_reducible refine (impl_Policy_step.calls (Ev.num HE2.out) A2 c2 l2 A3 c3 l3 S sc s a _ _ _ _ (HR2.out.at HD (fun _ hx_ => (List.mem_cons_of_mem _ (List.mem_cons_of_mem _ (List.mem_cons_of_mem _ (List.mem_cons_of_mem _ (List.mem_cons_of_mem _ (List.mem_cons_of_mem _ hx_)))))))) HQ2.out (HR3.out.at HD (fun _ hx_ => (List.mem_cons_of_mem _ (List.mem_cons_of_mem _ (List.mem_cons_of_mem _ (List.mem_cons_of_mem _ (List.mem_cons_of_mem _ (List.mem_cons_of_mem _ hx_)))))))) HQ3.out (HD.reads' (List.mem_cons_of_mem _ (List.mem_cons_of_mem _ (List.mem_cons_of_mem _ (List.mem_cons_of_mem _ List.mem_cons_self))))).2.2 (HD.reads' (List.mem_cons_of_mem _ (List.mem_cons_of_mem _ (List.mem_cons_of_mem _ (List.mem_cons_of_mem _ List.mem_cons_self))))).2.1 (Ev.is HE2.out)).mono ?_
      rintro e w4 ⟨v_, rfl, hr, hb⟩
      refine ⟨_, rfl, ?_⟩
      obtain ⟨B3, bc3, rfl⟩ := Kd.R_slice hr
      replace HD := HD.made hb hr
      clear hb hr
      have s0_ : w4.cell? ⟨q, 0, none⟩ = some (.slice A2 l2.length c2) := HD.cell (List.mem_cons_of_mem _ (List.mem_cons_of_mem _ List.mem_cons_self)) 0 _ rfl
      have s1_ : w4.cell? ⟨q, 1, none⟩ = some (.slice A3 l3.length c3) := HD.cell (List.mem_cons_of_mem _ (List.mem_cons_of_mem _ List.mem_cons_self)) 1 _ rfl
      have s2_ : w4.cell? ⟨g, 6, none⟩ = some (.slice S s.length sc) := HD.cell (List.mem_cons_of_mem _ (List.mem_cons_of_mem _ (List.mem_cons_of_mem _ List.mem_cons_self))) 6 _ rfl
      have fz_ : ∀ j, w4.frozen? ⟨g, j, none⟩ = false := HD.thaw (List.mem_cons_of_mem _ (List.mem_cons_of_mem _ (List.mem_cons_of_mem _ List.mem_cons_self)))
      refine hK.out _ _ ⟨s0_, s1_, s2_⟩ (fun hHeld => ?_)
      clear hK K
      refine norm_ (a' := ?_) ?_ ?_
      rotate_left
      · show Act.put _ (some 83) _ = _
        simp only [Act.put, List.setIfInBounds_toArray, List.set_cons_zero, List.set_cons_succ, i64_w, i32_w]
        rfl
      refine pure_ (i := 8) (N := some 75) (v := ?_) (a' := ?_) #[true, true, true, true, true, true, true, true, true, false, false, false, false, false, false] rfl rfl (by kernel_rfl) (fun _ _ _ h => h) (Or.inl ⟨by rfl, ?_⟩) ?_ ?_
      rotate_left
      · intro w'
        go_simp
        with_reducible rfl
      rotate_left
      · simp only [Act.put, List.setIfInBounds_toArray, List.set_cons_zero, List.set_cons_succ, i64_w, i32_w]
        rfl
      refine pure_ (i := 9) (N := some 84) (v := ?_) (a' := ?_) #[true, true, true, true, true, true, true, true, true, true, false, false, false, false, false] rfl rfl (by kernel_rfl) (fun _ _ _ h => h) (Or.inl ⟨by rfl, ?_⟩) ?_ ?_
      rotate_left
      · intro w'
        go_simp
        with_reducible rfl
      rotate_left
      · simp only [Act.put, List.setIfInBounds_toArray, List.set_cons_zero, List.set_cons_succ, i64_w, i32_w]
        rfl
      refine pure_ (i := 10) (N := some 85) (v := ?_) (a' := ?_) #[true, true, true, true, true, true, true, true, true, true, true, false, false, false, false] rfl rfl (by kernel_rfl) (fun _ _ _ h => h) (Or.inl ⟨by rfl, ?_⟩) ?_ ?_
      rotate_left
      · intro w'
        go_simp
        with_reducible rfl
      rotate_left
      · simp only [Act.put, List.setIfInBounds_toArray, List.set_cons_zero, List.set_cons_succ, i64_w, i32_w]
        rfl
      refine pure_ (i := 11) (N := some 86) (v := ?_) (a' := ?_) #[true, true, true, true, true, true, true, true, true, true, true, true, false, false, false] rfl rfl (by kernel_rfl) (fun _ _ _ h => h) (Or.inl ⟨by rfl, ?_⟩) ?_ ?_
      rotate_left
      · intro w'
        go_simp
        with_reducible rfl
      rotate_left
      · simp only [Act.put, List.setIfInBounds_toArray, List.set_cons_zero, List.set_cons_succ, i64_w, i32_w]
        rfl
      refine pure_ (i := 12) (N := some 87) (v := ?_) (a' := ?_) #[true, true, true, true, true, true, true, true, true, true, true, true, true, false, false] rfl rfl (by kernel_rfl) (fun _ _ _ h => h) (Or.inl ⟨by rfl, ?_⟩) ?_ ?_
      rotate_left
      · intro w'
        go_simp
        with_reducible rfl
      rotate_left
      · simp only [Act.put, List.setIfInBounds_toArray, List.set_cons_zero, List.set_cons_succ, i64_w, i32_w]
        rfl
      refine pure_ (i := 13) (N := some 88) (v := ?_) (a' := ?_) #[true, true, true, true, true, true, true, true, true, true, true, true, true, true, false] rfl rfl (by kernel_rfl) (fun _ _ _ h => h) (Or.inl ⟨by rfl, ?_⟩) ?_ ?_
      rotate_left
      · intro w'
        go_simp
        with_reducible rfl
      rotate_left
      · simp only [Act.put, List.setIfInBounds_toArray, List.set_cons_zero, List.set_cons_succ, i64_w, i32_w]
        rfl
      refine last_ (i := 14) (N := none) #[true, true, true, true, true, true, true, true, true, true, true, true, true, true, true] rfl rfl (by kernel_rfl) (by decide) (fun K hK => ?_)
      refine skip_ (w1 := ?_) (by rfl) rfl ?_ ?_
      rotate_left
      · go_simp
        rfl
      refine hK.out _ _ ?_
      clear hK K
      refine done_ (by kernel_rfl) ?_
      clear hHeld s0_ s1_ s2_ fz_
      replace HS := HD
      clear HD
      replace HS := HS.setBox 6 (.slice B3 (x2).length bc3) (.there (.there (.there .here)))
      simp only [List.setIfInBounds_toArray, List.set_cons_zero, List.set_cons_succ] at HS
      generalize w4.setCell ⟨g, 6, none⟩ (.slice B3 (x2).length bc3) = w4b at HS ⊢
      replace HS := HS.pick (.there (.there (.there (.there (.there .here)))))
      replace HS := HS.tail
      go_wp2_with fail
      have HD := Hold.drew HS
      refine start_ (n := 15) (S := fun w' => w'.cell? ⟨p, 0, none⟩ = some (.slice A0 l0.length c0) ∧ w'.cell? ⟨p, 1, none⟩ = some (.slice A1 l1.length c1) ∧ w'.cell? ⟨g, 5, none⟩ = some (.slice F f.length fc)) (ds := [14]) #[false, false, false, false, false, false, false, false, false, false, false, false, false, false, false] (by kernel_rfl) rfl rfl ⟨(HD.cell (List.mem_cons_of_mem _ List.mem_cons_self) 0 _ rfl), (HD.cell (List.mem_cons_of_mem _ List.mem_cons_self) 1 _ rfl), (HD.cell (List.mem_cons_of_mem _ (List.mem_cons_of_mem _ (List.mem_cons_of_mem _ List.mem_cons_self))) 5 _ rfl)⟩ (fun hHeld => ?_)
      generalize w4b.drew = wd at HD hHeld ⊢
      refine pure_ (i := 0) (N := some 157) (v := ?_) (a' := ?_) #[true, false, false, false, false, false, false, false, false, false, false, false, false, false, false] rfl rfl (by kernel_rfl) (fun _ _ _ h => h) (Or.inl ⟨by rfl, ?_⟩) ?_ ?_
      rotate_left
      · intro w'
        go_simp
        with_reducible rfl
      rotate_left
      · simp only [Act.put, List.setIfInBounds_toArray, List.set_cons_zero, List.set_cons_succ, i64_w, i32_w]
        rfl
      refine pure_ (i := 2) (N := some 159) (v := ?_) (a' := ?_) #[true, false, true, false, false, false, false, false, false, false, false, false, false, false, false] rfl rfl (by kernel_rfl) (fun _ _ _ h => h) (Or.inl ⟨by rfl, ?_⟩) ?_ ?_
      rotate_left
      · intro w'
        go_simp
        with_reducible rfl
      rotate_left
      · simp only [Act.put, List.setIfInBounds_toArray, List.set_cons_zero, List.set_cons_succ, i64_w, i32_w]
        rfl
      refine pure_ (i := 3) (N := some 160) (v := ?_) (a' := ?_) #[true, false, true, true, false, false, false, false, false, false, false, false, false, false, false] rfl rfl (by kernel_rfl) (fun _ _ _ h => h) (Or.inl ⟨by rfl, ?_⟩) ?_ ?_
      rotate_left
      · intro w'
        go_simp
        with_reducible rfl
      rotate_left
      · simp only [Act.put, List.setIfInBounds_toArray, List.set_cons_zero, List.set_cons_succ, i64_w, i32_w]
        rfl
      refine pure_ (i := 4) (N := some 161) (v := ?_) (a' := ?_) #[true, false, true, true, true, false, false, false, false, false, false, false, false, false, false] rfl rfl (by kernel_rfl) (fun _ _ _ h => h) (Or.inl ⟨by rfl, ?_⟩) ?_ ?_
      rotate_left
      · intro w'
        go_simp
        with_reducible rfl
      rotate_left
      · simp only [Act.put, List.setIfInBounds_toArray, List.set_cons_zero, List.set_cons_succ, i64_w, i32_w]
        rfl
      refine pure_ (i := 6) (N := some 163) (v := ?_) (a' := ?_) #[true, false, true, true, true, false, true, false, false, false, false, false, false, false, false] rfl rfl (by kernel_rfl) (fun _ _ _ h => h) (Or.inl ⟨by rfl, ?_⟩) ?_ ?_
      rotate_left
      · intro w'
        go_simp
        with_reducible rfl
      rotate_left
      · simp only [Act.put, List.setIfInBounds_toArray, List.set_cons_zero, List.set_cons_succ, i64_w, i32_w]
        rfl
      refine take_ (i := 1) (N := some 158) (v := ?_) (a' := ?_) #[true, true, true, true, true, false, true, false, false, false, false, false, false, false, false] rfl rfl (by kernel_rfl) (fun _ _ _ h => h) (Or.inl ⟨by rfl, ?_⟩) hHeld ?_ ?_
      rotate_left
      · rintro w' ⟨s0, s1, s2⟩
        go_simp
        with_reducible rfl
      rotate_left
      · simp only [Act.put, List.setIfInBounds_toArray, List.set_cons_zero, List.set_cons_succ, i64_w, i32_w]
        rfl
      refine take_ (i := 5) (N := some 162) (v := ?_) (a' := ?_) #[true, true, true, true, true, true, true, false, false, false, false, false, false, false, false] rfl rfl (by kernel_rfl) (fun _ _ _ h => h) (Or.inl ⟨by rfl, ?_⟩) hHeld ?_ ?_
      rotate_left
      · rintro w' ⟨s0, s1, s2⟩
        go_simp
        with_reducible rfl
      rotate_left
      · simp only [Act.put, List.setIfInBounds_toArray, List.set_cons_zero, List.set_cons_succ, i64_w, i32_w]
        rfl
      refine one_ (i := 7) (N := some 164) #[true, true, true, true, true, true, true, true, false, false, false, false, false, false, false] rfl rfl (by kernel_rfl) (by decide) (fun K hK => ?_)
      refine goes_ Try.func83 (by kernel_rfl) rfl #[.agg #[.slice A0 l0.length c0, .slice A1 l1.length c1], .slice F f.length fc, .int .i64 a] (by rfl) rfl rfl (by simp only [List.map_toArray, List.map_cons, List.map_nil]; rfl) ?_
      with_reducible refine (impl_Policy_step.calls (Ev.num HE1.out) A0 c0 l0 A1 c1 l1 F fc f a _ _ _ _ (HR0.out.at HD (fun _ hx_ => (List.mem_cons_of_mem _ (List.mem_cons_of_mem _ (List.mem_cons_of_mem _ (List.mem_cons_of_mem _ (List.mem_cons_of_mem _ (List.mem_cons_of_mem _ hx_)))))))) HQ0.out (HR1.out.at HD (fun _ hx_ => (List.mem_cons_of_mem _ (List.mem_cons_of_mem _ (List.mem_cons_of_mem _ (List.mem_cons_of_mem _ (List.mem_cons_of_mem _ (List.mem_cons_of_mem _ hx_)))))))) HQ1.out (HD.reads' (List.mem_cons_of_mem _ (List.mem_cons_of_mem _ (List.mem_cons_of_mem _ (List.mem_cons_of_mem _ List.mem_cons_self))))).2.2 (HD.reads' (List.mem_cons_of_mem _ (List.mem_cons_of_mem _ (List.mem_cons_of_mem _ (List.mem_cons_of_mem _ List.mem_cons_self))))).2.1 (Ev.is HE1.out)).mono ?_
      rintro e w7 ⟨v_, rfl, hr, hb⟩
      refine ⟨_, rfl, ?_⟩
      obtain ⟨B4, bc4, rfl⟩ := Kd.R_slice hr
      replace HD := HD.made hb hr
      clear hb hr
      have s0_ : w7.cell? ⟨p, 0, none⟩ = some (.slice A0 l0.length c0) := HD.cell (List.mem_cons_of_mem _ (List.mem_cons_of_mem _ List.mem_cons_self)) 0 _ rfl
      have s1_ : w7.cell? ⟨p, 1, none⟩ = some (.slice A1 l1.length c1) := HD.cell (List.mem_cons_of_mem _ (List.mem_cons_of_mem _ List.mem_cons_self)) 1 _ rfl
      have s2_ : w7.cell? ⟨g, 5, none⟩ = some (.slice F f.length fc) := HD.cell (List.mem_cons_of_mem _ (List.mem_cons_of_mem _ (List.mem_cons_of_mem _ (List.mem_cons_of_mem _ List.mem_cons_self)))) 5 _ rfl
      have fz_ : ∀ j, w7.frozen? ⟨g, j, none⟩ = false := HD.thaw (List.mem_cons_of_mem _ (List.mem_cons_of_mem _ (List.mem_cons_of_mem _ (List.mem_cons_of_mem _ List.mem_cons_self))))
      refine hK.out _ _ ⟨s0_, s1_, s2_⟩ (fun hHeld => ?_)
      clear hK K
      refine norm_ (a' := ?_) ?_ ?_
      rotate_left
      · show Act.put _ (some 164) _ = _
        simp only [Act.put, List.setIfInBounds_toArray, List.set_cons_zero, List.set_cons_succ, i64_w, i32_w]
        rfl
      refine pure_ (i := 8) (N := some 156) (v := ?_) (a' := ?_) #[true, true, true, true, true, true, true, true, true, false, false, false, false, false, false] rfl rfl (by kernel_rfl) (fun _ _ _ h => h) (Or.inl ⟨by rfl, ?_⟩) ?_ ?_
      rotate_left
      · intro w'
        go_simp
        with_reducible rfl
      rotate_left
      · simp only [Act.put, List.setIfInBounds_toArray, List.set_cons_zero, List.set_cons_succ, i64_w, i32_w]
        rfl
      refine pure_ (i := 9) (N := some 165) (v := ?_) (a' := ?_) #[true, true, true, true, true, true, true, true, true, true, false, false, false, false, false] rfl rfl (by kernel_rfl) (fun _ _ _ h => h) (Or.inl ⟨by rfl, ?_⟩) ?_ ?_
      rotate_left
      · intro w'
        go_simp
        with_reducible rfl
      rotate_left
      · simp only [Act.put, List.setIfInBounds_toArray, List.set_cons_zero, List.set_cons_succ, i64_w, i32_w]
        rfl
      refine pure_ (i := 10) (N := some 166) (v := ?_) (a' := ?_) #[true, true, true, true, true, true, true, true, true, true, true, false, false, false, false] rfl rfl (by kernel_rfl) (fun _ _ _ h => h) (Or.inl ⟨by rfl, ?_⟩) ?_ ?_
      rotate_left
      · intro w'
        go_simp
        with_reducible rfl
      rotate_left
      · simp only [Act.put, List.setIfInBounds_toArray, List.set_cons_zero, List.set_cons_succ, i64_w, i32_w]
        rfl
      refine pure_ (i := 11) (N := some 167) (v := ?_) (a' := ?_) #[true, true, true, true, true, true, true, true, true, true, true, true, false, false, false] rfl rfl (by kernel_rfl) (fun _ _ _ h => h) (Or.inl ⟨by rfl, ?_⟩) ?_ ?_
      rotate_left
      · intro w'
        go_simp
        with_reducible rfl
      rotate_left
      · simp only [Act.put, List.setIfInBounds_toArray, List.set_cons_zero, List.set_cons_succ, i64_w, i32_w]
        rfl
      refine pure_ (i := 12) (N := some 168) (v := ?_) (a' := ?_) #[true, true, true, true, true, true, true, true, true, true, true, true, true, false, false] rfl rfl (by kernel_rfl) (fun _ _ _ h => h) (Or.inl ⟨by rfl, ?_⟩) ?_ ?_
      rotate_left
      · intro w'
        go_simp
        with_reducible rfl
      rotate_left
      · simp only [Act.put, List.setIfInBounds_toArray, List.set_cons_zero, List.set_cons_succ, i64_w, i32_w]
        rfl
      refine pure_ (i := 13) (N := some 169) (v := ?_) (a' := ?_) #[true, true, true, true, true, true, true, true, true, true, true, true, true, true, false] rfl rfl (by kernel_rfl) (fun _ _ _ h => h) (Or.inl ⟨by rfl, ?_⟩) ?_ ?_
      rotate_left
      · intro w'
        go_simp
        with_reducible rfl
      rotate_left
      · simp only [Act.put, List.setIfInBounds_toArray, List.set_cons_zero, List.set_cons_succ, i64_w, i32_w]
        rfl
      refine last_ (i := 14) (N := none) #[true, true, true, true, true, true, true, true, true, true, true, true, true, true, true] rfl rfl (by kernel_rfl) (by decide) (fun K hK => ?_)
      refine skip_ (w1 := ?_) (by rfl) rfl ?_ ?_
      rotate_left
      · go_simp
        rfl
      refine hK.out _ _ ?_
      clear hK K
      refine done_ (by kernel_rfl) ?_
      clear hHeld s0_ s1_ s2_ fz_
      replace HS := HD
      clear HD
      replace HS := HS.setBox 5 (.slice B4 (x1).length bc4) (.there (.there (.there (.there .here))))
      simp only [List.setIfInBounds_toArray, List.set_cons_zero, List.set_cons_succ] at HS
      generalize w7.setCell ⟨g, 5, none⟩ (.slice B4 (x1).length bc4) = w7b at HS ⊢
      replace HS := HS.pick (.there (.there (.there (.there (.there .here)))))
      replace HS := HS.tail
      go_wp2_with fail
      (try simp only [Exit.inBlock, Exit.then]); first | refine bodyPost_ret (results_none rfl _ _ _) rfl ?_ | refine bodyPost_end (results_none rfl _ _ _) rfl ?_
      replace HS := HS.pick (.there (.there .here))
      replace HS := HS.tail
      replace HS := HS.pick (.there (.there .here))
      replace HS := HS.tail
      replace HS := HS.pick (.there (.there (.there .here)))
      replace HS := HS.pick (.there (.there .here))
      replace HS := HS.pick (.there (.there .here))
      replace HS := HS.pick (.there (.there (.there .here)))
      exact ⟨rfl, _, _, _, _, _, _, _, _, _, _, _, _, HS⟩
set_option maxHeartbeats 4000000 in
set_option maxRecDepth 100000 in
theorem use_1 {w0 w : World} {R : List (Thing × Nat × Nat)} {A0 : Option Addr} {c0 : Nat} {l0 : List (List Int)} {A1 : Option Addr} {c1 : Nat} {l1 : List Int} {A2 : Option Addr} {c2 : Nat} {l2 : List (List Int)} {A3 : Option Addr} {c3 : Nat} {l3 : List Int} {g g1 fc flo fhi sc slo shi vc vlo vhi : Nat} {F S V : Option Addr} {bk a : Int} {f s wh : List Int}
    (h : Hold w0 w ((boxT #[.slice A0 l0.length c0, .slice A1 l1.length c1, .slice A2 l2.length c2, .slice A3 l3.length c3, .int .i64 1, .slice F f.length fc, .slice S s.length sc, .slice V wh.length vc, .int .i64 bk] 111, g, g1) :: (flat (Kd.int .i64) 2 (.slice F f.length fc) f, flo, fhi) :: (flat (Kd.int .i64) 2 (.slice S s.length sc) s, slo, shi) :: (flat (Kd.int .i64) 2 (.slice V wh.length vc) wh, vlo, vhi) :: R))
    (r0 : Rd w0 R (Kd.slice 2 (Kd.int .i64)) A0 l0) (r1 : Rd w0 R (Kd.int .i64) A1 l1) (r2 : Rd w0 R (Kd.slice 2 (Kd.int .i64)) A2 l2) (r3 : Rd w0 R (Kd.int .i64) A3 l3) (q0 : l0.length ≤ c0) (q1 : l1.length ≤ c1) (q2 : l2.length ≤ c2) (q3 : l3.length ≤ c3) (hwh : wh.length ≤ 1000)
    (hc1 : Ev (fun k => slices_Contains_int64_int64.f k f a) false) {b2 : Bool} (hc2 : Ev (fun k => slices_Contains_int64_int64.f k s a) b2) {x2 : List Int} {o2 : Int} {b3 : Bool} (e2 : Ev (fun k => impl_Policy_step.f k l2 l3 s a) (x2, o2, b3)) {f' : List Int} (ht : takeV f o2 = (f', false)) (hp : 0 < f.length) (hl : f'.length = f.length ∧ f.length ≤ 6) {x1 : List Int} {o1 : Int} {b1 : Bool} (e1 : Ev (fun k => impl_Policy_step.f k l0 l1 f' a) (x1, o1, b1)) (hk0 : 0 ≤ bk) (hk1 : bk ≤ 1000) :
    Calls Try.prog 104 #[.pointer (some ⟨g, 0, none⟩), .int .i64 a] w fun e w' => e = .returned (.tuple #[]) ∧ ∃ F' fc' flo' fhi' S' sc' slo' shi' V' vc' vlo' vhi', Hold w0 w' ((boxT #[.slice A0 l0.length c0, .slice A1 l1.length c1, .slice A2 l2.length c2, .slice A3 l3.length c3, .int .i64 1, .slice F' (x1).length fc', .slice S' (x2).length sc', .slice V' (wh.length + 1) vc', .int .i64 (bk)] 111, g, g1) :: (flat (Kd.int .i64) 2 (.slice F' (x1).length fc') x1, flo', fhi') :: (flat (Kd.int .i64) 2 (.slice S' (x2).length sc') x2, slo', shi') :: (flat (Kd.int .i64) 2 (.slice V' (wh.length + 1) vc') (wh ++ [whV b2]), vlo', vhi') :: R) := by
  have HP2 := Aside0.mk hp
  have HL1 := Aside0.mk hl.1
  have HL2 := Aside0.mk hl.2
  have HS := h
  obtain ⟨bf_, c_, hv_, _, _⟩ := HS.row_form (List.mem_cons_of_mem _ List.mem_cons_self) hp
  injection hv_ with hv_ _ he_
  subst hv_
  subst he_
  clear hp hl
  have HR0 := Aside0.mk r0
  have HR1 := Aside0.mk r1
  have HR2 := Aside0.mk r2
  have HR3 := Aside0.mk r3
  have HQ0 := Aside0.mk q0
  have HQ1 := Aside0.mk q1
  have HQ2 := Aside0.mk q2
  have HQ3 := Aside0.mk q3
  have HHWH := Aside0.mk hwh
  have HHC1 := Aside0.mk hc1
  have HHC2 := Aside0.mk hc2
  have HE1 := Aside0.mk e1
  have HE2 := Aside0.mk e2
  have HHT := Aside0.mk ht
  have hgt : w0.heap.size ≤ g ∧ g < w.heap.size := by obtain ⟨⟨_, e_⟩, h1_, _, h3_⟩ := HS.get List.mem_cons_self; omega
  have hg : g < w.heap.size := hgt.2
  clear h hgt r0 r1 r2 r3 q0 q1 q2 q3 hwh hc1 hc2 e1 e2 ht
  have xa0 : w.cell? ⟨g, 0, none⟩ = some (.slice A0 l0.length c0) := HS.cell List.mem_cons_self 0 _ rfl
  have xa1 : w.cell? ⟨g, 1, none⟩ = some (.slice A1 l1.length c1) := HS.cell List.mem_cons_self 1 _ rfl
  have xa2 : w.cell? ⟨g, 2, none⟩ = some (.slice A2 l2.length c2) := HS.cell List.mem_cons_self 2 _ rfl
  have xa3 : w.cell? ⟨g, 3, none⟩ = some (.slice A3 l3.length c3) := HS.cell List.mem_cons_self 3 _ rfl
  have ya0 : (w.alloc (.cells #[.slice none 0 0, .slice none 0 0] 29)).cell? ⟨g, 0, none⟩ = some (.slice A0 l0.length c0) := (HS.alloc _).cell List.mem_cons_self 0 _ rfl
  have ya1 : (w.alloc (.cells #[.slice none 0 0, .slice none 0 0] 29)).cell? ⟨g, 1, none⟩ = some (.slice A1 l1.length c1) := (HS.alloc _).cell List.mem_cons_self 1 _ rfl
  have ya2 : (w.alloc (.cells #[.slice none 0 0, .slice none 0 0] 29)).cell? ⟨g, 2, none⟩ = some (.slice A2 l2.length c2) := (HS.alloc _).cell List.mem_cons_self 2 _ rfl
  have ya3 : (w.alloc (.cells #[.slice none 0 0, .slice none 0 0] 29)).cell? ⟨g, 3, none⟩ = some (.slice A3 l3.length c3) := (HS.alloc _).cell List.mem_cons_self 3 _ rfl
  have za0 : ((w.alloc (.cells #[.slice none 0 0, .slice none 0 0] 29)).alloc (.cells #[.slice none 0 0, .slice none 0 0] 29)).cell? ⟨g, 0, none⟩ = some (.slice A0 l0.length c0) := ((HS.alloc _).alloc _).cell List.mem_cons_self 0 _ rfl
  have za1 : ((w.alloc (.cells #[.slice none 0 0, .slice none 0 0] 29)).alloc (.cells #[.slice none 0 0, .slice none 0 0] 29)).cell? ⟨g, 1, none⟩ = some (.slice A1 l1.length c1) := ((HS.alloc _).alloc _).cell List.mem_cons_self 1 _ rfl
  have za2 : ((w.alloc (.cells #[.slice none 0 0, .slice none 0 0] 29)).alloc (.cells #[.slice none 0 0, .slice none 0 0] 29)).cell? ⟨g, 2, none⟩ = some (.slice A2 l2.length c2) := ((HS.alloc _).alloc _).cell List.mem_cons_self 2 _ rfl
  have za3 : ((w.alloc (.cells #[.slice none 0 0, .slice none 0 0] 29)).alloc (.cells #[.slice none 0 0, .slice none 0 0] 29)).cell? ⟨g, 3, none⟩ = some (.slice A3 l3.length c3) := ((HS.alloc _).alloc _).cell List.mem_cons_self 3 _ rfl
  have n1 : ¬ g = w.heap.size := by omega
  have n2 : ¬ g = w.heap.size + 1 := by omega
  have n3 : ¬ w.heap.size = g := by omega
  have n4 : ¬ w.heap.size + 1 = g := by omega
  go_enter Try.func104, Try.ntmps104
  go_upto_region 0 with fail
  go_cut [4, 5] (fun v4 v5 wc => ∃ p q, v4 = .pointer (some ⟨p, 0, none⟩) ∧ v5 = .pointer (some ⟨q, 0, none⟩) ∧ Hold w0 wc ((boxT #[.slice A0 l0.length c0, .slice A1 l1.length c1] 29, p, p + 1) :: (boxT #[.slice A2 l2.length c2, .slice A3 l3.length c3] 29, q, q + 1) :: (boxT #[.slice A0 l0.length c0, .slice A1 l1.length c1, .slice A2 l2.length c2, .slice A3 l3.length c3, .int .i64 1, .slice (some ⟨bf_, 0, none⟩) f.length fc, .slice S s.length sc, .slice V wh.length vc, .int .i64 bk] 111, g, g1) :: (flat (Kd.int .i64) 2 (.slice (some ⟨bf_, 0, none⟩) f.length fc) f, flo, fhi) :: (flat (Kd.int .i64) 2 (.slice S s.length sc) s, slo, shi) :: (flat (Kd.int .i64) 2 (.slice V wh.length vc) wh, vlo, vhi) :: R))
  case first =>
    go_region
    · go_wp2_with fail
      go_meet
      have HZ := ((HS.box #[.slice A0 l0.length c0, .slice A1 l1.length c1] 29).box #[.slice A2 l2.length c2, .slice A3 l3.length c3] 29).drew
      simp only [World.size_alloc] at HZ
      exact ⟨_, _, rfl, rfl, HZ.pick (.there .here)⟩
    · go_wp2_with fail
      go_meet
      have HZ := ((HS.box #[.slice A2 l2.length c2, .slice A3 l3.length c3] 29).box #[.slice A0 l0.length c0, .slice A1 l1.length c1] 29).drew
      simp only [World.size_alloc] at HZ
      exact ⟨_, _, rfl, rfl, HZ⟩
  case rest =>
    clear HS xa0 xa1 xa2 xa3 ya0 ya1 ya2 ya3 za0 za1 za2 za3 n1 n2 n3 n4 hg
    obtain ⟨p, q, rfl, rfl, HS⟩ := hcut
    obtain ⟨wa, rfl⟩ : ∃ x, x = wc := ⟨_, rfl⟩
    have q5 : wa.cell? ⟨g, 5, none⟩ = some (.slice (some ⟨bf_, 0, none⟩) f.length fc) := HS.cell (List.mem_cons_of_mem _ (List.mem_cons_of_mem _ List.mem_cons_self)) 5 _ rfl
    go_wp2_with fail
    refine (slices_Contains_int64_int64.calls (Ev.num HHC1.out) (some ⟨bf_, 0, none⟩) fc f a _ _ (HS.reads' (List.mem_cons_of_mem _ (List.mem_cons_of_mem _ (List.mem_cons_of_mem _ List.mem_cons_self)))).2.2 (HS.reads' (List.mem_cons_of_mem _ (List.mem_cons_of_mem _ (List.mem_cons_of_mem _ List.mem_cons_self)))).2.1 (Ev.is HHC1.out)).mono ?_
    rintro e w1 ⟨rfl, hb⟩
    clear q5
    replace HS := HS.step (by first | exact hb | exact hb.below)
    clear hb
    have q6 : w1.cell? ⟨g, 6, none⟩ = some (.slice S s.length sc) := HS.cell (List.mem_cons_of_mem _ (List.mem_cons_of_mem _ List.mem_cons_self)) 6 _ rfl
    go_wp2_with fail
    refine (slices_Contains_int64_int64.calls (Ev.num HHC2.out) S sc s a _ _ (HS.reads' (List.mem_cons_of_mem _ (List.mem_cons_of_mem _ (List.mem_cons_of_mem _ (List.mem_cons_of_mem _ List.mem_cons_self))))).2.2 (HS.reads' (List.mem_cons_of_mem _ (List.mem_cons_of_mem _ (List.mem_cons_of_mem _ (List.mem_cons_of_mem _ List.mem_cons_self))))).2.1 (Ev.is HHC2.out)).mono ?_
    rintro e w2 ⟨rfl, hb⟩
    clear q6
    replace HS := HS.step (by first | exact hb | exact hb.below)
    clear hb
    go_upto_if 51 with fail
    go_cut [] (fun wc => ∃ V2 vc2 vlo2 vhi2, Hold w0 wc ((boxT #[.slice A0 l0.length c0, .slice A1 l1.length c1] 29, p, p + 1) :: (boxT #[.slice A2 l2.length c2, .slice A3 l3.length c3] 29, q, q + 1) :: (boxT #[.slice A0 l0.length c0, .slice A1 l1.length c1, .slice A2 l2.length c2, .slice A3 l3.length c3, .int .i64 1, .slice (some ⟨bf_, 0, none⟩) f.length fc, .slice S s.length sc, .slice V2 (wh.length + 1) vc2, .int .i64 bk] 111, g, g1) :: (flat (Kd.int .i64) 2 (.slice (some ⟨bf_, 0, none⟩) f.length fc) f, flo, fhi) :: (flat (Kd.int .i64) 2 (.slice S s.length sc) s, slo, shi) :: (flat (Kd.int .i64) 2 (.slice V2 (wh.length + 1) vc2) ((wh ++ [(whV b2)])), vlo2, vhi2) :: R))
    case first =>
      cases b2
      · have q7 : w2.cell? ⟨g, 7, none⟩ = some (.slice V wh.length vc) := HS.cell (List.mem_cons_of_mem _ (List.mem_cons_of_mem _ List.mem_cons_self)) 7 _ rfl
        go_wp2_with ((with_reducible refine gate_builtin (b := .append) (xs := #[.tmp 65, .tmp 66]) rfl ?_); at_builtin; refine Hold.appendI HS rfl (.tmp 65) (.tmp 66) 24 2 rfl Try.underlying24 svInfo (.slice V wh.length vc) wh 3 rfl rfl (List.mem_cons_of_mem _ (List.mem_cons_of_mem _ (List.mem_cons_of_mem _ (List.mem_cons_of_mem _ (List.mem_cons_of_mem _ List.mem_cons_self))))) (by have := HHWH.out; omega) ?_; intro V2 vc2 vlo2 vhi2 w3 HQ; clear q7; replace HS := HQ _ (.there (.there (.there (.there (.there .here))))); clear HQ; have q7 : w3.cell? ⟨g, 7, none⟩ = some (.slice V wh.length vc) := HS.cell (List.mem_cons_of_mem _ (List.mem_cons_of_mem _ List.mem_cons_self)) 7 _ rfl; have fzq : ∀ j, w3.frozen? ⟨g, j, none⟩ = false := HS.thaw (List.mem_cons_of_mem _ (List.mem_cons_of_mem _ List.mem_cons_self)))
        clear fzq q7
        replace HS := HS.setBox 7 (.slice V2 (wh.length + 1) vc2) (.there (.there .here))
        simp only [List.setIfInBounds_toArray, List.set_cons_zero, List.set_cons_succ] at HS
        go_meet
        exact ⟨_, _, _, _, HS⟩
      · have q7 : w2.cell? ⟨g, 7, none⟩ = some (.slice V wh.length vc) := HS.cell (List.mem_cons_of_mem _ (List.mem_cons_of_mem _ List.mem_cons_self)) 7 _ rfl
        go_wp2_with ((with_reducible refine gate_builtin (b := .append) (xs := #[.tmp 56, .tmp 57]) rfl ?_); at_builtin; refine Hold.appendI HS rfl (.tmp 56) (.tmp 57) 24 2 rfl Try.underlying24 svInfo (.slice V wh.length vc) wh 2 rfl rfl (List.mem_cons_of_mem _ (List.mem_cons_of_mem _ (List.mem_cons_of_mem _ (List.mem_cons_of_mem _ (List.mem_cons_of_mem _ List.mem_cons_self))))) (by have := HHWH.out; omega) ?_; intro V2 vc2 vlo2 vhi2 w3 HQ; clear q7; replace HS := HQ _ (.there (.there (.there (.there (.there .here))))); clear HQ; have q7 : w3.cell? ⟨g, 7, none⟩ = some (.slice V wh.length vc) := HS.cell (List.mem_cons_of_mem _ (List.mem_cons_of_mem _ List.mem_cons_self)) 7 _ rfl; have fzq : ∀ j, w3.frozen? ⟨g, j, none⟩ = false := HS.thaw (List.mem_cons_of_mem _ (List.mem_cons_of_mem _ List.mem_cons_self)))
        clear fzq q7
        replace HS := HS.setBox 7 (.slice V2 (wh.length + 1) vc2) (.there (.there .here))
        simp only [List.setIfInBounds_toArray, List.set_cons_zero, List.set_cons_succ] at HS
        go_meet
        exact ⟨_, _, _, _, HS⟩
    case rest =>
      obtain ⟨V2, vc2, vlo2, vhi2, HS⟩ := hcut
      obtain ⟨wb, rfl⟩ : ∃ x, x = wc := ⟨_, rfl⟩
      have m4 : wb.cell? ⟨g, 4, none⟩ = some (.int .i64 1) := HS.cell (List.mem_cons_of_mem _ (List.mem_cons_of_mem _ List.mem_cons_self)) 4 _ rfl
      go_wp2_with fail
      clear m4
      have HD := Hold.drew HS
      refine start_ (n := 16) (S := fun w' => w'.cell? ⟨q, 0, none⟩ = some (.slice A2 l2.length c2) ∧ w'.cell? ⟨q, 1, none⟩ = some (.slice A3 l3.length c3) ∧ w'.cell? ⟨g, 6, none⟩ = some (.slice S s.length sc)) (ds := [14]) #[false, false, false, false, false, false, false, false, false, false, false, false, false, false, false, false] (by kernel_rfl) rfl rfl ⟨(HD.cell (List.mem_cons_of_mem _ List.mem_cons_self) 0 _ rfl), (HD.cell (List.mem_cons_of_mem _ List.mem_cons_self) 1 _ rfl), (HD.cell (List.mem_cons_of_mem _ (List.mem_cons_of_mem _ List.mem_cons_self)) 6 _ rfl)⟩ (fun hHeld => ?_)
      generalize wb.drew = wd at HD hHeld ⊢
      refine pure_ (i := 0) (N := some 130) (v := ?_) (a' := ?_) #[true, false, false, false, false, false, false, false, false, false, false, false, false, false, false, false] rfl rfl (by kernel_rfl) (fun _ _ _ h => h) (Or.inl ⟨by rfl, ?_⟩) ?_ ?_
      rotate_left
      · intro w'
        go_simp
        with_reducible rfl
      rotate_left
      · simp only [Act.put, List.setIfInBounds_toArray, List.set_cons_zero, List.set_cons_succ, i64_w, i32_w]
        rfl
      refine pure_ (i := 2) (N := some 132) (v := ?_) (a' := ?_) #[true, false, true, false, false, false, false, false, false, false, false, false, false, false, false, false] rfl rfl (by kernel_rfl) (fun _ _ _ h => h) (Or.inl ⟨by rfl, ?_⟩) ?_ ?_
      rotate_left
      · intro w'
        go_simp
        with_reducible rfl
      rotate_left
      · simp only [Act.put, List.setIfInBounds_toArray, List.set_cons_zero, List.set_cons_succ, i64_w, i32_w]
        rfl
      refine pure_ (i := 3) (N := some 133) (v := ?_) (a' := ?_) #[true, false, true, true, false, false, false, false, false, false, false, false, false, false, false, false] rfl rfl (by kernel_rfl) (fun _ _ _ h => h) (Or.inl ⟨by rfl, ?_⟩) ?_ ?_
      rotate_left
      · intro w'
        go_simp
        with_reducible rfl
      rotate_left
      · simp only [Act.put, List.setIfInBounds_toArray, List.set_cons_zero, List.set_cons_succ, i64_w, i32_w]
        rfl
      refine pure_ (i := 4) (N := some 134) (v := ?_) (a' := ?_) #[true, false, true, true, true, false, false, false, false, false, false, false, false, false, false, false] rfl rfl (by kernel_rfl) (fun _ _ _ h => h) (Or.inl ⟨by rfl, ?_⟩) ?_ ?_
      rotate_left
      · intro w'
        go_simp
        with_reducible rfl
      rotate_left
      · simp only [Act.put, List.setIfInBounds_toArray, List.set_cons_zero, List.set_cons_succ, i64_w, i32_w]
        rfl
      refine pure_ (i := 6) (N := some 136) (v := ?_) (a' := ?_) #[true, false, true, true, true, false, true, false, false, false, false, false, false, false, false, false] rfl rfl (by kernel_rfl) (fun _ _ _ h => h) (Or.inl ⟨by rfl, ?_⟩) ?_ ?_
      rotate_left
      · intro w'
        go_simp
        with_reducible rfl
      rotate_left
      · simp only [Act.put, List.setIfInBounds_toArray, List.set_cons_zero, List.set_cons_succ, i64_w, i32_w]
        rfl
      refine take_ (i := 1) (N := some 131) (v := ?_) (a' := ?_) #[true, true, true, true, true, false, true, false, false, false, false, false, false, false, false, false] rfl rfl (by kernel_rfl) (fun _ _ _ h => h) (Or.inl ⟨by rfl, ?_⟩) hHeld ?_ ?_
      rotate_left
      · rintro w' ⟨s0, s1, s2⟩
        go_simp
        with_reducible rfl
      rotate_left
      · simp only [Act.put, List.setIfInBounds_toArray, List.set_cons_zero, List.set_cons_succ, i64_w, i32_w]
        rfl
      refine take_ (i := 5) (N := some 135) (v := ?_) (a' := ?_) #[true, true, true, true, true, true, true, false, false, false, false, false, false, false, false, false] rfl rfl (by kernel_rfl) (fun _ _ _ h => h) (Or.inl ⟨by rfl, ?_⟩) hHeld ?_ ?_
      rotate_left
      · rintro w' ⟨s0, s1, s2⟩
        go_simp
        with_reducible rfl
      rotate_left
      · simp only [Act.put, List.setIfInBounds_toArray, List.set_cons_zero, List.set_cons_succ, i64_w, i32_w]
        rfl
      refine one_ (i := 7) (N := some 137) #[true, true, true, true, true, true, true, true, false, false, false, false, false, false, false, false] rfl rfl (by kernel_rfl) (by decide) (fun K hK => ?_)
      refine goes_ Try.func83 (by kernel_rfl) rfl #[.agg #[.slice A2 l2.length c2, .slice A3 l3.length c3], .slice S s.length sc, .int .i64 a] (by rfl) rfl rfl (by simp only [List.map_toArray, List.map_cons, List.map_nil]; rfl) ?_
      with_reducible refine (impl_Policy_step.calls (Ev.num HE2.out) A2 c2 l2 A3 c3 l3 S sc s a _ _ _ _ (HR2.out.at HD (fun _ hx_ => (List.mem_cons_of_mem _ (List.mem_cons_of_mem _ (List.mem_cons_of_mem _ (List.mem_cons_of_mem _ (List.mem_cons_of_mem _ (List.mem_cons_of_mem _ hx_)))))))) HQ2.out (HR3.out.at HD (fun _ hx_ => (List.mem_cons_of_mem _ (List.mem_cons_of_mem _ (List.mem_cons_of_mem _ (List.mem_cons_of_mem _ (List.mem_cons_of_mem _ (List.mem_cons_of_mem _ hx_)))))))) HQ3.out (HD.reads' (List.mem_cons_of_mem _ (List.mem_cons_of_mem _ (List.mem_cons_of_mem _ (List.mem_cons_of_mem _ List.mem_cons_self))))).2.2 (HD.reads' (List.mem_cons_of_mem _ (List.mem_cons_of_mem _ (List.mem_cons_of_mem _ (List.mem_cons_of_mem _ List.mem_cons_self))))).2.1 (Ev.is HE2.out)).mono ?_
      rintro e w4 ⟨v_, rfl, hr, hb⟩
      refine ⟨_, rfl, ?_⟩
      obtain ⟨B3, bc3, rfl⟩ := Kd.R_slice hr
      replace HD := HD.made hb hr
      clear hb hr
      have s0_ : w4.cell? ⟨q, 0, none⟩ = some (.slice A2 l2.length c2) := HD.cell (List.mem_cons_of_mem _ (List.mem_cons_of_mem _ List.mem_cons_self)) 0 _ rfl
      have s1_ : w4.cell? ⟨q, 1, none⟩ = some (.slice A3 l3.length c3) := HD.cell (List.mem_cons_of_mem _ (List.mem_cons_of_mem _ List.mem_cons_self)) 1 _ rfl
      have s2_ : w4.cell? ⟨g, 6, none⟩ = some (.slice S s.length sc) := HD.cell (List.mem_cons_of_mem _ (List.mem_cons_of_mem _ (List.mem_cons_of_mem _ List.mem_cons_self))) 6 _ rfl
      have fz_ : ∀ j, w4.frozen? ⟨g, j, none⟩ = false := HD.thaw (List.mem_cons_of_mem _ (List.mem_cons_of_mem _ (List.mem_cons_of_mem _ List.mem_cons_self)))
      refine hK.out _ _ ⟨s0_, s1_, s2_⟩ (fun hHeld => ?_)
      clear hK K
      refine norm_ (a' := ?_) ?_ ?_
      rotate_left
      · show Act.put _ (some 137) _ = _
        simp only [Act.put, List.setIfInBounds_toArray, List.set_cons_zero, List.set_cons_succ, i64_w, i32_w]
        rfl
      refine pure_ (i := 8) (N := some 129) (v := ?_) (a' := ?_) #[true, true, true, true, true, true, true, true, true, false, false, false, false, false, false, false] rfl rfl (by kernel_rfl) (fun _ _ _ h => h) (Or.inl ⟨by rfl, ?_⟩) ?_ ?_
      rotate_left
      · intro w'
        go_simp
        with_reducible rfl
      rotate_left
      · simp only [Act.put, List.setIfInBounds_toArray, List.set_cons_zero, List.set_cons_succ, i64_w, i32_w]
        rfl
      refine pure_ (i := 9) (N := some 138) (v := ?_) (a' := ?_) #[true, true, true, true, true, true, true, true, true, true, false, false, false, false, false, false] rfl rfl (by kernel_rfl) (fun _ _ _ h => h) (Or.inl ⟨by rfl, ?_⟩) ?_ ?_
      rotate_left
      · intro w'
        go_simp
        with_reducible rfl
      rotate_left
      · simp only [Act.put, List.setIfInBounds_toArray, List.set_cons_zero, List.set_cons_succ, i64_w, i32_w]
        rfl
      refine pure_ (i := 10) (N := some 139) (v := ?_) (a' := ?_) #[true, true, true, true, true, true, true, true, true, true, true, false, false, false, false, false] rfl rfl (by kernel_rfl) (fun _ _ _ h => h) (Or.inl ⟨by rfl, ?_⟩) ?_ ?_
      rotate_left
      · intro w'
        go_simp
        with_reducible rfl
      rotate_left
      · simp only [Act.put, List.setIfInBounds_toArray, List.set_cons_zero, List.set_cons_succ, i64_w, i32_w]
        rfl
      refine pure_ (i := 11) (N := some 140) (v := ?_) (a' := ?_) #[true, true, true, true, true, true, true, true, true, true, true, true, false, false, false, false] rfl rfl (by kernel_rfl) (fun _ _ _ h => h) (Or.inl ⟨by rfl, ?_⟩) ?_ ?_
      rotate_left
      · intro w'
        go_simp
        with_reducible rfl
      rotate_left
      · simp only [Act.put, List.setIfInBounds_toArray, List.set_cons_zero, List.set_cons_succ, i64_w, i32_w]
        rfl
      refine pure_ (i := 12) (N := some 141) (v := ?_) (a' := ?_) #[true, true, true, true, true, true, true, true, true, true, true, true, true, false, false, false] rfl rfl (by kernel_rfl) (fun _ _ _ h => h) (Or.inl ⟨by rfl, ?_⟩) ?_ ?_
      rotate_left
      · intro w'
        go_simp
        with_reducible rfl
      rotate_left
      · simp only [Act.put, List.setIfInBounds_toArray, List.set_cons_zero, List.set_cons_succ, i64_w, i32_w]
        rfl
      refine pure_ (i := 13) (N := some 142) (v := ?_) (a' := ?_) #[true, true, true, true, true, true, true, true, true, true, true, true, true, true, false, false] rfl rfl (by kernel_rfl) (fun _ _ _ h => h) (Or.inl ⟨by rfl, ?_⟩) ?_ ?_
      rotate_left
      · intro w'
        go_simp
        with_reducible rfl
      rotate_left
      · simp only [Act.put, List.setIfInBounds_toArray, List.set_cons_zero, List.set_cons_succ, i64_w, i32_w]
        rfl
      refine last_ (i := 14) (N := none) #[true, true, true, true, true, true, true, true, true, true, true, true, true, true, true, false] rfl rfl (by kernel_rfl) (by decide) (fun K hK => ?_)
      refine skip_ (w1 := ?_) (by rfl) rfl ?_ ?_
      rotate_left
      · go_simp
        rfl
      refine hK.out _ _ ?_
      clear hK K
      refine pure_ (i := 15) (N := some 6) (v := ?_) (a' := ?_) #[true, true, true, true, true, true, true, true, true, true, true, true, true, true, true, true] rfl rfl (by kernel_rfl) (fun _ _ _ h => h) (Or.inl ⟨by rfl, ?_⟩) ?_ ?_
      rotate_left
      · intro w'
        go_simp
        with_reducible rfl
      rotate_left
      · simp only [Act.put, List.setIfInBounds_toArray, List.set_cons_zero, List.set_cons_succ, i64_w, i32_w]
        rfl
      refine done_ (by kernel_rfl) ?_
      clear hHeld s0_ s1_ s2_ fz_
      replace HS := HD
      clear HD
      replace HS := HS.setBox 6 (.slice B3 (x2).length bc3) (.there (.there (.there .here)))
      simp only [List.setIfInBounds_toArray, List.set_cons_zero, List.set_cons_succ] at HS
      generalize w4.setCell ⟨g, 6, none⟩ (.slice B3 (x2).length bc3) = w4b at HS ⊢
      replace HS := HS.pick (.there (.there (.there (.there (.there .here)))))
      replace HS := HS.tail
      have q5 : w4b.cell? ⟨g, 5, none⟩ = some (.slice (some ⟨bf_, 0, none⟩) f.length fc) := HS.cell (List.mem_cons_of_mem _ (List.mem_cons_of_mem _ (List.mem_cons_of_mem _ List.mem_cons_self))) 5 _ rfl
      go_wp2_with fail
      refine (own_takeOut (l' := f') HS HHT.out (.there (.there (.there (.there .here)))) HP2.out (by have := HL2.out; omega)).mono ?_
      clear q5
      clear HS
      rintro e w5 ⟨rfl, HS⟩
      rw [← HL1.out] at HS
      go_wp2_with fail
      have HD := Hold.drew HS
      refine start_ (n := 15) (S := fun w' => w'.cell? ⟨p, 0, none⟩ = some (.slice A0 l0.length c0) ∧ w'.cell? ⟨p, 1, none⟩ = some (.slice A1 l1.length c1) ∧ w'.cell? ⟨g, 5, none⟩ = some (.slice (some ⟨bf_, 0, none⟩) f'.length fc)) (ds := [14]) #[false, false, false, false, false, false, false, false, false, false, false, false, false, false, false] (by kernel_rfl) rfl rfl ⟨(HD.cell (List.mem_cons_of_mem _ List.mem_cons_self) 0 _ rfl), (HD.cell (List.mem_cons_of_mem _ List.mem_cons_self) 1 _ rfl), (HD.cell (List.mem_cons_of_mem _ (List.mem_cons_of_mem _ (List.mem_cons_of_mem _ List.mem_cons_self))) 5 _ rfl)⟩ (fun hHeld => ?_)
      generalize w5.drew = wd at HD hHeld ⊢
      refine pure_ (i := 0) (N := some 157) (v := ?_) (a' := ?_) #[true, false, false, false, false, false, false, false, false, false, false, false, false, false, false] rfl rfl (by kernel_rfl) (fun _ _ _ h => h) (Or.inl ⟨by rfl, ?_⟩) ?_ ?_
      rotate_left
      · intro w'
        go_simp
        with_reducible rfl
      rotate_left
      · simp only [Act.put, List.setIfInBounds_toArray, List.set_cons_zero, List.set_cons_succ, i64_w, i32_w]
        rfl
      refine pure_ (i := 2) (N := some 159) (v := ?_) (a' := ?_) #[true, false, true, false, false, false, false, false, false, false, false, false, false, false, false] rfl rfl (by kernel_rfl) (fun _ _ _ h => h) (Or.inl ⟨by rfl, ?_⟩) ?_ ?_
      rotate_left
      · intro w'
        go_simp
        with_reducible rfl
      rotate_left
      · simp only [Act.put, List.setIfInBounds_toArray, List.set_cons_zero, List.set_cons_succ, i64_w, i32_w]
        rfl
      refine pure_ (i := 3) (N := some 160) (v := ?_) (a' := ?_) #[true, false, true, true, false, false, false, false, false, false, false, false, false, false, false] rfl rfl (by kernel_rfl) (fun _ _ _ h => h) (Or.inl ⟨by rfl, ?_⟩) ?_ ?_
      rotate_left
      · intro w'
        go_simp
        with_reducible rfl
      rotate_left
      · simp only [Act.put, List.setIfInBounds_toArray, List.set_cons_zero, List.set_cons_succ, i64_w, i32_w]
        rfl
      refine pure_ (i := 4) (N := some 161) (v := ?_) (a' := ?_) #[true, false, true, true, true, false, false, false, false, false, false, false, false, false, false] rfl rfl (by kernel_rfl) (fun _ _ _ h => h) (Or.inl ⟨by rfl, ?_⟩) ?_ ?_
      rotate_left
      · intro w'
        go_simp
        with_reducible rfl
      rotate_left
      · simp only [Act.put, List.setIfInBounds_toArray, List.set_cons_zero, List.set_cons_succ, i64_w, i32_w]
        rfl
      refine pure_ (i := 6) (N := some 163) (v := ?_) (a' := ?_) #[true, false, true, true, true, false, true, false, false, false, false, false, false, false, false] rfl rfl (by kernel_rfl) (fun _ _ _ h => h) (Or.inl ⟨by rfl, ?_⟩) ?_ ?_
      rotate_left
      · intro w'
        go_simp
        with_reducible rfl
      rotate_left
      · simp only [Act.put, List.setIfInBounds_toArray, List.set_cons_zero, List.set_cons_succ, i64_w, i32_w]
        rfl
      refine take_ (i := 1) (N := some 158) (v := ?_) (a' := ?_) #[true, true, true, true, true, false, true, false, false, false, false, false, false, false, false] rfl rfl (by kernel_rfl) (fun _ _ _ h => h) (Or.inl ⟨by rfl, ?_⟩) hHeld ?_ ?_
      rotate_left
      · rintro w' ⟨s0, s1, s2⟩
        go_simp
        with_reducible rfl
      rotate_left
      · simp only [Act.put, List.setIfInBounds_toArray, List.set_cons_zero, List.set_cons_succ, i64_w, i32_w]
        rfl
      refine take_ (i := 5) (N := some 162) (v := ?_) (a' := ?_) #[true, true, true, true, true, true, true, false, false, false, false, false, false, false, false] rfl rfl (by kernel_rfl) (fun _ _ _ h => h) (Or.inl ⟨by rfl, ?_⟩) hHeld ?_ ?_
      rotate_left
      · rintro w' ⟨s0, s1, s2⟩
        go_simp
        with_reducible rfl
      rotate_left
      · simp only [Act.put, List.setIfInBounds_toArray, List.set_cons_zero, List.set_cons_succ, i64_w, i32_w]
        rfl
      refine one_ (i := 7) (N := some 164) #[true, true, true, true, true, true, true, true, false, false, false, false, false, false, false] rfl rfl (by kernel_rfl) (by decide) (fun K hK => ?_)
      refine goes_ Try.func83 (by kernel_rfl) rfl #[.agg #[.slice A0 l0.length c0, .slice A1 l1.length c1], .slice (some ⟨bf_, 0, none⟩) f'.length fc, .int .i64 a] (by rfl) rfl rfl (by simp only [List.map_toArray, List.map_cons, List.map_nil]; rfl) ?_
      with_reducible refine (impl_Policy_step.calls (Ev.num HE1.out) A0 c0 l0 A1 c1 l1 (some ⟨bf_, 0, none⟩) fc (f') a _ _ _ _ (HR0.out.at HD (fun _ hx_ => (List.mem_cons_of_mem _ (List.mem_cons_of_mem _ (List.mem_cons_of_mem _ (List.mem_cons_of_mem _ (List.mem_cons_of_mem _ (List.mem_cons_of_mem _ hx_)))))))) HQ0.out (HR1.out.at HD (fun _ hx_ => (List.mem_cons_of_mem _ (List.mem_cons_of_mem _ (List.mem_cons_of_mem _ (List.mem_cons_of_mem _ (List.mem_cons_of_mem _ (List.mem_cons_of_mem _ hx_)))))))) HQ1.out (HD.reads' (List.mem_cons_of_mem _ (List.mem_cons_of_mem _ (List.mem_cons_of_mem _ (List.mem_cons_of_mem _ List.mem_cons_self))))).2.2 (HD.reads' (List.mem_cons_of_mem _ (List.mem_cons_of_mem _ (List.mem_cons_of_mem _ (List.mem_cons_of_mem _ List.mem_cons_self))))).2.1 (Ev.is HE1.out)).mono ?_
      rintro e w7 ⟨v_, rfl, hr, hb⟩
      refine ⟨_, rfl, ?_⟩
      obtain ⟨B4, bc4, rfl⟩ := Kd.R_slice hr
      replace HD := HD.made hb hr
      clear hb hr
      have s0_ : w7.cell? ⟨p, 0, none⟩ = some (.slice A0 l0.length c0) := HD.cell (List.mem_cons_of_mem _ (List.mem_cons_of_mem _ List.mem_cons_self)) 0 _ rfl
      have s1_ : w7.cell? ⟨p, 1, none⟩ = some (.slice A1 l1.length c1) := HD.cell (List.mem_cons_of_mem _ (List.mem_cons_of_mem _ List.mem_cons_self)) 1 _ rfl
      have s2_ : w7.cell? ⟨g, 5, none⟩ = some (.slice (some ⟨bf_, 0, none⟩) f'.length fc) := HD.cell (List.mem_cons_of_mem _ (List.mem_cons_of_mem _ (List.mem_cons_of_mem _ (List.mem_cons_of_mem _ List.mem_cons_self)))) 5 _ rfl
      have fz_ : ∀ j, w7.frozen? ⟨g, j, none⟩ = false := HD.thaw (List.mem_cons_of_mem _ (List.mem_cons_of_mem _ (List.mem_cons_of_mem _ (List.mem_cons_of_mem _ List.mem_cons_self))))
      refine hK.out _ _ ⟨s0_, s1_, s2_⟩ (fun hHeld => ?_)
      clear hK K
      refine norm_ (a' := ?_) ?_ ?_
      rotate_left
      · show Act.put _ (some 164) _ = _
        simp only [Act.put, List.setIfInBounds_toArray, List.set_cons_zero, List.set_cons_succ, i64_w, i32_w]
        rfl
      refine pure_ (i := 8) (N := some 156) (v := ?_) (a' := ?_) #[true, true, true, true, true, true, true, true, true, false, false, false, false, false, false] rfl rfl (by kernel_rfl) (fun _ _ _ h => h) (Or.inl ⟨by rfl, ?_⟩) ?_ ?_
      rotate_left
      · intro w'
        go_simp
        with_reducible rfl
      rotate_left
      · simp only [Act.put, List.setIfInBounds_toArray, List.set_cons_zero, List.set_cons_succ, i64_w, i32_w]
        rfl
      refine pure_ (i := 9) (N := some 165) (v := ?_) (a' := ?_) #[true, true, true, true, true, true, true, true, true, true, false, false, false, false, false] rfl rfl (by kernel_rfl) (fun _ _ _ h => h) (Or.inl ⟨by rfl, ?_⟩) ?_ ?_
      rotate_left
      · intro w'
        go_simp
        with_reducible rfl
      rotate_left
      · simp only [Act.put, List.setIfInBounds_toArray, List.set_cons_zero, List.set_cons_succ, i64_w, i32_w]
        rfl
      refine pure_ (i := 10) (N := some 166) (v := ?_) (a' := ?_) #[true, true, true, true, true, true, true, true, true, true, true, false, false, false, false] rfl rfl (by kernel_rfl) (fun _ _ _ h => h) (Or.inl ⟨by rfl, ?_⟩) ?_ ?_
      rotate_left
      · intro w'
        go_simp
        with_reducible rfl
      rotate_left
      · simp only [Act.put, List.setIfInBounds_toArray, List.set_cons_zero, List.set_cons_succ, i64_w, i32_w]
        rfl
      refine pure_ (i := 11) (N := some 167) (v := ?_) (a' := ?_) #[true, true, true, true, true, true, true, true, true, true, true, true, false, false, false] rfl rfl (by kernel_rfl) (fun _ _ _ h => h) (Or.inl ⟨by rfl, ?_⟩) ?_ ?_
      rotate_left
      · intro w'
        go_simp
        with_reducible rfl
      rotate_left
      · simp only [Act.put, List.setIfInBounds_toArray, List.set_cons_zero, List.set_cons_succ, i64_w, i32_w]
        rfl
      refine pure_ (i := 12) (N := some 168) (v := ?_) (a' := ?_) #[true, true, true, true, true, true, true, true, true, true, true, true, true, false, false] rfl rfl (by kernel_rfl) (fun _ _ _ h => h) (Or.inl ⟨by rfl, ?_⟩) ?_ ?_
      rotate_left
      · intro w'
        go_simp
        with_reducible rfl
      rotate_left
      · simp only [Act.put, List.setIfInBounds_toArray, List.set_cons_zero, List.set_cons_succ, i64_w, i32_w]
        rfl
      refine pure_ (i := 13) (N := some 169) (v := ?_) (a' := ?_) #[true, true, true, true, true, true, true, true, true, true, true, true, true, true, false] rfl rfl (by kernel_rfl) (fun _ _ _ h => h) (Or.inl ⟨by rfl, ?_⟩) ?_ ?_
      rotate_left
      · intro w'
        go_simp
        with_reducible rfl
      rotate_left
      · simp only [Act.put, List.setIfInBounds_toArray, List.set_cons_zero, List.set_cons_succ, i64_w, i32_w]
        rfl
      refine last_ (i := 14) (N := none) #[true, true, true, true, true, true, true, true, true, true, true, true, true, true, true] rfl rfl (by kernel_rfl) (by decide) (fun K hK => ?_)
      refine skip_ (w1 := ?_) (by rfl) rfl ?_ ?_
      rotate_left
      · go_simp
        rfl
      refine hK.out _ _ ?_
      clear hK K
      refine done_ (by kernel_rfl) ?_
      clear hHeld s0_ s1_ s2_ fz_
      replace HS := HD
      clear HD
      replace HS := HS.setBox 5 (.slice B4 (x1).length bc4) (.there (.there (.there (.there .here))))
      simp only [List.setIfInBounds_toArray, List.set_cons_zero, List.set_cons_succ] at HS
      generalize w7.setCell ⟨g, 5, none⟩ (.slice B4 (x1).length bc4) = w7b at HS ⊢
      replace HS := HS.pick (.there (.there (.there (.there (.there .here)))))
      replace HS := HS.tail
      go_wp2_with fail
      (try simp only [Exit.inBlock, Exit.then]); first | refine bodyPost_ret (results_none rfl _ _ _) rfl ?_ | refine bodyPost_end (results_none rfl _ _ _) rfl ?_
      replace HS := HS.pick (.there (.there .here))
      replace HS := HS.tail
      replace HS := HS.pick (.there (.there .here))
      replace HS := HS.tail
      replace HS := HS.pick (.there (.there (.there .here)))
      replace HS := HS.pick (.there (.there .here))
      replace HS := HS.pick (.there (.there .here))
      replace HS := HS.pick (.there (.there (.there .here)))
      exact ⟨rfl, _, _, _, _, _, _, _, _, _, _, _, _, HS⟩
set_option maxHeartbeats 4000000 in
set_option maxRecDepth 100000 in
theorem use_1t {w0 w : World} {R : List (Thing × Nat × Nat)} {A0 : Option Addr} {c0 : Nat} {l0 : List (List Int)} {A1 : Option Addr} {c1 : Nat} {l1 : List Int} {A2 : Option Addr} {c2 : Nat} {l2 : List (List Int)} {A3 : Option Addr} {c3 : Nat} {l3 : List Int} {g g1 fc flo fhi sc slo shi vc vlo vhi : Nat} {F S V : Option Addr} {bk a : Int} {f s wh : List Int}
    (h : Hold w0 w ((boxT #[.slice A0 l0.length c0, .slice A1 l1.length c1, .slice A2 l2.length c2, .slice A3 l3.length c3, .int .i64 1, .slice F f.length fc, .slice S s.length sc, .slice V wh.length vc, .int .i64 bk] 111, g, g1) :: (flat (Kd.int .i64) 2 (.slice F f.length fc) f, flo, fhi) :: (flat (Kd.int .i64) 2 (.slice S s.length sc) s, slo, shi) :: (flat (Kd.int .i64) 2 (.slice V wh.length vc) wh, vlo, vhi) :: R))
    (r0 : Rd w0 R (Kd.slice 2 (Kd.int .i64)) A0 l0) (r1 : Rd w0 R (Kd.int .i64) A1 l1) (r2 : Rd w0 R (Kd.slice 2 (Kd.int .i64)) A2 l2) (r3 : Rd w0 R (Kd.int .i64) A3 l3) (q0 : l0.length ≤ c0) (q1 : l1.length ≤ c1) (q2 : l2.length ≤ c2) (q3 : l3.length ≤ c3) (hwh : wh.length ≤ 1000)
    (hc1 : Ev (fun k => slices_Contains_int64_int64.f k f a) false) {b2 : Bool} (hc2 : Ev (fun k => slices_Contains_int64_int64.f k s a) b2) {x2 : List Int} {o2 : Int} {b3 : Bool} (e2 : Ev (fun k => impl_Policy_step.f k l2 l3 s a) (x2, o2, b3)) {f' : List Int} (ht : takeV f o2 = (f', true)) (hp : 0 < f.length) (hl : f'.length = f.length ∧ f.length ≤ 6) {x1 : List Int} {o1 : Int} {b1 : Bool} (e1 : Ev (fun k => impl_Policy_step.f k l0 l1 f' a) (x1, o1, b1)) (hk0 : 0 ≤ bk) (hk1 : bk ≤ 1000) :
    Calls Try.prog 104 #[.pointer (some ⟨g, 0, none⟩), .int .i64 a] w fun e w' => e = .returned (.tuple #[]) ∧ ∃ F' fc' flo' fhi' S' sc' slo' shi' V' vc' vlo' vhi', Hold w0 w' ((boxT #[.slice A0 l0.length c0, .slice A1 l1.length c1, .slice A2 l2.length c2, .slice A3 l3.length c3, .int .i64 1, .slice F' (x1).length fc', .slice S' (x2).length sc', .slice V' (wh.length + 1) vc', .int .i64 (bk + 1)] 111, g, g1) :: (flat (Kd.int .i64) 2 (.slice F' (x1).length fc') x1, flo', fhi') :: (flat (Kd.int .i64) 2 (.slice S' (x2).length sc') x2, slo', shi') :: (flat (Kd.int .i64) 2 (.slice V' (wh.length + 1) vc') (wh ++ [whV b2]), vlo', vhi') :: R) := by
  have HP2 := Aside0.mk hp
  have HL1 := Aside0.mk hl.1
  have HL2 := Aside0.mk hl.2
  have HS := h
  obtain ⟨bf_, c_, hv_, _, _⟩ := HS.row_form (List.mem_cons_of_mem _ List.mem_cons_self) hp
  injection hv_ with hv_ _ he_
  subst hv_
  subst he_
  clear hp hl
  have HR0 := Aside0.mk r0
  have HR1 := Aside0.mk r1
  have HR2 := Aside0.mk r2
  have HR3 := Aside0.mk r3
  have HQ0 := Aside0.mk q0
  have HQ1 := Aside0.mk q1
  have HQ2 := Aside0.mk q2
  have HQ3 := Aside0.mk q3
  have HHWH := Aside0.mk hwh
  have HHC1 := Aside0.mk hc1
  have HHC2 := Aside0.mk hc2
  have HE1 := Aside0.mk e1
  have HE2 := Aside0.mk e2
  have HHT := Aside0.mk ht
  have hgt : w0.heap.size ≤ g ∧ g < w.heap.size := by obtain ⟨⟨_, e_⟩, h1_, _, h3_⟩ := HS.get List.mem_cons_self; omega
  have hg : g < w.heap.size := hgt.2
  clear h hgt r0 r1 r2 r3 q0 q1 q2 q3 hwh hc1 hc2 e1 e2 ht
  have xa0 : w.cell? ⟨g, 0, none⟩ = some (.slice A0 l0.length c0) := HS.cell List.mem_cons_self 0 _ rfl
  have xa1 : w.cell? ⟨g, 1, none⟩ = some (.slice A1 l1.length c1) := HS.cell List.mem_cons_self 1 _ rfl
  have xa2 : w.cell? ⟨g, 2, none⟩ = some (.slice A2 l2.length c2) := HS.cell List.mem_cons_self 2 _ rfl
  have xa3 : w.cell? ⟨g, 3, none⟩ = some (.slice A3 l3.length c3) := HS.cell List.mem_cons_self 3 _ rfl
  have ya0 : (w.alloc (.cells #[.slice none 0 0, .slice none 0 0] 29)).cell? ⟨g, 0, none⟩ = some (.slice A0 l0.length c0) := (HS.alloc _).cell List.mem_cons_self 0 _ rfl
  have ya1 : (w.alloc (.cells #[.slice none 0 0, .slice none 0 0] 29)).cell? ⟨g, 1, none⟩ = some (.slice A1 l1.length c1) := (HS.alloc _).cell List.mem_cons_self 1 _ rfl
  have ya2 : (w.alloc (.cells #[.slice none 0 0, .slice none 0 0] 29)).cell? ⟨g, 2, none⟩ = some (.slice A2 l2.length c2) := (HS.alloc _).cell List.mem_cons_self 2 _ rfl
  have ya3 : (w.alloc (.cells #[.slice none 0 0, .slice none 0 0] 29)).cell? ⟨g, 3, none⟩ = some (.slice A3 l3.length c3) := (HS.alloc _).cell List.mem_cons_self 3 _ rfl
  have za0 : ((w.alloc (.cells #[.slice none 0 0, .slice none 0 0] 29)).alloc (.cells #[.slice none 0 0, .slice none 0 0] 29)).cell? ⟨g, 0, none⟩ = some (.slice A0 l0.length c0) := ((HS.alloc _).alloc _).cell List.mem_cons_self 0 _ rfl
  have za1 : ((w.alloc (.cells #[.slice none 0 0, .slice none 0 0] 29)).alloc (.cells #[.slice none 0 0, .slice none 0 0] 29)).cell? ⟨g, 1, none⟩ = some (.slice A1 l1.length c1) := ((HS.alloc _).alloc _).cell List.mem_cons_self 1 _ rfl
  have za2 : ((w.alloc (.cells #[.slice none 0 0, .slice none 0 0] 29)).alloc (.cells #[.slice none 0 0, .slice none 0 0] 29)).cell? ⟨g, 2, none⟩ = some (.slice A2 l2.length c2) := ((HS.alloc _).alloc _).cell List.mem_cons_self 2 _ rfl
  have za3 : ((w.alloc (.cells #[.slice none 0 0, .slice none 0 0] 29)).alloc (.cells #[.slice none 0 0, .slice none 0 0] 29)).cell? ⟨g, 3, none⟩ = some (.slice A3 l3.length c3) := ((HS.alloc _).alloc _).cell List.mem_cons_self 3 _ rfl
  have n1 : ¬ g = w.heap.size := by omega
  have n2 : ¬ g = w.heap.size + 1 := by omega
  have n3 : ¬ w.heap.size = g := by omega
  have n4 : ¬ w.heap.size + 1 = g := by omega
  go_enter Try.func104, Try.ntmps104
  go_upto_region 0 with fail
  go_cut [4, 5] (fun v4 v5 wc => ∃ p q, v4 = .pointer (some ⟨p, 0, none⟩) ∧ v5 = .pointer (some ⟨q, 0, none⟩) ∧ Hold w0 wc ((boxT #[.slice A0 l0.length c0, .slice A1 l1.length c1] 29, p, p + 1) :: (boxT #[.slice A2 l2.length c2, .slice A3 l3.length c3] 29, q, q + 1) :: (boxT #[.slice A0 l0.length c0, .slice A1 l1.length c1, .slice A2 l2.length c2, .slice A3 l3.length c3, .int .i64 1, .slice (some ⟨bf_, 0, none⟩) f.length fc, .slice S s.length sc, .slice V wh.length vc, .int .i64 bk] 111, g, g1) :: (flat (Kd.int .i64) 2 (.slice (some ⟨bf_, 0, none⟩) f.length fc) f, flo, fhi) :: (flat (Kd.int .i64) 2 (.slice S s.length sc) s, slo, shi) :: (flat (Kd.int .i64) 2 (.slice V wh.length vc) wh, vlo, vhi) :: R))
  case first =>
    go_region
    · go_wp2_with fail
      go_meet
      have HZ := ((HS.box #[.slice A0 l0.length c0, .slice A1 l1.length c1] 29).box #[.slice A2 l2.length c2, .slice A3 l3.length c3] 29).drew
      simp only [World.size_alloc] at HZ
      exact ⟨_, _, rfl, rfl, HZ.pick (.there .here)⟩
    · go_wp2_with fail
      go_meet
      have HZ := ((HS.box #[.slice A2 l2.length c2, .slice A3 l3.length c3] 29).box #[.slice A0 l0.length c0, .slice A1 l1.length c1] 29).drew
      simp only [World.size_alloc] at HZ
      exact ⟨_, _, rfl, rfl, HZ⟩
  case rest =>
    clear HS xa0 xa1 xa2 xa3 ya0 ya1 ya2 ya3 za0 za1 za2 za3 n1 n2 n3 n4 hg
    obtain ⟨p, q, rfl, rfl, HS⟩ := hcut
    obtain ⟨wa, rfl⟩ : ∃ x, x = wc := ⟨_, rfl⟩
    have q5 : wa.cell? ⟨g, 5, none⟩ = some (.slice (some ⟨bf_, 0, none⟩) f.length fc) := HS.cell (List.mem_cons_of_mem _ (List.mem_cons_of_mem _ List.mem_cons_self)) 5 _ rfl
    go_wp2_with fail
    refine (slices_Contains_int64_int64.calls (Ev.num HHC1.out) (some ⟨bf_, 0, none⟩) fc f a _ _ (HS.reads' (List.mem_cons_of_mem _ (List.mem_cons_of_mem _ (List.mem_cons_of_mem _ List.mem_cons_self)))).2.2 (HS.reads' (List.mem_cons_of_mem _ (List.mem_cons_of_mem _ (List.mem_cons_of_mem _ List.mem_cons_self)))).2.1 (Ev.is HHC1.out)).mono ?_
    rintro e w1 ⟨rfl, hb⟩
    clear q5
    replace HS := HS.step (by first | exact hb | exact hb.below)
    clear hb
    have q6 : w1.cell? ⟨g, 6, none⟩ = some (.slice S s.length sc) := HS.cell (List.mem_cons_of_mem _ (List.mem_cons_of_mem _ List.mem_cons_self)) 6 _ rfl
    go_wp2_with fail
    refine (slices_Contains_int64_int64.calls (Ev.num HHC2.out) S sc s a _ _ (HS.reads' (List.mem_cons_of_mem _ (List.mem_cons_of_mem _ (List.mem_cons_of_mem _ (List.mem_cons_of_mem _ List.mem_cons_self))))).2.2 (HS.reads' (List.mem_cons_of_mem _ (List.mem_cons_of_mem _ (List.mem_cons_of_mem _ (List.mem_cons_of_mem _ List.mem_cons_self))))).2.1 (Ev.is HHC2.out)).mono ?_
    rintro e w2 ⟨rfl, hb⟩
    clear q6
    replace HS := HS.step (by first | exact hb | exact hb.below)
    clear hb
    go_upto_if 51 with fail
    go_cut [] (fun wc => ∃ V2 vc2 vlo2 vhi2, Hold w0 wc ((boxT #[.slice A0 l0.length c0, .slice A1 l1.length c1] 29, p, p + 1) :: (boxT #[.slice A2 l2.length c2, .slice A3 l3.length c3] 29, q, q + 1) :: (boxT #[.slice A0 l0.length c0, .slice A1 l1.length c1, .slice A2 l2.length c2, .slice A3 l3.length c3, .int .i64 1, .slice (some ⟨bf_, 0, none⟩) f.length fc, .slice S s.length sc, .slice V2 (wh.length + 1) vc2, .int .i64 bk] 111, g, g1) :: (flat (Kd.int .i64) 2 (.slice (some ⟨bf_, 0, none⟩) f.length fc) f, flo, fhi) :: (flat (Kd.int .i64) 2 (.slice S s.length sc) s, slo, shi) :: (flat (Kd.int .i64) 2 (.slice V2 (wh.length + 1) vc2) ((wh ++ [(whV b2)])), vlo2, vhi2) :: R))
    case first =>
      cases b2
      · have q7 : w2.cell? ⟨g, 7, none⟩ = some (.slice V wh.length vc) := HS.cell (List.mem_cons_of_mem _ (List.mem_cons_of_mem _ List.mem_cons_self)) 7 _ rfl
        go_wp2_with ((with_reducible refine gate_builtin (b := .append) (xs := #[.tmp 65, .tmp 66]) rfl ?_); at_builtin; refine Hold.appendI HS rfl (.tmp 65) (.tmp 66) 24 2 rfl Try.underlying24 svInfo (.slice V wh.length vc) wh 3 rfl rfl (List.mem_cons_of_mem _ (List.mem_cons_of_mem _ (List.mem_cons_of_mem _ (List.mem_cons_of_mem _ (List.mem_cons_of_mem _ List.mem_cons_self))))) (by have := HHWH.out; omega) ?_; intro V2 vc2 vlo2 vhi2 w3 HQ; clear q7; replace HS := HQ _ (.there (.there (.there (.there (.there .here))))); clear HQ; have q7 : w3.cell? ⟨g, 7, none⟩ = some (.slice V wh.length vc) := HS.cell (List.mem_cons_of_mem _ (List.mem_cons_of_mem _ List.mem_cons_self)) 7 _ rfl; have fzq : ∀ j, w3.frozen? ⟨g, j, none⟩ = false := HS.thaw (List.mem_cons_of_mem _ (List.mem_cons_of_mem _ List.mem_cons_self)))
        clear fzq q7
        replace HS := HS.setBox 7 (.slice V2 (wh.length + 1) vc2) (.there (.there .here))
        simp only [List.setIfInBounds_toArray, List.set_cons_zero, List.set_cons_succ] at HS
        go_meet
        exact ⟨_, _, _, _, HS⟩
      · have q7 : w2.cell? ⟨g, 7, none⟩ = some (.slice V wh.length vc) := HS.cell (List.mem_cons_of_mem _ (List.mem_cons_of_mem _ List.mem_cons_self)) 7 _ rfl
        go_wp2_with ((with_reducible refine gate_builtin (b := .append) (xs := #[.tmp 56, .tmp 57]) rfl ?_); at_builtin; refine Hold.appendI HS rfl (.tmp 56) (.tmp 57) 24 2 rfl Try.underlying24 svInfo (.slice V wh.length vc) wh 2 rfl rfl (List.mem_cons_of_mem _ (List.mem_cons_of_mem _ (List.mem_cons_of_mem _ (List.mem_cons_of_mem _ (List.mem_cons_of_mem _ List.mem_cons_self))))) (by have := HHWH.out; omega) ?_; intro V2 vc2 vlo2 vhi2 w3 HQ; clear q7; replace HS := HQ _ (.there (.there (.there (.there (.there .here))))); clear HQ; have q7 : w3.cell? ⟨g, 7, none⟩ = some (.slice V wh.length vc) := HS.cell (List.mem_cons_of_mem _ (List.mem_cons_of_mem _ List.mem_cons_self)) 7 _ rfl; have fzq : ∀ j, w3.frozen? ⟨g, j, none⟩ = false := HS.thaw (List.mem_cons_of_mem _ (List.mem_cons_of_mem _ List.mem_cons_self)))
        clear fzq q7
        replace HS := HS.setBox 7 (.slice V2 (wh.length + 1) vc2) (.there (.there .here))
        simp only [List.setIfInBounds_toArray, List.set_cons_zero, List.set_cons_succ] at HS
        go_meet
        exact ⟨_, _, _, _, HS⟩
    case rest =>
      obtain ⟨V2, vc2, vlo2, vhi2, HS⟩ := hcut
      obtain ⟨wb, rfl⟩ : ∃ x, x = wc := ⟨_, rfl⟩
      have m4 : wb.cell? ⟨g, 4, none⟩ = some (.int .i64 1) := HS.cell (List.mem_cons_of_mem _ (List.mem_cons_of_mem _ List.mem_cons_self)) 4 _ rfl
      go_wp2_with fail
      clear m4
      have HD := Hold.drew HS
      refine start_ (n := 16) (S := fun w' => w'.cell? ⟨q, 0, none⟩ = some (.slice A2 l2.length c2) ∧ w'.cell? ⟨q, 1, none⟩ = some (.slice A3 l3.length c3) ∧ w'.cell? ⟨g, 6, none⟩ = some (.slice S s.length sc)) (ds := [14]) #[false, false, false, false, false, false, false, false, false, false, false, false, false, false, false, false] (by kernel_rfl) rfl rfl ⟨(HD.cell (List.mem_cons_of_mem _ List.mem_cons_self) 0 _ rfl), (HD.cell (List.mem_cons_of_mem _ List.mem_cons_self) 1 _ rfl), (HD.cell (List.mem_cons_of_mem _ (List.mem_cons_of_mem _ List.mem_cons_self)) 6 _ rfl)⟩ (fun hHeld => ?_)
      generalize wb.drew = wd at HD hHeld ⊢
      refine pure_ (i := 0) (N := some 130) (v := ?_) (a' := ?_) #[true, false, false, false, false, false, false, false, false, false, false, false, false, false, false, false] rfl rfl (by kernel_rfl) (fun _ _ _ h => h) (Or.inl ⟨by rfl, ?_⟩) ?_ ?_
      rotate_left
      · intro w'
        go_simp
        with_reducible rfl
      rotate_left
      · simp only [Act.put, List.setIfInBounds_toArray, List.set_cons_zero, List.set_cons_succ, i64_w, i32_w]
        rfl
      refine pure_ (i := 2) (N := some 132) (v := ?_) (a' := ?_) #[true, false, true, false, false, false, false, false, false, false, false, false, false, false, false, false] rfl rfl (by kernel_rfl) (fun _ _ _ h => h) (Or.inl ⟨by rfl, ?_⟩) ?_ ?_
      rotate_left
      · intro w'
        go_simp
        with_reducible rfl
      rotate_left
      · simp only [Act.put, List.setIfInBounds_toArray, List.set_cons_zero, List.set_cons_succ, i64_w, i32_w]
        rfl
      refine pure_ (i := 3) (N := some 133) (v := ?_) (a' := ?_) #[true, false, true, true, false, false, false, false, false, false, false, false, false, false, false, false] rfl rfl (by kernel_rfl) (fun _ _ _ h => h) (Or.inl ⟨by rfl, ?_⟩) ?_ ?_
      rotate_left
      · intro w'
        go_simp
        with_reducible rfl
      rotate_left
      · simp only [Act.put, List.setIfInBounds_toArray, List.set_cons_zero, List.set_cons_succ, i64_w, i32_w]
        rfl
      refine pure_ (i := 4) (N := some 134) (v := ?_) (a' := ?_) #[true, false, true, true, true, false, false, false, false, false, false, false, false, false, false, false] rfl rfl (by kernel_rfl) (fun _ _ _ h => h) (Or.inl ⟨by rfl, ?_⟩) ?_ ?_
      rotate_left
      · intro w'
        go_simp
        with_reducible rfl
      rotate_left
      · simp only [Act.put, List.setIfInBounds_toArray, List.set_cons_zero, List.set_cons_succ, i64_w, i32_w]
        rfl
      refine pure_ (i := 6) (N := some 136) (v := ?_) (a' := ?_) #[true, false, true, true, true, false, true, false, false, false, false, false, false, false, false, false] rfl rfl (by kernel_rfl) (fun _ _ _ h => h) (Or.inl ⟨by rfl, ?_⟩) ?_ ?_
      rotate_left
      · intro w'
        go_simp
        with_reducible rfl
      rotate_left
      · simp only [Act.put, List.setIfInBounds_toArray, List.set_cons_zero, List.set_cons_succ, i64_w, i32_w]
        rfl
      refine take_ (i := 1) (N := some 131) (v := ?_) (a' := ?_) #[true, true, true, true, true, false, true, false, false, false, false, false, false, false, false, false] rfl rfl (by kernel_rfl) (fun _ _ _ h => h) (Or.inl ⟨by rfl, ?_⟩) hHeld ?_ ?_
      rotate_left
      · rintro w' ⟨s0, s1, s2⟩
        go_simp
        with_reducible rfl
      rotate_left
      · simp only [Act.put, List.setIfInBounds_toArray, List.set_cons_zero, List.set_cons_succ, i64_w, i32_w]
        rfl
      refine take_ (i := 5) (N := some 135) (v := ?_) (a' := ?_) #[true, true, true, true, true, true, true, false, false, false, false, false, false, false, false, false] rfl rfl (by kernel_rfl) (fun _ _ _ h => h) (Or.inl ⟨by rfl, ?_⟩) hHeld ?_ ?_
      rotate_left
      · rintro w' ⟨s0, s1, s2⟩
        go_simp
        with_reducible rfl
      rotate_left
      · simp only [Act.put, List.setIfInBounds_toArray, List.set_cons_zero, List.set_cons_succ, i64_w, i32_w]
        rfl
      refine one_ (i := 7) (N := some 137) #[true, true, true, true, true, true, true, true, false, false, false, false, false, false, false, false] rfl rfl (by kernel_rfl) (by decide) (fun K hK => ?_)
      refine goes_ Try.func83 (by kernel_rfl) rfl #[.agg #[.slice A2 l2.length c2, .slice A3 l3.length c3], .slice S s.length sc, .int .i64 a] (by rfl) rfl rfl (by simp only [List.map_toArray, List.map_cons, List.map_nil]; rfl) ?_
      with_reducible refine (impl_Policy_step.calls (Ev.num HE2.out) A2 c2 l2 A3 c3 l3 S sc s a _ _ _ _ (HR2.out.at HD (fun _ hx_ => (List.mem_cons_of_mem _ (List.mem_cons_of_mem _ (List.mem_cons_of_mem _ (List.mem_cons_of_mem _ (List.mem_cons_of_mem _ (List.mem_cons_of_mem _ hx_)))))))) HQ2.out (HR3.out.at HD (fun _ hx_ => (List.mem_cons_of_mem _ (List.mem_cons_of_mem _ (List.mem_cons_of_mem _ (List.mem_cons_of_mem _ (List.mem_cons_of_mem _ (List.mem_cons_of_mem _ hx_)))))))) HQ3.out (HD.reads' (List.mem_cons_of_mem _ (List.mem_cons_of_mem _ (List.mem_cons_of_mem _ (List.mem_cons_of_mem _ List.mem_cons_self))))).2.2 (HD.reads' (List.mem_cons_of_mem _ (List.mem_cons_of_mem _ (List.mem_cons_of_mem _ (List.mem_cons_of_mem _ List.mem_cons_self))))).2.1 (Ev.is HE2.out)).mono ?_
      rintro e w4 ⟨v_, rfl, hr, hb⟩
      refine ⟨_, rfl, ?_⟩
      obtain ⟨B3, bc3, rfl⟩ := Kd.R_slice hr
      replace HD := HD.made hb hr
      clear hb hr
      have s0_ : w4.cell? ⟨q, 0, none⟩ = some (.slice A2 l2.length c2) := HD.cell (List.mem_cons_of_mem _ (List.mem_cons_of_mem _ List.mem_cons_self)) 0 _ rfl
      have s1_ : w4.cell? ⟨q, 1, none⟩ = some (.slice A3 l3.length c3) := HD.cell (List.mem_cons_of_mem _ (List.mem_cons_of_mem _ List.mem_cons_self)) 1 _ rfl
      have s2_ : w4.cell? ⟨g, 6, none⟩ = some (.slice S s.length sc) := HD.cell (List.mem_cons_of_mem _ (List.mem_cons_of_mem _ (List.mem_cons_of_mem _ List.mem_cons_self))) 6 _ rfl
      have fz_ : ∀ j, w4.frozen? ⟨g, j, none⟩ = false := HD.thaw (List.mem_cons_of_mem _ (List.mem_cons_of_mem _ (List.mem_cons_of_mem _ List.mem_cons_self)))
      refine hK.out _ _ ⟨s0_, s1_, s2_⟩ (fun hHeld => ?_)
      clear hK K
      refine norm_ (a' := ?_) ?_ ?_
      rotate_left
      · show Act.put _ (some 137) _ = _
        simp only [Act.put, List.setIfInBounds_toArray, List.set_cons_zero, List.set_cons_succ, i64_w, i32_w]
        rfl
      refine pure_ (i := 8) (N := some 129) (v := ?_) (a' := ?_) #[true, true, true, true, true, true, true, true, true, false, false, false, false, false, false, false] rfl rfl (by kernel_rfl) (fun _ _ _ h => h) (Or.inl ⟨by rfl, ?_⟩) ?_ ?_
      rotate_left
      · intro w'
        go_simp
        with_reducible rfl
      rotate_left
      · simp only [Act.put, List.setIfInBounds_toArray, List.set_cons_zero, List.set_cons_succ, i64_w, i32_w]
        rfl
      refine pure_ (i := 9) (N := some 138) (v := ?_) (a' := ?_) #[true, true, true, true, true, true, true, true, true, true, false, false, false, false, false, false] rfl rfl (by kernel_rfl) (fun _ _ _ h => h) (Or.inl ⟨by rfl, ?_⟩) ?_ ?_
      rotate_left
      · intro w'
        go_simp
        with_reducible rfl
      rotate_left
      · simp only [Act.put, List.setIfInBounds_toArray, List.set_cons_zero, List.set_cons_succ, i64_w, i32_w]
        rfl
      refine pure_ (i := 10) (N := some 139) (v := ?_) (a' := ?_) #[true, true, true, true, true, true, true, true, true, true, true, false, false, false, false, false] rfl rfl (by kernel_rfl) (fun _ _ _ h => h) (Or.inl ⟨by rfl, ?_⟩) ?_ ?_
      rotate_left
      · intro w'
        go_simp
        with_reducible rfl
      rotate_left
      · simp only [Act.put, List.setIfInBounds_toArray, List.set_cons_zero, List.set_cons_succ, i64_w, i32_w]
        rfl
      refine pure_ (i := 11) (N := some 140) (v := ?_) (a' := ?_) #[true, true, true, true, true, true, true, true, true, true, true, true, false, false, false, false] rfl rfl (by kernel_rfl) (fun _ _ _ h => h) (Or.inl ⟨by rfl, ?_⟩) ?_ ?_
      rotate_left
      · intro w'
        go_simp
        with_reducible rfl
      rotate_left
      · simp only [Act.put, List.setIfInBounds_toArray, List.set_cons_zero, List.set_cons_succ, i64_w, i32_w]
        rfl
      refine pure_ (i := 12) (N := some 141) (v := ?_) (a' := ?_) #[true, true, true, true, true, true, true, true, true, true, true, true, true, false, false, false] rfl rfl (by kernel_rfl) (fun _ _ _ h => h) (Or.inl ⟨by rfl, ?_⟩) ?_ ?_
      rotate_left
      · intro w'
        go_simp
        with_reducible rfl
      rotate_left
      · simp only [Act.put, List.setIfInBounds_toArray, List.set_cons_zero, List.set_cons_succ, i64_w, i32_w]
        rfl
      refine pure_ (i := 13) (N := some 142) (v := ?_) (a' := ?_) #[true, true, true, true, true, true, true, true, true, true, true, true, true, true, false, false] rfl rfl (by kernel_rfl) (fun _ _ _ h => h) (Or.inl ⟨by rfl, ?_⟩) ?_ ?_
      rotate_left
      · intro w'
        go_simp
        with_reducible rfl
      rotate_left
      · simp only [Act.put, List.setIfInBounds_toArray, List.set_cons_zero, List.set_cons_succ, i64_w, i32_w]
        rfl
      refine last_ (i := 14) (N := none) #[true, true, true, true, true, true, true, true, true, true, true, true, true, true, true, false] rfl rfl (by kernel_rfl) (by decide) (fun K hK => ?_)
      refine skip_ (w1 := ?_) (by rfl) rfl ?_ ?_
      rotate_left
      · go_simp
        rfl
      refine hK.out _ _ ?_
      clear hK K
      refine pure_ (i := 15) (N := some 6) (v := ?_) (a' := ?_) #[true, true, true, true, true, true, true, true, true, true, true, true, true, true, true, true] rfl rfl (by kernel_rfl) (fun _ _ _ h => h) (Or.inl ⟨by rfl, ?_⟩) ?_ ?_
      rotate_left
      · intro w'
        go_simp
        with_reducible rfl
      rotate_left
      · simp only [Act.put, List.setIfInBounds_toArray, List.set_cons_zero, List.set_cons_succ, i64_w, i32_w]
        rfl
      refine done_ (by kernel_rfl) ?_
      clear hHeld s0_ s1_ s2_ fz_
      replace HS := HD
      clear HD
      replace HS := HS.setBox 6 (.slice B3 (x2).length bc3) (.there (.there (.there .here)))
      simp only [List.setIfInBounds_toArray, List.set_cons_zero, List.set_cons_succ] at HS
      generalize w4.setCell ⟨g, 6, none⟩ (.slice B3 (x2).length bc3) = w4b at HS ⊢
      replace HS := HS.pick (.there (.there (.there (.there (.there .here)))))
      replace HS := HS.tail
      have q5 : w4b.cell? ⟨g, 5, none⟩ = some (.slice (some ⟨bf_, 0, none⟩) f.length fc) := HS.cell (List.mem_cons_of_mem _ (List.mem_cons_of_mem _ (List.mem_cons_of_mem _ List.mem_cons_self))) 5 _ rfl
      go_wp2_with fail
      refine (own_takeOut (l' := f') HS HHT.out (.there (.there (.there (.there .here)))) HP2.out (by have := HL2.out; omega)).mono ?_
      clear q5
      clear HS
      rintro e w5 ⟨rfl, HS⟩
      rw [← HL1.out] at HS
      have q8 : w5.cell? ⟨g, 8, none⟩ = some (.int .i64 bk) := HS.cell (List.mem_cons_of_mem _ (List.mem_cons_of_mem _ (List.mem_cons_of_mem _ List.mem_cons_self))) 8 _ rfl
      have fzq : ∀ j, w5.frozen? ⟨g, j, none⟩ = false := HS.thaw (List.mem_cons_of_mem _ (List.mem_cons_of_mem _ (List.mem_cons_of_mem _ List.mem_cons_self)))
      go_wp2_with fail
      clear q8 fzq
      replace HS := HS.setBox 8 (.int .i64 (bk + 1)) (.there (.there (.there .here)))
      simp only [List.setIfInBounds_toArray, List.set_cons_zero, List.set_cons_succ] at HS
      generalize w5.setCell ⟨g, 8, none⟩ (.int .i64 (bk + 1)) = w6 at HS ⊢
      have HD := Hold.drew HS
      refine start_ (n := 15) (S := fun w' => w'.cell? ⟨p, 0, none⟩ = some (.slice A0 l0.length c0) ∧ w'.cell? ⟨p, 1, none⟩ = some (.slice A1 l1.length c1) ∧ w'.cell? ⟨g, 5, none⟩ = some (.slice (some ⟨bf_, 0, none⟩) f'.length fc)) (ds := [14]) #[false, false, false, false, false, false, false, false, false, false, false, false, false, false, false] (by kernel_rfl) rfl rfl ⟨(HD.cell (List.mem_cons_of_mem _ List.mem_cons_self) 0 _ rfl), (HD.cell (List.mem_cons_of_mem _ List.mem_cons_self) 1 _ rfl), (HD.cell (List.mem_cons_of_mem _ (List.mem_cons_of_mem _ (List.mem_cons_of_mem _ List.mem_cons_self))) 5 _ rfl)⟩ (fun hHeld => ?_)
      generalize w6.drew = wd at HD hHeld ⊢
      refine pure_ (i := 0) (N := some 157) (v := ?_) (a' := ?_) #[true, false, false, false, false, false, false, false, false, false, false, false, false, false, false] rfl rfl (by kernel_rfl) (fun _ _ _ h => h) (Or.inl ⟨by rfl, ?_⟩) ?_ ?_
      rotate_left
      · intro w'
        go_simp
        with_reducible rfl
      rotate_left
      · simp only [Act.put, List.setIfInBounds_toArray, List.set_cons_zero, List.set_cons_succ, i64_w, i32_w]
        rfl
      refine pure_ (i := 2) (N := some 159) (v := ?_) (a' := ?_) #[true, false, true, false, false, false, false, false, false, false, false, false, false, false, false] rfl rfl (by kernel_rfl) (fun _ _ _ h => h) (Or.inl ⟨by rfl, ?_⟩) ?_ ?_
      rotate_left
      · intro w'
        go_simp
        with_reducible rfl
      rotate_left
      · simp only [Act.put, List.setIfInBounds_toArray, List.set_cons_zero, List.set_cons_succ, i64_w, i32_w]
        rfl
      refine pure_ (i := 3) (N := some 160) (v := ?_) (a' := ?_) #[true, false, true, true, false, false, false, false, false, false, false, false, false, false, false] rfl rfl (by kernel_rfl) (fun _ _ _ h => h) (Or.inl ⟨by rfl, ?_⟩) ?_ ?_
      rotate_left
      · intro w'
        go_simp
        with_reducible rfl
      rotate_left
      · simp only [Act.put, List.setIfInBounds_toArray, List.set_cons_zero, List.set_cons_succ, i64_w, i32_w]
        rfl
      refine pure_ (i := 4) (N := some 161) (v := ?_) (a' := ?_) #[true, false, true, true, true, false, false, false, false, false, false, false, false, false, false] rfl rfl (by kernel_rfl) (fun _ _ _ h => h) (Or.inl ⟨by rfl, ?_⟩) ?_ ?_
      rotate_left
      · intro w'
        go_simp
        with_reducible rfl
      rotate_left
      · simp only [Act.put, List.setIfInBounds_toArray, List.set_cons_zero, List.set_cons_succ, i64_w, i32_w]
        rfl
      refine pure_ (i := 6) (N := some 163) (v := ?_) (a' := ?_) #[true, false, true, true, true, false, true, false, false, false, false, false, false, false, false] rfl rfl (by kernel_rfl) (fun _ _ _ h => h) (Or.inl ⟨by rfl, ?_⟩) ?_ ?_
      rotate_left
      · intro w'
        go_simp
        with_reducible rfl
      rotate_left
      · simp only [Act.put, List.setIfInBounds_toArray, List.set_cons_zero, List.set_cons_succ, i64_w, i32_w]
        rfl
      refine take_ (i := 1) (N := some 158) (v := ?_) (a' := ?_) #[true, true, true, true, true, false, true, false, false, false, false, false, false, false, false] rfl rfl (by kernel_rfl) (fun _ _ _ h => h) (Or.inl ⟨by rfl, ?_⟩) hHeld ?_ ?_
      rotate_left
      · rintro w' ⟨s0, s1, s2⟩
        go_simp
        with_reducible rfl
      rotate_left
      · simp only [Act.put, List.setIfInBounds_toArray, List.set_cons_zero, List.set_cons_succ, i64_w, i32_w]
        rfl
      refine take_ (i := 5) (N := some 162) (v := ?_) (a' := ?_) #[true, true, true, true, true, true, true, false, false, false, false, false, false, false, false] rfl rfl (by kernel_rfl) (fun _ _ _ h => h) (Or.inl ⟨by rfl, ?_⟩) hHeld ?_ ?_
      rotate_left
      · rintro w' ⟨s0, s1, s2⟩
        go_simp
        with_reducible rfl
      rotate_left
      · simp only [Act.put, List.setIfInBounds_toArray, List.set_cons_zero, List.set_cons_succ, i64_w, i32_w]
        rfl
      refine one_ (i := 7) (N := some 164) #[true, true, true, true, true, true, true, true, false, false, false, false, false, false, false] rfl rfl (by kernel_rfl) (by decide) (fun K hK => ?_)
      refine goes_ Try.func83 (by kernel_rfl) rfl #[.agg #[.slice A0 l0.length c0, .slice A1 l1.length c1], .slice (some ⟨bf_, 0, none⟩) f'.length fc, .int .i64 a] (by rfl) rfl rfl (by simp only [List.map_toArray, List.map_cons, List.map_nil]; rfl) ?_
      with_reducible refine (impl_Policy_step.calls (Ev.num HE1.out) A0 c0 l0 A1 c1 l1 (some ⟨bf_, 0, none⟩) fc (f') a _ _ _ _ (HR0.out.at HD (fun _ hx_ => (List.mem_cons_of_mem _ (List.mem_cons_of_mem _ (List.mem_cons_of_mem _ (List.mem_cons_of_mem _ (List.mem_cons_of_mem _ (List.mem_cons_of_mem _ hx_)))))))) HQ0.out (HR1.out.at HD (fun _ hx_ => (List.mem_cons_of_mem _ (List.mem_cons_of_mem _ (List.mem_cons_of_mem _ (List.mem_cons_of_mem _ (List.mem_cons_of_mem _ (List.mem_cons_of_mem _ hx_)))))))) HQ1.out (HD.reads' (List.mem_cons_of_mem _ (List.mem_cons_of_mem _ (List.mem_cons_of_mem _ (List.mem_cons_of_mem _ List.mem_cons_self))))).2.2 (HD.reads' (List.mem_cons_of_mem _ (List.mem_cons_of_mem _ (List.mem_cons_of_mem _ (List.mem_cons_of_mem _ List.mem_cons_self))))).2.1 (Ev.is HE1.out)).mono ?_
      rintro e w7 ⟨v_, rfl, hr, hb⟩
      refine ⟨_, rfl, ?_⟩
      obtain ⟨B4, bc4, rfl⟩ := Kd.R_slice hr
      replace HD := HD.made hb hr
      clear hb hr
      have s0_ : w7.cell? ⟨p, 0, none⟩ = some (.slice A0 l0.length c0) := HD.cell (List.mem_cons_of_mem _ (List.mem_cons_of_mem _ List.mem_cons_self)) 0 _ rfl
      have s1_ : w7.cell? ⟨p, 1, none⟩ = some (.slice A1 l1.length c1) := HD.cell (List.mem_cons_of_mem _ (List.mem_cons_of_mem _ List.mem_cons_self)) 1 _ rfl
      have s2_ : w7.cell? ⟨g, 5, none⟩ = some (.slice (some ⟨bf_, 0, none⟩) f'.length fc) := HD.cell (List.mem_cons_of_mem _ (List.mem_cons_of_mem _ (List.mem_cons_of_mem _ (List.mem_cons_of_mem _ List.mem_cons_self)))) 5 _ rfl
      have fz_ : ∀ j, w7.frozen? ⟨g, j, none⟩ = false := HD.thaw (List.mem_cons_of_mem _ (List.mem_cons_of_mem _ (List.mem_cons_of_mem _ (List.mem_cons_of_mem _ List.mem_cons_self))))
      refine hK.out _ _ ⟨s0_, s1_, s2_⟩ (fun hHeld => ?_)
      clear hK K
      refine norm_ (a' := ?_) ?_ ?_
      rotate_left
      · show Act.put _ (some 164) _ = _
        simp only [Act.put, List.setIfInBounds_toArray, List.set_cons_zero, List.set_cons_succ, i64_w, i32_w]
        rfl
      refine pure_ (i := 8) (N := some 156) (v := ?_) (a' := ?_) #[true, true, true, true, true, true, true, true, true, false, false, false, false, false, false] rfl rfl (by kernel_rfl) (fun _ _ _ h => h) (Or.inl ⟨by rfl, ?_⟩) ?_ ?_
      rotate_left
      · intro w'
        go_simp
        with_reducible rfl
      rotate_left
      · simp only [Act.put, List.setIfInBounds_toArray, List.set_cons_zero, List.set_cons_succ, i64_w, i32_w]
        rfl
      refine pure_ (i := 9) (N := some 165) (v := ?_) (a' := ?_) #[true, true, true, true, true, true, true, true, true, true, false, false, false, false, false] rfl rfl (by kernel_rfl) (fun _ _ _ h => h) (Or.inl ⟨by rfl, ?_⟩) ?_ ?_
      rotate_left
      · intro w'
        go_simp
        with_reducible rfl
      rotate_left
      · simp only [Act.put, List.setIfInBounds_toArray, List.set_cons_zero, List.set_cons_succ, i64_w, i32_w]
        rfl
      refine pure_ (i := 10) (N := some 166) (v := ?_) (a' := ?_) #[true, true, true, true, true, true, true, true, true, true, true, false, false, false, false] rfl rfl (by kernel_rfl) (fun _ _ _ h => h) (Or.inl ⟨by rfl, ?_⟩) ?_ ?_
      rotate_left
      · intro w'
        go_simp
        with_reducible rfl
      rotate_left
      · simp only [Act.put, List.setIfInBounds_toArray, List.set_cons_zero, List.set_cons_succ, i64_w, i32_w]
        rfl
      refine pure_ (i := 11) (N := some 167) (v := ?_) (a' := ?_) #[true, true, true, true, true, true, true, true, true, true, true, true, false, false, false] rfl rfl (by kernel_rfl) (fun _ _ _ h => h) (Or.inl ⟨by rfl, ?_⟩) ?_ ?_
      rotate_left
      · intro w'
        go_simp
        with_reducible rfl
      rotate_left
      · simp only [Act.put, List.setIfInBounds_toArray, List.set_cons_zero, List.set_cons_succ, i64_w, i32_w]
        rfl
      refine pure_ (i := 12) (N := some 168) (v := ?_) (a' := ?_) #[true, true, true, true, true, true, true, true, true, true, true, true, true, false, false] rfl rfl (by kernel_rfl) (fun _ _ _ h => h) (Or.inl ⟨by rfl, ?_⟩) ?_ ?_
      rotate_left
      · intro w'
        go_simp
        with_reducible rfl
      rotate_left
      · simp only [Act.put, List.setIfInBounds_toArray, List.set_cons_zero, List.set_cons_succ, i64_w, i32_w]
        rfl
      refine pure_ (i := 13) (N := some 169) (v := ?_) (a' := ?_) #[true, true, true, true, true, true, true, true, true, true, true, true, true, true, false] rfl rfl (by kernel_rfl) (fun _ _ _ h => h) (Or.inl ⟨by rfl, ?_⟩) ?_ ?_
      rotate_left
      · intro w'
        go_simp
        with_reducible rfl
      rotate_left
      · simp only [Act.put, List.setIfInBounds_toArray, List.set_cons_zero, List.set_cons_succ, i64_w, i32_w]
        rfl
      refine last_ (i := 14) (N := none) #[true, true, true, true, true, true, true, true, true, true, true, true, true, true, true] rfl rfl (by kernel_rfl) (by decide) (fun K hK => ?_)
      refine skip_ (w1 := ?_) (by rfl) rfl ?_ ?_
      rotate_left
      · go_simp
        rfl
      refine hK.out _ _ ?_
      clear hK K
      refine done_ (by kernel_rfl) ?_
      clear hHeld s0_ s1_ s2_ fz_
      replace HS := HD
      clear HD
      replace HS := HS.setBox 5 (.slice B4 (x1).length bc4) (.there (.there (.there (.there .here))))
      simp only [List.setIfInBounds_toArray, List.set_cons_zero, List.set_cons_succ] at HS
      generalize w7.setCell ⟨g, 5, none⟩ (.slice B4 (x1).length bc4) = w7b at HS ⊢
      replace HS := HS.pick (.there (.there (.there (.there (.there .here)))))
      replace HS := HS.tail
      go_wp2_with fail
      (try simp only [Exit.inBlock, Exit.then]); first | refine bodyPost_ret (results_none rfl _ _ _) rfl ?_ | refine bodyPost_end (results_none rfl _ _ _) rfl ?_
      replace HS := HS.pick (.there (.there .here))
      replace HS := HS.tail
      replace HS := HS.pick (.there (.there .here))
      replace HS := HS.tail
      replace HS := HS.pick (.there (.there (.there .here)))
      replace HS := HS.pick (.there (.there .here))
      replace HS := HS.pick (.there (.there .here))
      replace HS := HS.pick (.there (.there (.there .here)))
      exact ⟨rfl, _, _, _, _, _, _, _, _, _, _, _, _, HS⟩
set_option maxHeartbeats 4000000 in
set_option maxRecDepth 100000 in
theorem use_2 {w0 w : World} {R : List (Thing × Nat × Nat)} {A0 : Option Addr} {c0 : Nat} {l0 : List (List Int)} {A1 : Option Addr} {c1 : Nat} {l1 : List Int} {A2 : Option Addr} {c2 : Nat} {l2 : List (List Int)} {A3 : Option Addr} {c3 : Nat} {l3 : List Int} {g g1 fc flo fhi sc slo shi vc vlo vhi : Nat} {F S V : Option Addr} {bk a : Int} {f s wh : List Int}
    (h : Hold w0 w ((boxT #[.slice A0 l0.length c0, .slice A1 l1.length c1, .slice A2 l2.length c2, .slice A3 l3.length c3, .int .i64 2, .slice F f.length fc, .slice S s.length sc, .slice V wh.length vc, .int .i64 bk] 111, g, g1) :: (flat (Kd.int .i64) 2 (.slice F f.length fc) f, flo, fhi) :: (flat (Kd.int .i64) 2 (.slice S s.length sc) s, slo, shi) :: (flat (Kd.int .i64) 2 (.slice V wh.length vc) wh, vlo, vhi) :: R))
    (r0 : Rd w0 R (Kd.slice 2 (Kd.int .i64)) A0 l0) (r1 : Rd w0 R (Kd.int .i64) A1 l1) (r2 : Rd w0 R (Kd.slice 2 (Kd.int .i64)) A2 l2) (r3 : Rd w0 R (Kd.int .i64) A3 l3) (q0 : l0.length ≤ c0) (q1 : l1.length ≤ c1) (q2 : l2.length ≤ c2) (q3 : l3.length ≤ c3) (hwh : wh.length ≤ 1000)
    (hc1 : Ev (fun k => slices_Contains_int64_int64.f k f a) false) {b2 : Bool} (hc2 : Ev (fun k => slices_Contains_int64_int64.f k s a) b2) {s' : List Int} {t : Bool} (ht : takeV s a = (s', t)) (hp : 0 < s.length) (hl : s'.length = s.length ∧ s.length ≤ 6) {x1 : List Int} {o1 : Int} {b1 : Bool} (e1 : Ev (fun k => impl_Policy_step.f k l0 l1 f a) (x1, o1, b1)) (ho : o1 < 0) :
    Calls Try.prog 104 #[.pointer (some ⟨g, 0, none⟩), .int .i64 a] w fun e w' => e = .returned (.tuple #[]) ∧ ∃ F' fc' flo' fhi' S' sc' slo' shi' V' vc' vlo' vhi', Hold w0 w' ((boxT #[.slice A0 l0.length c0, .slice A1 l1.length c1, .slice A2 l2.length c2, .slice A3 l3.length c3, .int .i64 2, .slice F' (x1).length fc', .slice S' (s').length sc', .slice V' (wh.length + 1) vc', .int .i64 (bk)] 111, g, g1) :: (flat (Kd.int .i64) 2 (.slice F' (x1).length fc') x1, flo', fhi') :: (flat (Kd.int .i64) 2 (.slice S' (s').length sc') (s'), slo', shi') :: (flat (Kd.int .i64) 2 (.slice V' (wh.length + 1) vc') (wh ++ [whV b2]), vlo', vhi') :: R) := by
  have HP2 := Aside0.mk hp
  have HL1 := Aside0.mk hl.1
  have HL2 := Aside0.mk hl.2
  have HS := h
  obtain ⟨bs_, c_, hv_, _, _⟩ := HS.row_form (List.mem_cons_of_mem _ (List.mem_cons_of_mem _ List.mem_cons_self)) hp
  injection hv_ with hv_ _ he_
  subst hv_
  subst he_
  clear hp hl
  have HR0 := Aside0.mk r0
  have HR1 := Aside0.mk r1
  have HR2 := Aside0.mk r2
  have HR3 := Aside0.mk r3
  have HQ0 := Aside0.mk q0
  have HQ1 := Aside0.mk q1
  have HQ2 := Aside0.mk q2
  have HQ3 := Aside0.mk q3
  have HHWH := Aside0.mk hwh
  have HHC1 := Aside0.mk hc1
  have HHC2 := Aside0.mk hc2
  have HE1 := Aside0.mk e1
  have HHT := Aside0.mk ht
  have hgt : w0.heap.size ≤ g ∧ g < w.heap.size := by obtain ⟨⟨_, e_⟩, h1_, _, h3_⟩ := HS.get List.mem_cons_self; omega
  have hg : g < w.heap.size := hgt.2
  clear h hgt r0 r1 r2 r3 q0 q1 q2 q3 hwh hc1 hc2 e1 ht
  have xa0 : w.cell? ⟨g, 0, none⟩ = some (.slice A0 l0.length c0) := HS.cell List.mem_cons_self 0 _ rfl
  have xa1 : w.cell? ⟨g, 1, none⟩ = some (.slice A1 l1.length c1) := HS.cell List.mem_cons_self 1 _ rfl
  have xa2 : w.cell? ⟨g, 2, none⟩ = some (.slice A2 l2.length c2) := HS.cell List.mem_cons_self 2 _ rfl
  have xa3 : w.cell? ⟨g, 3, none⟩ = some (.slice A3 l3.length c3) := HS.cell List.mem_cons_self 3 _ rfl
  have ya0 : (w.alloc (.cells #[.slice none 0 0, .slice none 0 0] 29)).cell? ⟨g, 0, none⟩ = some (.slice A0 l0.length c0) := (HS.alloc _).cell List.mem_cons_self 0 _ rfl
  have ya1 : (w.alloc (.cells #[.slice none 0 0, .slice none 0 0] 29)).cell? ⟨g, 1, none⟩ = some (.slice A1 l1.length c1) := (HS.alloc _).cell List.mem_cons_self 1 _ rfl
  have ya2 : (w.alloc (.cells #[.slice none 0 0, .slice none 0 0] 29)).cell? ⟨g, 2, none⟩ = some (.slice A2 l2.length c2) := (HS.alloc _).cell List.mem_cons_self 2 _ rfl
  have ya3 : (w.alloc (.cells #[.slice none 0 0, .slice none 0 0] 29)).cell? ⟨g, 3, none⟩ = some (.slice A3 l3.length c3) := (HS.alloc _).cell List.mem_cons_self 3 _ rfl
  have za0 : ((w.alloc (.cells #[.slice none 0 0, .slice none 0 0] 29)).alloc (.cells #[.slice none 0 0, .slice none 0 0] 29)).cell? ⟨g, 0, none⟩ = some (.slice A0 l0.length c0) := ((HS.alloc _).alloc _).cell List.mem_cons_self 0 _ rfl
  have za1 : ((w.alloc (.cells #[.slice none 0 0, .slice none 0 0] 29)).alloc (.cells #[.slice none 0 0, .slice none 0 0] 29)).cell? ⟨g, 1, none⟩ = some (.slice A1 l1.length c1) := ((HS.alloc _).alloc _).cell List.mem_cons_self 1 _ rfl
  have za2 : ((w.alloc (.cells #[.slice none 0 0, .slice none 0 0] 29)).alloc (.cells #[.slice none 0 0, .slice none 0 0] 29)).cell? ⟨g, 2, none⟩ = some (.slice A2 l2.length c2) := ((HS.alloc _).alloc _).cell List.mem_cons_self 2 _ rfl
  have za3 : ((w.alloc (.cells #[.slice none 0 0, .slice none 0 0] 29)).alloc (.cells #[.slice none 0 0, .slice none 0 0] 29)).cell? ⟨g, 3, none⟩ = some (.slice A3 l3.length c3) := ((HS.alloc _).alloc _).cell List.mem_cons_self 3 _ rfl
  have n1 : ¬ g = w.heap.size := by omega
  have n2 : ¬ g = w.heap.size + 1 := by omega
  have n3 : ¬ w.heap.size = g := by omega
  have n4 : ¬ w.heap.size + 1 = g := by omega
  go_enter Try.func104, Try.ntmps104
  go_upto_region 0 with fail
  go_cut [4, 5] (fun v4 v5 wc => ∃ p q, v4 = .pointer (some ⟨p, 0, none⟩) ∧ v5 = .pointer (some ⟨q, 0, none⟩) ∧ Hold w0 wc ((boxT #[.slice A0 l0.length c0, .slice A1 l1.length c1] 29, p, p + 1) :: (boxT #[.slice A2 l2.length c2, .slice A3 l3.length c3] 29, q, q + 1) :: (boxT #[.slice A0 l0.length c0, .slice A1 l1.length c1, .slice A2 l2.length c2, .slice A3 l3.length c3, .int .i64 2, .slice F f.length fc, .slice (some ⟨bs_, 0, none⟩) s.length sc, .slice V wh.length vc, .int .i64 bk] 111, g, g1) :: (flat (Kd.int .i64) 2 (.slice F f.length fc) f, flo, fhi) :: (flat (Kd.int .i64) 2 (.slice (some ⟨bs_, 0, none⟩) s.length sc) s, slo, shi) :: (flat (Kd.int .i64) 2 (.slice V wh.length vc) wh, vlo, vhi) :: R))
  case first =>
    go_region
    · go_wp2_with fail
      go_meet
      have HZ := ((HS.box #[.slice A0 l0.length c0, .slice A1 l1.length c1] 29).box #[.slice A2 l2.length c2, .slice A3 l3.length c3] 29).drew
      simp only [World.size_alloc] at HZ
      exact ⟨_, _, rfl, rfl, HZ.pick (.there .here)⟩
    · go_wp2_with fail
      go_meet
      have HZ := ((HS.box #[.slice A2 l2.length c2, .slice A3 l3.length c3] 29).box #[.slice A0 l0.length c0, .slice A1 l1.length c1] 29).drew
      simp only [World.size_alloc] at HZ
      exact ⟨_, _, rfl, rfl, HZ⟩
  case rest =>
    clear HS xa0 xa1 xa2 xa3 ya0 ya1 ya2 ya3 za0 za1 za2 za3 n1 n2 n3 n4 hg
    obtain ⟨p, q, rfl, rfl, HS⟩ := hcut
    obtain ⟨wa, rfl⟩ : ∃ x, x = wc := ⟨_, rfl⟩
    have q5 : wa.cell? ⟨g, 5, none⟩ = some (.slice F f.length fc) := HS.cell (List.mem_cons_of_mem _ (List.mem_cons_of_mem _ List.mem_cons_self)) 5 _ rfl
    go_wp2_with fail
    refine (slices_Contains_int64_int64.calls (Ev.num HHC1.out) F fc f a _ _ (HS.reads' (List.mem_cons_of_mem _ (List.mem_cons_of_mem _ (List.mem_cons_of_mem _ List.mem_cons_self)))).2.2 (HS.reads' (List.mem_cons_of_mem _ (List.mem_cons_of_mem _ (List.mem_cons_of_mem _ List.mem_cons_self)))).2.1 (Ev.is HHC1.out)).mono ?_
    rintro e w1 ⟨rfl, hb⟩
    clear q5
    replace HS := HS.step (by first | exact hb | exact hb.below)
    clear hb
    have q6 : w1.cell? ⟨g, 6, none⟩ = some (.slice (some ⟨bs_, 0, none⟩) s.length sc) := HS.cell (List.mem_cons_of_mem _ (List.mem_cons_of_mem _ List.mem_cons_self)) 6 _ rfl
    go_wp2_with fail
    refine (slices_Contains_int64_int64.calls (Ev.num HHC2.out) (some ⟨bs_, 0, none⟩) sc s a _ _ (HS.reads' (List.mem_cons_of_mem _ (List.mem_cons_of_mem _ (List.mem_cons_of_mem _ (List.mem_cons_of_mem _ List.mem_cons_self))))).2.2 (HS.reads' (List.mem_cons_of_mem _ (List.mem_cons_of_mem _ (List.mem_cons_of_mem _ (List.mem_cons_of_mem _ List.mem_cons_self))))).2.1 (Ev.is HHC2.out)).mono ?_
    rintro e w2 ⟨rfl, hb⟩
    clear q6
    replace HS := HS.step (by first | exact hb | exact hb.below)
    clear hb
    go_upto_if 51 with fail
    go_cut [] (fun wc => ∃ V2 vc2 vlo2 vhi2, Hold w0 wc ((boxT #[.slice A0 l0.length c0, .slice A1 l1.length c1] 29, p, p + 1) :: (boxT #[.slice A2 l2.length c2, .slice A3 l3.length c3] 29, q, q + 1) :: (boxT #[.slice A0 l0.length c0, .slice A1 l1.length c1, .slice A2 l2.length c2, .slice A3 l3.length c3, .int .i64 2, .slice F f.length fc, .slice (some ⟨bs_, 0, none⟩) s.length sc, .slice V2 (wh.length + 1) vc2, .int .i64 bk] 111, g, g1) :: (flat (Kd.int .i64) 2 (.slice F f.length fc) f, flo, fhi) :: (flat (Kd.int .i64) 2 (.slice (some ⟨bs_, 0, none⟩) s.length sc) s, slo, shi) :: (flat (Kd.int .i64) 2 (.slice V2 (wh.length + 1) vc2) ((wh ++ [(whV b2)])), vlo2, vhi2) :: R))
    case first =>
      cases b2
      · have q7 : w2.cell? ⟨g, 7, none⟩ = some (.slice V wh.length vc) := HS.cell (List.mem_cons_of_mem _ (List.mem_cons_of_mem _ List.mem_cons_self)) 7 _ rfl
        go_wp2_with ((with_reducible refine gate_builtin (b := .append) (xs := #[.tmp 65, .tmp 66]) rfl ?_); at_builtin; refine Hold.appendI HS rfl (.tmp 65) (.tmp 66) 24 2 rfl Try.underlying24 svInfo (.slice V wh.length vc) wh 3 rfl rfl (List.mem_cons_of_mem _ (List.mem_cons_of_mem _ (List.mem_cons_of_mem _ (List.mem_cons_of_mem _ (List.mem_cons_of_mem _ List.mem_cons_self))))) (by have := HHWH.out; omega) ?_; intro V2 vc2 vlo2 vhi2 w3 HQ; clear q7; replace HS := HQ _ (.there (.there (.there (.there (.there .here))))); clear HQ; have q7 : w3.cell? ⟨g, 7, none⟩ = some (.slice V wh.length vc) := HS.cell (List.mem_cons_of_mem _ (List.mem_cons_of_mem _ List.mem_cons_self)) 7 _ rfl; have fzq : ∀ j, w3.frozen? ⟨g, j, none⟩ = false := HS.thaw (List.mem_cons_of_mem _ (List.mem_cons_of_mem _ List.mem_cons_self)))
        clear fzq q7
        replace HS := HS.setBox 7 (.slice V2 (wh.length + 1) vc2) (.there (.there .here))
        simp only [List.setIfInBounds_toArray, List.set_cons_zero, List.set_cons_succ] at HS
        go_meet
        exact ⟨_, _, _, _, HS⟩
      · have q7 : w2.cell? ⟨g, 7, none⟩ = some (.slice V wh.length vc) := HS.cell (List.mem_cons_of_mem _ (List.mem_cons_of_mem _ List.mem_cons_self)) 7 _ rfl
        go_wp2_with ((with_reducible refine gate_builtin (b := .append) (xs := #[.tmp 56, .tmp 57]) rfl ?_); at_builtin; refine Hold.appendI HS rfl (.tmp 56) (.tmp 57) 24 2 rfl Try.underlying24 svInfo (.slice V wh.length vc) wh 2 rfl rfl (List.mem_cons_of_mem _ (List.mem_cons_of_mem _ (List.mem_cons_of_mem _ (List.mem_cons_of_mem _ (List.mem_cons_of_mem _ List.mem_cons_self))))) (by have := HHWH.out; omega) ?_; intro V2 vc2 vlo2 vhi2 w3 HQ; clear q7; replace HS := HQ _ (.there (.there (.there (.there (.there .here))))); clear HQ; have q7 : w3.cell? ⟨g, 7, none⟩ = some (.slice V wh.length vc) := HS.cell (List.mem_cons_of_mem _ (List.mem_cons_of_mem _ List.mem_cons_self)) 7 _ rfl; have fzq : ∀ j, w3.frozen? ⟨g, j, none⟩ = false := HS.thaw (List.mem_cons_of_mem _ (List.mem_cons_of_mem _ List.mem_cons_self)))
        clear fzq q7
        replace HS := HS.setBox 7 (.slice V2 (wh.length + 1) vc2) (.there (.there .here))
        simp only [List.setIfInBounds_toArray, List.set_cons_zero, List.set_cons_succ] at HS
        go_meet
        exact ⟨_, _, _, _, HS⟩
    case rest =>
      obtain ⟨V2, vc2, vlo2, vhi2, HS⟩ := hcut
      obtain ⟨wb, rfl⟩ : ∃ x, x = wc := ⟨_, rfl⟩
      have m4 : wb.cell? ⟨g, 4, none⟩ = some (.int .i64 2) := HS.cell (List.mem_cons_of_mem _ (List.mem_cons_of_mem _ List.mem_cons_self)) 4 _ rfl
      have q6 : wb.cell? ⟨g, 6, none⟩ = some (.slice (some ⟨bs_, 0, none⟩) s.length sc) := HS.cell (List.mem_cons_of_mem _ (List.mem_cons_of_mem _ List.mem_cons_self)) 6 _ rfl
      go_wp2_with fail
      refine (own_takeOut (l' := s') HS HHT.out (.there (.there (.there (.there .here)))) HP2.out (by have := HL2.out; omega)).mono ?_
      clear q6
      clear HS
      rintro e w4 ⟨rfl, HS⟩
      rw [← HL1.out] at HS
      clear m4
      go_wp2_with fail
      have HD := Hold.drew HS
      refine start_ (n := 16) (S := fun w' => w'.cell? ⟨p, 0, none⟩ = some (.slice A0 l0.length c0) ∧ w'.cell? ⟨p, 1, none⟩ = some (.slice A1 l1.length c1) ∧ w'.cell? ⟨g, 5, none⟩ = some (.slice F f.length fc)) (ds := [14]) #[false, false, false, false, false, false, false, false, false, false, false, false, false, false, false, false] (by kernel_rfl) rfl rfl ⟨(HD.cell List.mem_cons_self 0 _ rfl), (HD.cell List.mem_cons_self 1 _ rfl), (HD.cell (List.mem_cons_of_mem _ (List.mem_cons_of_mem _ List.mem_cons_self)) 5 _ rfl)⟩ (fun hHeld => ?_)
      generalize w4.drew = wd at HD hHeld ⊢
      refine pure_ (i := 0) (N := some 98) (v := ?_) (a' := ?_) #[true, false, false, false, false, false, false, false, false, false, false, false, false, false, false, false] rfl rfl (by kernel_rfl) (fun _ _ _ h => h) (Or.inl ⟨by rfl, ?_⟩) ?_ ?_
      rotate_left
      · intro w'
        go_simp
        with_reducible rfl
      rotate_left
      · simp only [Act.put, List.setIfInBounds_toArray, List.set_cons_zero, List.set_cons_succ, i64_w, i32_w]
        rfl
      refine pure_ (i := 2) (N := some 100) (v := ?_) (a' := ?_) #[true, false, true, false, false, false, false, false, false, false, false, false, false, false, false, false] rfl rfl (by kernel_rfl) (fun _ _ _ h => h) (Or.inl ⟨by rfl, ?_⟩) ?_ ?_
      rotate_left
      · intro w'
        go_simp
        with_reducible rfl
      rotate_left
      · simp only [Act.put, List.setIfInBounds_toArray, List.set_cons_zero, List.set_cons_succ, i64_w, i32_w]
        rfl
      refine pure_ (i := 3) (N := some 101) (v := ?_) (a' := ?_) #[true, false, true, true, false, false, false, false, false, false, false, false, false, false, false, false] rfl rfl (by kernel_rfl) (fun _ _ _ h => h) (Or.inl ⟨by rfl, ?_⟩) ?_ ?_
      rotate_left
      · intro w'
        go_simp
        with_reducible rfl
      rotate_left
      · simp only [Act.put, List.setIfInBounds_toArray, List.set_cons_zero, List.set_cons_succ, i64_w, i32_w]
        rfl
      refine pure_ (i := 4) (N := some 102) (v := ?_) (a' := ?_) #[true, false, true, true, true, false, false, false, false, false, false, false, false, false, false, false] rfl rfl (by kernel_rfl) (fun _ _ _ h => h) (Or.inl ⟨by rfl, ?_⟩) ?_ ?_
      rotate_left
      · intro w'
        go_simp
        with_reducible rfl
      rotate_left
      · simp only [Act.put, List.setIfInBounds_toArray, List.set_cons_zero, List.set_cons_succ, i64_w, i32_w]
        rfl
      refine pure_ (i := 6) (N := some 104) (v := ?_) (a' := ?_) #[true, false, true, true, true, false, true, false, false, false, false, false, false, false, false, false] rfl rfl (by kernel_rfl) (fun _ _ _ h => h) (Or.inl ⟨by rfl, ?_⟩) ?_ ?_
      rotate_left
      · intro w'
        go_simp
        with_reducible rfl
      rotate_left
      · simp only [Act.put, List.setIfInBounds_toArray, List.set_cons_zero, List.set_cons_succ, i64_w, i32_w]
        rfl
      refine take_ (i := 1) (N := some 99) (v := ?_) (a' := ?_) #[true, true, true, true, true, false, true, false, false, false, false, false, false, false, false, false] rfl rfl (by kernel_rfl) (fun _ _ _ h => h) (Or.inl ⟨by rfl, ?_⟩) hHeld ?_ ?_
      rotate_left
      · rintro w' ⟨s0, s1, s2⟩
        go_simp
        with_reducible rfl
      rotate_left
      · simp only [Act.put, List.setIfInBounds_toArray, List.set_cons_zero, List.set_cons_succ, i64_w, i32_w]
        rfl
      refine take_ (i := 5) (N := some 103) (v := ?_) (a' := ?_) #[true, true, true, true, true, true, true, false, false, false, false, false, false, false, false, false] rfl rfl (by kernel_rfl) (fun _ _ _ h => h) (Or.inl ⟨by rfl, ?_⟩) hHeld ?_ ?_
      rotate_left
      · rintro w' ⟨s0, s1, s2⟩
        go_simp
        with_reducible rfl
      rotate_left
      · simp only [Act.put, List.setIfInBounds_toArray, List.set_cons_zero, List.set_cons_succ, i64_w, i32_w]
        rfl
      refine one_ (i := 7) (N := some 105) #[true, true, true, true, true, true, true, true, false, false, false, false, false, false, false, false] rfl rfl (by kernel_rfl) (by decide) (fun K hK => ?_)
      refine goes_ Try.func83 (by kernel_rfl) rfl #[.agg #[.slice A0 l0.length c0, .slice A1 l1.length c1], .slice F f.length fc, .int .i64 a] (by rfl) rfl rfl (by simp only [List.map_toArray, List.map_cons, List.map_nil]; rfl) ?_
      with_reducible refine (impl_Policy_step.calls (Ev.num HE1.out) A0 c0 l0 A1 c1 l1 F fc f a _ _ _ _ (HR0.out.at HD (fun _ hx_ => (List.mem_cons_of_mem _ (List.mem_cons_of_mem _ (List.mem_cons_of_mem _ (List.mem_cons_of_mem _ (List.mem_cons_of_mem _ (List.mem_cons_of_mem _ hx_)))))))) HQ0.out (HR1.out.at HD (fun _ hx_ => (List.mem_cons_of_mem _ (List.mem_cons_of_mem _ (List.mem_cons_of_mem _ (List.mem_cons_of_mem _ (List.mem_cons_of_mem _ (List.mem_cons_of_mem _ hx_)))))))) HQ1.out (HD.reads' (List.mem_cons_of_mem _ (List.mem_cons_of_mem _ (List.mem_cons_of_mem _ List.mem_cons_self)))).2.2 (HD.reads' (List.mem_cons_of_mem _ (List.mem_cons_of_mem _ (List.mem_cons_of_mem _ List.mem_cons_self)))).2.1 (Ev.is HE1.out)).mono ?_
      rintro e w5 ⟨v_, rfl, hr, hb⟩
      refine ⟨_, rfl, ?_⟩
      obtain ⟨B3, bc3, rfl⟩ := Kd.R_slice hr
      replace HD := HD.made hb hr
      clear hb hr
      have s0_ : w5.cell? ⟨p, 0, none⟩ = some (.slice A0 l0.length c0) := HD.cell (List.mem_cons_of_mem _ List.mem_cons_self) 0 _ rfl
      have s1_ : w5.cell? ⟨p, 1, none⟩ = some (.slice A1 l1.length c1) := HD.cell (List.mem_cons_of_mem _ List.mem_cons_self) 1 _ rfl
      have s2_ : w5.cell? ⟨g, 5, none⟩ = some (.slice F f.length fc) := HD.cell (List.mem_cons_of_mem _ (List.mem_cons_of_mem _ (List.mem_cons_of_mem _ List.mem_cons_self))) 5 _ rfl
      have fz_ : ∀ j, w5.frozen? ⟨g, j, none⟩ = false := HD.thaw (List.mem_cons_of_mem _ (List.mem_cons_of_mem _ (List.mem_cons_of_mem _ List.mem_cons_self)))
      refine hK.out _ _ ⟨s0_, s1_, s2_⟩ (fun hHeld => ?_)
      clear hK K
      refine norm_ (a' := ?_) ?_ ?_
      rotate_left
      · show Act.put _ (some 105) _ = _
        simp only [Act.put, List.setIfInBounds_toArray, List.set_cons_zero, List.set_cons_succ, i64_w, i32_w]
        rfl
      refine pure_ (i := 8) (N := some 97) (v := ?_) (a' := ?_) #[true, true, true, true, true, true, true, true, true, false, false, false, false, false, false, false] rfl rfl (by kernel_rfl) (fun _ _ _ h => h) (Or.inl ⟨by rfl, ?_⟩) ?_ ?_
      rotate_left
      · intro w'
        go_simp
        with_reducible rfl
      rotate_left
      · simp only [Act.put, List.setIfInBounds_toArray, List.set_cons_zero, List.set_cons_succ, i64_w, i32_w]
        rfl
      refine pure_ (i := 9) (N := some 106) (v := ?_) (a' := ?_) #[true, true, true, true, true, true, true, true, true, true, false, false, false, false, false, false] rfl rfl (by kernel_rfl) (fun _ _ _ h => h) (Or.inl ⟨by rfl, ?_⟩) ?_ ?_
      rotate_left
      · intro w'
        go_simp
        with_reducible rfl
      rotate_left
      · simp only [Act.put, List.setIfInBounds_toArray, List.set_cons_zero, List.set_cons_succ, i64_w, i32_w]
        rfl
      refine pure_ (i := 10) (N := some 107) (v := ?_) (a' := ?_) #[true, true, true, true, true, true, true, true, true, true, true, false, false, false, false, false] rfl rfl (by kernel_rfl) (fun _ _ _ h => h) (Or.inl ⟨by rfl, ?_⟩) ?_ ?_
      rotate_left
      · intro w'
        go_simp
        with_reducible rfl
      rotate_left
      · simp only [Act.put, List.setIfInBounds_toArray, List.set_cons_zero, List.set_cons_succ, i64_w, i32_w]
        rfl
      refine pure_ (i := 11) (N := some 108) (v := ?_) (a' := ?_) #[true, true, true, true, true, true, true, true, true, true, true, true, false, false, false, false] rfl rfl (by kernel_rfl) (fun _ _ _ h => h) (Or.inl ⟨by rfl, ?_⟩) ?_ ?_
      rotate_left
      · intro w'
        go_simp
        with_reducible rfl
      rotate_left
      · simp only [Act.put, List.setIfInBounds_toArray, List.set_cons_zero, List.set_cons_succ, i64_w, i32_w]
        rfl
      refine pure_ (i := 12) (N := some 109) (v := ?_) (a' := ?_) #[true, true, true, true, true, true, true, true, true, true, true, true, true, false, false, false] rfl rfl (by kernel_rfl) (fun _ _ _ h => h) (Or.inl ⟨by rfl, ?_⟩) ?_ ?_
      rotate_left
      · intro w'
        go_simp
        with_reducible rfl
      rotate_left
      · simp only [Act.put, List.setIfInBounds_toArray, List.set_cons_zero, List.set_cons_succ, i64_w, i32_w]
        rfl
      refine pure_ (i := 13) (N := some 110) (v := ?_) (a' := ?_) #[true, true, true, true, true, true, true, true, true, true, true, true, true, true, false, false] rfl rfl (by kernel_rfl) (fun _ _ _ h => h) (Or.inl ⟨by rfl, ?_⟩) ?_ ?_
      rotate_left
      · intro w'
        go_simp
        with_reducible rfl
      rotate_left
      · simp only [Act.put, List.setIfInBounds_toArray, List.set_cons_zero, List.set_cons_succ, i64_w, i32_w]
        rfl
      refine last_ (i := 14) (N := none) #[true, true, true, true, true, true, true, true, true, true, true, true, true, true, true, false] rfl rfl (by kernel_rfl) (by decide) (fun K hK => ?_)
      refine skip_ (w1 := ?_) (by rfl) rfl ?_ ?_
      rotate_left
      · go_simp
        rfl
      refine hK.out _ _ ?_
      clear hK K
      refine pure_ (i := 15) (N := some 6) (v := ?_) (a' := ?_) #[true, true, true, true, true, true, true, true, true, true, true, true, true, true, true, true] rfl rfl (by kernel_rfl) (fun _ _ _ h => h) (Or.inl ⟨by rfl, ?_⟩) ?_ ?_
      rotate_left
      · intro w'
        go_simp
        with_reducible rfl
      rotate_left
      · simp only [Act.put, List.setIfInBounds_toArray, List.set_cons_zero, List.set_cons_succ, i64_w, i32_w]
        rfl
      refine done_ (by kernel_rfl) ?_
      clear hHeld s0_ s1_ s2_ fz_
      replace HS := HD
      clear HD
      replace HS := HS.setBox 5 (.slice B3 (x1).length bc3) (.there (.there (.there .here)))
      simp only [List.setIfInBounds_toArray, List.set_cons_zero, List.set_cons_succ] at HS
      generalize w5.setCell ⟨g, 5, none⟩ (.slice B3 (x1).length bc3) = w5b at HS ⊢
      replace HS := HS.pick (.there (.there (.there (.there .here))))
      replace HS := HS.tail
      go_wp2_with fail
      (try simp only [Exit.inBlock, Exit.then]); first | refine bodyPost_ret (results_none rfl _ _ _) rfl ?_ | refine bodyPost_end (results_none rfl _ _ _) rfl ?_
      replace HS := HS.pick (.there .here)
      replace HS := HS.tail
      replace HS := HS.pick (.there .here)
      replace HS := HS.tail
      replace HS := HS.pick (.there (.there (.there .here)))
      replace HS := HS.pick (.there (.there (.there .here)))
      replace HS := HS.pick (.there (.there .here))
      replace HS := HS.pick (.there (.there (.there .here)))
      exact ⟨rfl, _, _, _, _, _, _, _, _, _, _, _, _, HS⟩
set_option maxHeartbeats 4000000 in
set_option maxRecDepth 100000 in
theorem use_2t {w0 w : World} {R : List (Thing × Nat × Nat)} {A0 : Option Addr} {c0 : Nat} {l0 : List (List Int)} {A1 : Option Addr} {c1 : Nat} {l1 : List Int} {A2 : Option Addr} {c2 : Nat} {l2 : List (List Int)} {A3 : Option Addr} {c3 : Nat} {l3 : List Int} {g g1 fc flo fhi sc slo shi vc vlo vhi : Nat} {F S V : Option Addr} {bk a : Int} {f s wh : List Int}
    (h : Hold w0 w ((boxT #[.slice A0 l0.length c0, .slice A1 l1.length c1, .slice A2 l2.length c2, .slice A3 l3.length c3, .int .i64 2, .slice F f.length fc, .slice S s.length sc, .slice V wh.length vc, .int .i64 bk] 111, g, g1) :: (flat (Kd.int .i64) 2 (.slice F f.length fc) f, flo, fhi) :: (flat (Kd.int .i64) 2 (.slice S s.length sc) s, slo, shi) :: (flat (Kd.int .i64) 2 (.slice V wh.length vc) wh, vlo, vhi) :: R))
    (r0 : Rd w0 R (Kd.slice 2 (Kd.int .i64)) A0 l0) (r1 : Rd w0 R (Kd.int .i64) A1 l1) (r2 : Rd w0 R (Kd.slice 2 (Kd.int .i64)) A2 l2) (r3 : Rd w0 R (Kd.int .i64) A3 l3) (q0 : l0.length ≤ c0) (q1 : l1.length ≤ c1) (q2 : l2.length ≤ c2) (q3 : l3.length ≤ c3) (hwh : wh.length ≤ 1000)
    (hc1 : Ev (fun k => slices_Contains_int64_int64.f k f a) false) {b2 : Bool} (hc2 : Ev (fun k => slices_Contains_int64_int64.f k s a) b2) {s' : List Int} {t : Bool} (ht : takeV s a = (s', t)) (hp : 0 < s.length) (hl : s'.length = s.length ∧ s.length ≤ 6) {x1 : List Int} {o1 : Int} {b1 : Bool} (e1 : Ev (fun k => impl_Policy_step.f k l0 l1 f a) (x1, o1, b1)) (ho : 0 ≤ o1) {x2 : List Int} {o2 : Int} {b3 : Bool} (e2 : Ev (fun k => impl_Policy_step.f k l2 l3 s' o1) (x2, o2, b3)) :
    Calls Try.prog 104 #[.pointer (some ⟨g, 0, none⟩), .int .i64 a] w fun e w' => e = .returned (.tuple #[]) ∧ ∃ F' fc' flo' fhi' S' sc' slo' shi' V' vc' vlo' vhi', Hold w0 w' ((boxT #[.slice A0 l0.length c0, .slice A1 l1.length c1, .slice A2 l2.length c2, .slice A3 l3.length c3, .int .i64 2, .slice F' (x1).length fc', .slice S' (x2).length sc', .slice V' (wh.length + 1) vc', .int .i64 (bk)] 111, g, g1) :: (flat (Kd.int .i64) 2 (.slice F' (x1).length fc') x1, flo', fhi') :: (flat (Kd.int .i64) 2 (.slice S' (x2).length sc') x2, slo', shi') :: (flat (Kd.int .i64) 2 (.slice V' (wh.length + 1) vc') (wh ++ [whV b2]), vlo', vhi') :: R) := by
  have HP2 := Aside0.mk hp
  have HL1 := Aside0.mk hl.1
  have HL2 := Aside0.mk hl.2
  have HS := h
  obtain ⟨bs_, c_, hv_, _, _⟩ := HS.row_form (List.mem_cons_of_mem _ (List.mem_cons_of_mem _ List.mem_cons_self)) hp
  injection hv_ with hv_ _ he_
  subst hv_
  subst he_
  clear hp hl
  have HR0 := Aside0.mk r0
  have HR1 := Aside0.mk r1
  have HR2 := Aside0.mk r2
  have HR3 := Aside0.mk r3
  have HQ0 := Aside0.mk q0
  have HQ1 := Aside0.mk q1
  have HQ2 := Aside0.mk q2
  have HQ3 := Aside0.mk q3
  have HHWH := Aside0.mk hwh
  have HHC1 := Aside0.mk hc1
  have HHC2 := Aside0.mk hc2
  have HE1 := Aside0.mk e1
  have HHT := Aside0.mk ht
  have HE2 := Aside0.mk e2
  have hgt : w0.heap.size ≤ g ∧ g < w.heap.size := by obtain ⟨⟨_, e_⟩, h1_, _, h3_⟩ := HS.get List.mem_cons_self; omega
  have hg : g < w.heap.size := hgt.2
  clear h hgt r0 r1 r2 r3 q0 q1 q2 q3 hwh hc1 hc2 e1 ht e2
  have xa0 : w.cell? ⟨g, 0, none⟩ = some (.slice A0 l0.length c0) := HS.cell List.mem_cons_self 0 _ rfl
  have xa1 : w.cell? ⟨g, 1, none⟩ = some (.slice A1 l1.length c1) := HS.cell List.mem_cons_self 1 _ rfl
  have xa2 : w.cell? ⟨g, 2, none⟩ = some (.slice A2 l2.length c2) := HS.cell List.mem_cons_self 2 _ rfl
  have xa3 : w.cell? ⟨g, 3, none⟩ = some (.slice A3 l3.length c3) := HS.cell List.mem_cons_self 3 _ rfl
  have ya0 : (w.alloc (.cells #[.slice none 0 0, .slice none 0 0] 29)).cell? ⟨g, 0, none⟩ = some (.slice A0 l0.length c0) := (HS.alloc _).cell List.mem_cons_self 0 _ rfl
  have ya1 : (w.alloc (.cells #[.slice none 0 0, .slice none 0 0] 29)).cell? ⟨g, 1, none⟩ = some (.slice A1 l1.length c1) := (HS.alloc _).cell List.mem_cons_self 1 _ rfl
  have ya2 : (w.alloc (.cells #[.slice none 0 0, .slice none 0 0] 29)).cell? ⟨g, 2, none⟩ = some (.slice A2 l2.length c2) := (HS.alloc _).cell List.mem_cons_self 2 _ rfl
  have ya3 : (w.alloc (.cells #[.slice none 0 0, .slice none 0 0] 29)).cell? ⟨g, 3, none⟩ = some (.slice A3 l3.length c3) := (HS.alloc _).cell List.mem_cons_self 3 _ rfl
  have za0 : ((w.alloc (.cells #[.slice none 0 0, .slice none 0 0] 29)).alloc (.cells #[.slice none 0 0, .slice none 0 0] 29)).cell? ⟨g, 0, none⟩ = some (.slice A0 l0.length c0) := ((HS.alloc _).alloc _).cell List.mem_cons_self 0 _ rfl
  have za1 : ((w.alloc (.cells #[.slice none 0 0, .slice none 0 0] 29)).alloc (.cells #[.slice none 0 0, .slice none 0 0] 29)).cell? ⟨g, 1, none⟩ = some (.slice A1 l1.length c1) := ((HS.alloc _).alloc _).cell List.mem_cons_self 1 _ rfl
  have za2 : ((w.alloc (.cells #[.slice none 0 0, .slice none 0 0] 29)).alloc (.cells #[.slice none 0 0, .slice none 0 0] 29)).cell? ⟨g, 2, none⟩ = some (.slice A2 l2.length c2) := ((HS.alloc _).alloc _).cell List.mem_cons_self 2 _ rfl
  have za3 : ((w.alloc (.cells #[.slice none 0 0, .slice none 0 0] 29)).alloc (.cells #[.slice none 0 0, .slice none 0 0] 29)).cell? ⟨g, 3, none⟩ = some (.slice A3 l3.length c3) := ((HS.alloc _).alloc _).cell List.mem_cons_self 3 _ rfl
  have n1 : ¬ g = w.heap.size := by omega
  have n2 : ¬ g = w.heap.size + 1 := by omega
  have n3 : ¬ w.heap.size = g := by omega
  have n4 : ¬ w.heap.size + 1 = g := by omega
  go_enter Try.func104, Try.ntmps104
  go_upto_region 0 with fail
  go_cut [4, 5] (fun v4 v5 wc => ∃ p q, v4 = .pointer (some ⟨p, 0, none⟩) ∧ v5 = .pointer (some ⟨q, 0, none⟩) ∧ Hold w0 wc ((boxT #[.slice A0 l0.length c0, .slice A1 l1.length c1] 29, p, p + 1) :: (boxT #[.slice A2 l2.length c2, .slice A3 l3.length c3] 29, q, q + 1) :: (boxT #[.slice A0 l0.length c0, .slice A1 l1.length c1, .slice A2 l2.length c2, .slice A3 l3.length c3, .int .i64 2, .slice F f.length fc, .slice (some ⟨bs_, 0, none⟩) s.length sc, .slice V wh.length vc, .int .i64 bk] 111, g, g1) :: (flat (Kd.int .i64) 2 (.slice F f.length fc) f, flo, fhi) :: (flat (Kd.int .i64) 2 (.slice (some ⟨bs_, 0, none⟩) s.length sc) s, slo, shi) :: (flat (Kd.int .i64) 2 (.slice V wh.length vc) wh, vlo, vhi) :: R))
  case first =>
    go_region
    · go_wp2_with fail
      go_meet
      have HZ := ((HS.box #[.slice A0 l0.length c0, .slice A1 l1.length c1] 29).box #[.slice A2 l2.length c2, .slice A3 l3.length c3] 29).drew
      simp only [World.size_alloc] at HZ
      exact ⟨_, _, rfl, rfl, HZ.pick (.there .here)⟩
    · go_wp2_with fail
      go_meet
      have HZ := ((HS.box #[.slice A2 l2.length c2, .slice A3 l3.length c3] 29).box #[.slice A0 l0.length c0, .slice A1 l1.length c1] 29).drew
      simp only [World.size_alloc] at HZ
      exact ⟨_, _, rfl, rfl, HZ⟩
  case rest =>
    clear HS xa0 xa1 xa2 xa3 ya0 ya1 ya2 ya3 za0 za1 za2 za3 n1 n2 n3 n4 hg
    obtain ⟨p, q, rfl, rfl, HS⟩ := hcut
    obtain ⟨wa, rfl⟩ : ∃ x, x = wc := ⟨_, rfl⟩
    have q5 : wa.cell? ⟨g, 5, none⟩ = some (.slice F f.length fc) := HS.cell (List.mem_cons_of_mem _ (List.mem_cons_of_mem _ List.mem_cons_self)) 5 _ rfl
    go_wp2_with fail
    refine (slices_Contains_int64_int64.calls (Ev.num HHC1.out) F fc f a _ _ (HS.reads' (List.mem_cons_of_mem _ (List.mem_cons_of_mem _ (List.mem_cons_of_mem _ List.mem_cons_self)))).2.2 (HS.reads' (List.mem_cons_of_mem _ (List.mem_cons_of_mem _ (List.mem_cons_of_mem _ List.mem_cons_self)))).2.1 (Ev.is HHC1.out)).mono ?_
    rintro e w1 ⟨rfl, hb⟩
    clear q5
    replace HS := HS.step (by first | exact hb | exact hb.below)
    clear hb
    have q6 : w1.cell? ⟨g, 6, none⟩ = some (.slice (some ⟨bs_, 0, none⟩) s.length sc) := HS.cell (List.mem_cons_of_mem _ (List.mem_cons_of_mem _ List.mem_cons_self)) 6 _ rfl
    go_wp2_with fail
    refine (slices_Contains_int64_int64.calls (Ev.num HHC2.out) (some ⟨bs_, 0, none⟩) sc s a _ _ (HS.reads' (List.mem_cons_of_mem _ (List.mem_cons_of_mem _ (List.mem_cons_of_mem _ (List.mem_cons_of_mem _ List.mem_cons_self))))).2.2 (HS.reads' (List.mem_cons_of_mem _ (List.mem_cons_of_mem _ (List.mem_cons_of_mem _ (List.mem_cons_of_mem _ List.mem_cons_self))))).2.1 (Ev.is HHC2.out)).mono ?_
    rintro e w2 ⟨rfl, hb⟩
    clear q6
    replace HS := HS.step (by first | exact hb | exact hb.below)
    clear hb
    go_upto_if 51 with fail
    go_cut [] (fun wc => ∃ V2 vc2 vlo2 vhi2, Hold w0 wc ((boxT #[.slice A0 l0.length c0, .slice A1 l1.length c1] 29, p, p + 1) :: (boxT #[.slice A2 l2.length c2, .slice A3 l3.length c3] 29, q, q + 1) :: (boxT #[.slice A0 l0.length c0, .slice A1 l1.length c1, .slice A2 l2.length c2, .slice A3 l3.length c3, .int .i64 2, .slice F f.length fc, .slice (some ⟨bs_, 0, none⟩) s.length sc, .slice V2 (wh.length + 1) vc2, .int .i64 bk] 111, g, g1) :: (flat (Kd.int .i64) 2 (.slice F f.length fc) f, flo, fhi) :: (flat (Kd.int .i64) 2 (.slice (some ⟨bs_, 0, none⟩) s.length sc) s, slo, shi) :: (flat (Kd.int .i64) 2 (.slice V2 (wh.length + 1) vc2) ((wh ++ [(whV b2)])), vlo2, vhi2) :: R))
    case first =>
      cases b2
      · have q7 : w2.cell? ⟨g, 7, none⟩ = some (.slice V wh.length vc) := HS.cell (List.mem_cons_of_mem _ (List.mem_cons_of_mem _ List.mem_cons_self)) 7 _ rfl
        go_wp2_with ((with_reducible refine gate_builtin (b := .append) (xs := #[.tmp 65, .tmp 66]) rfl ?_); at_builtin; refine Hold.appendI HS rfl (.tmp 65) (.tmp 66) 24 2 rfl Try.underlying24 svInfo (.slice V wh.length vc) wh 3 rfl rfl (List.mem_cons_of_mem _ (List.mem_cons_of_mem _ (List.mem_cons_of_mem _ (List.mem_cons_of_mem _ (List.mem_cons_of_mem _ List.mem_cons_self))))) (by have := HHWH.out; omega) ?_; intro V2 vc2 vlo2 vhi2 w3 HQ; clear q7; replace HS := HQ _ (.there (.there (.there (.there (.there .here))))); clear HQ; have q7 : w3.cell? ⟨g, 7, none⟩ = some (.slice V wh.length vc) := HS.cell (List.mem_cons_of_mem _ (List.mem_cons_of_mem _ List.mem_cons_self)) 7 _ rfl; have fzq : ∀ j, w3.frozen? ⟨g, j, none⟩ = false := HS.thaw (List.mem_cons_of_mem _ (List.mem_cons_of_mem _ List.mem_cons_self)))
        clear fzq q7
        replace HS := HS.setBox 7 (.slice V2 (wh.length + 1) vc2) (.there (.there .here))
        simp only [List.setIfInBounds_toArray, List.set_cons_zero, List.set_cons_succ] at HS
        go_meet
        exact ⟨_, _, _, _, HS⟩
      · have q7 : w2.cell? ⟨g, 7, none⟩ = some (.slice V wh.length vc) := HS.cell (List.mem_cons_of_mem _ (List.mem_cons_of_mem _ List.mem_cons_self)) 7 _ rfl
        go_wp2_with ((with_reducible refine gate_builtin (b := .append) (xs := #[.tmp 56, .tmp 57]) rfl ?_); at_builtin; refine Hold.appendI HS rfl (.tmp 56) (.tmp 57) 24 2 rfl Try.underlying24 svInfo (.slice V wh.length vc) wh 2 rfl rfl (List.mem_cons_of_mem _ (List.mem_cons_of_mem _ (List.mem_cons_of_mem _ (List.mem_cons_of_mem _ (List.mem_cons_of_mem _ List.mem_cons_self))))) (by have := HHWH.out; omega) ?_; intro V2 vc2 vlo2 vhi2 w3 HQ; clear q7; replace HS := HQ _ (.there (.there (.there (.there (.there .here))))); clear HQ; have q7 : w3.cell? ⟨g, 7, none⟩ = some (.slice V wh.length vc) := HS.cell (List.mem_cons_of_mem _ (List.mem_cons_of_mem _ List.mem_cons_self)) 7 _ rfl; have fzq : ∀ j, w3.frozen? ⟨g, j, none⟩ = false := HS.thaw (List.mem_cons_of_mem _ (List.mem_cons_of_mem _ List.mem_cons_self)))
        clear fzq q7
        replace HS := HS.setBox 7 (.slice V2 (wh.length + 1) vc2) (.there (.there .here))
        simp only [List.setIfInBounds_toArray, List.set_cons_zero, List.set_cons_succ] at HS
        go_meet
        exact ⟨_, _, _, _, HS⟩
    case rest =>
      obtain ⟨V2, vc2, vlo2, vhi2, HS⟩ := hcut
      obtain ⟨wb, rfl⟩ : ∃ x, x = wc := ⟨_, rfl⟩
      have m4 : wb.cell? ⟨g, 4, none⟩ = some (.int .i64 2) := HS.cell (List.mem_cons_of_mem _ (List.mem_cons_of_mem _ List.mem_cons_self)) 4 _ rfl
      have q6 : wb.cell? ⟨g, 6, none⟩ = some (.slice (some ⟨bs_, 0, none⟩) s.length sc) := HS.cell (List.mem_cons_of_mem _ (List.mem_cons_of_mem _ List.mem_cons_self)) 6 _ rfl
      go_wp2_with fail
      refine (own_takeOut (l' := s') HS HHT.out (.there (.there (.there (.there .here)))) HP2.out (by have := HL2.out; omega)).mono ?_
      clear q6
      clear HS
      rintro e w4 ⟨rfl, HS⟩
      rw [← HL1.out] at HS
      clear m4
      go_wp2_with fail
      have HD := Hold.drew HS
      refine start_ (n := 16) (S := fun w' => w'.cell? ⟨p, 0, none⟩ = some (.slice A0 l0.length c0) ∧ w'.cell? ⟨p, 1, none⟩ = some (.slice A1 l1.length c1) ∧ w'.cell? ⟨g, 5, none⟩ = some (.slice F f.length fc)) (ds := [14]) #[false, false, false, false, false, false, false, false, false, false, false, false, false, false, false, false] (by kernel_rfl) rfl rfl ⟨(HD.cell List.mem_cons_self 0 _ rfl), (HD.cell List.mem_cons_self 1 _ rfl), (HD.cell (List.mem_cons_of_mem _ (List.mem_cons_of_mem _ List.mem_cons_self)) 5 _ rfl)⟩ (fun hHeld => ?_)
      generalize w4.drew = wd at HD hHeld ⊢
      refine pure_ (i := 0) (N := some 98) (v := ?_) (a' := ?_) #[true, false, false, false, false, false, false, false, false, false, false, false, false, false, false, false] rfl rfl (by kernel_rfl) (fun _ _ _ h => h) (Or.inl ⟨by rfl, ?_⟩) ?_ ?_
      rotate_left
      · intro w'
        go_simp
        with_reducible rfl
      rotate_left
      · simp only [Act.put, List.setIfInBounds_toArray, List.set_cons_zero, List.set_cons_succ, i64_w, i32_w]
        rfl
      refine pure_ (i := 2) (N := some 100) (v := ?_) (a' := ?_) #[true, false, true, false, false, false, false, false, false, false, false, false, false, false, false, false] rfl rfl (by kernel_rfl) (fun _ _ _ h => h) (Or.inl ⟨by rfl, ?_⟩) ?_ ?_
      rotate_left
      · intro w'
        go_simp
        with_reducible rfl
      rotate_left
      · simp only [Act.put, List.setIfInBounds_toArray, List.set_cons_zero, List.set_cons_succ, i64_w, i32_w]
        rfl
      refine pure_ (i := 3) (N := some 101) (v := ?_) (a' := ?_) #[true, false, true, true, false, false, false, false, false, false, false, false, false, false, false, false] rfl rfl (by kernel_rfl) (fun _ _ _ h => h) (Or.inl ⟨by rfl, ?_⟩) ?_ ?_
      rotate_left
      · intro w'
        go_simp
        with_reducible rfl
      rotate_left
      · simp only [Act.put, List.setIfInBounds_toArray, List.set_cons_zero, List.set_cons_succ, i64_w, i32_w]
        rfl
      refine pure_ (i := 4) (N := some 102) (v := ?_) (a' := ?_) #[true, false, true, true, true, false, false, false, false, false, false, false, false, false, false, false] rfl rfl (by kernel_rfl) (fun _ _ _ h => h) (Or.inl ⟨by rfl, ?_⟩) ?_ ?_
      rotate_left
      · intro w'
        go_simp
        with_reducible rfl
      rotate_left
      · simp only [Act.put, List.setIfInBounds_toArray, List.set_cons_zero, List.set_cons_succ, i64_w, i32_w]
        rfl
      refine pure_ (i := 6) (N := some 104) (v := ?_) (a' := ?_) #[true, false, true, true, true, false, true, false, false, false, false, false, false, false, false, false] rfl rfl (by kernel_rfl) (fun _ _ _ h => h) (Or.inl ⟨by rfl, ?_⟩) ?_ ?_
      rotate_left
      · intro w'
        go_simp
        with_reducible rfl
      rotate_left
      · simp only [Act.put, List.setIfInBounds_toArray, List.set_cons_zero, List.set_cons_succ, i64_w, i32_w]
        rfl
      refine take_ (i := 1) (N := some 99) (v := ?_) (a' := ?_) #[true, true, true, true, true, false, true, false, false, false, false, false, false, false, false, false] rfl rfl (by kernel_rfl) (fun _ _ _ h => h) (Or.inl ⟨by rfl, ?_⟩) hHeld ?_ ?_
      rotate_left
      · rintro w' ⟨s0, s1, s2⟩
        go_simp
        with_reducible rfl
      rotate_left
      · simp only [Act.put, List.setIfInBounds_toArray, List.set_cons_zero, List.set_cons_succ, i64_w, i32_w]
        rfl
      refine take_ (i := 5) (N := some 103) (v := ?_) (a' := ?_) #[true, true, true, true, true, true, true, false, false, false, false, false, false, false, false, false] rfl rfl (by kernel_rfl) (fun _ _ _ h => h) (Or.inl ⟨by rfl, ?_⟩) hHeld ?_ ?_
      rotate_left
      · rintro w' ⟨s0, s1, s2⟩
        go_simp
        with_reducible rfl
      rotate_left
      · simp only [Act.put, List.setIfInBounds_toArray, List.set_cons_zero, List.set_cons_succ, i64_w, i32_w]
        rfl
      refine one_ (i := 7) (N := some 105) #[true, true, true, true, true, true, true, true, false, false, false, false, false, false, false, false] rfl rfl (by kernel_rfl) (by decide) (fun K hK => ?_)
      refine goes_ Try.func83 (by kernel_rfl) rfl #[.agg #[.slice A0 l0.length c0, .slice A1 l1.length c1], .slice F f.length fc, .int .i64 a] (by rfl) rfl rfl (by simp only [List.map_toArray, List.map_cons, List.map_nil]; rfl) ?_
      with_reducible refine (impl_Policy_step.calls (Ev.num HE1.out) A0 c0 l0 A1 c1 l1 F fc f a _ _ _ _ (HR0.out.at HD (fun _ hx_ => (List.mem_cons_of_mem _ (List.mem_cons_of_mem _ (List.mem_cons_of_mem _ (List.mem_cons_of_mem _ (List.mem_cons_of_mem _ (List.mem_cons_of_mem _ hx_)))))))) HQ0.out (HR1.out.at HD (fun _ hx_ => (List.mem_cons_of_mem _ (List.mem_cons_of_mem _ (List.mem_cons_of_mem _ (List.mem_cons_of_mem _ (List.mem_cons_of_mem _ (List.mem_cons_of_mem _ hx_)))))))) HQ1.out (HD.reads' (List.mem_cons_of_mem _ (List.mem_cons_of_mem _ (List.mem_cons_of_mem _ List.mem_cons_self)))).2.2 (HD.reads' (List.mem_cons_of_mem _ (List.mem_cons_of_mem _ (List.mem_cons_of_mem _ List.mem_cons_self)))).2.1 (Ev.is HE1.out)).mono ?_
      rintro e w5 ⟨v_, rfl, hr, hb⟩
      refine ⟨_, rfl, ?_⟩
      obtain ⟨B3, bc3, rfl⟩ := Kd.R_slice hr
      replace HD := HD.made hb hr
      clear hb hr
      have s0_ : w5.cell? ⟨p, 0, none⟩ = some (.slice A0 l0.length c0) := HD.cell (List.mem_cons_of_mem _ List.mem_cons_self) 0 _ rfl
      have s1_ : w5.cell? ⟨p, 1, none⟩ = some (.slice A1 l1.length c1) := HD.cell (List.mem_cons_of_mem _ List.mem_cons_self) 1 _ rfl
      have s2_ : w5.cell? ⟨g, 5, none⟩ = some (.slice F f.length fc) := HD.cell (List.mem_cons_of_mem _ (List.mem_cons_of_mem _ (List.mem_cons_of_mem _ List.mem_cons_self))) 5 _ rfl
      have fz_ : ∀ j, w5.frozen? ⟨g, j, none⟩ = false := HD.thaw (List.mem_cons_of_mem _ (List.mem_cons_of_mem _ (List.mem_cons_of_mem _ List.mem_cons_self)))
      refine hK.out _ _ ⟨s0_, s1_, s2_⟩ (fun hHeld => ?_)
      clear hK K
      refine norm_ (a' := ?_) ?_ ?_
      rotate_left
      · show Act.put _ (some 105) _ = _
        simp only [Act.put, List.setIfInBounds_toArray, List.set_cons_zero, List.set_cons_succ, i64_w, i32_w]
        rfl
      refine pure_ (i := 8) (N := some 97) (v := ?_) (a' := ?_) #[true, true, true, true, true, true, true, true, true, false, false, false, false, false, false, false] rfl rfl (by kernel_rfl) (fun _ _ _ h => h) (Or.inl ⟨by rfl, ?_⟩) ?_ ?_
      rotate_left
      · intro w'
        go_simp
        with_reducible rfl
      rotate_left
      · simp only [Act.put, List.setIfInBounds_toArray, List.set_cons_zero, List.set_cons_succ, i64_w, i32_w]
        rfl
      refine pure_ (i := 9) (N := some 106) (v := ?_) (a' := ?_) #[true, true, true, true, true, true, true, true, true, true, false, false, false, false, false, false] rfl rfl (by kernel_rfl) (fun _ _ _ h => h) (Or.inl ⟨by rfl, ?_⟩) ?_ ?_
      rotate_left
      · intro w'
        go_simp
        with_reducible rfl
      rotate_left
      · simp only [Act.put, List.setIfInBounds_toArray, List.set_cons_zero, List.set_cons_succ, i64_w, i32_w]
        rfl
      refine pure_ (i := 10) (N := some 107) (v := ?_) (a' := ?_) #[true, true, true, true, true, true, true, true, true, true, true, false, false, false, false, false] rfl rfl (by kernel_rfl) (fun _ _ _ h => h) (Or.inl ⟨by rfl, ?_⟩) ?_ ?_
      rotate_left
      · intro w'
        go_simp
        with_reducible rfl
      rotate_left
      · simp only [Act.put, List.setIfInBounds_toArray, List.set_cons_zero, List.set_cons_succ, i64_w, i32_w]
        rfl
      refine pure_ (i := 11) (N := some 108) (v := ?_) (a' := ?_) #[true, true, true, true, true, true, true, true, true, true, true, true, false, false, false, false] rfl rfl (by kernel_rfl) (fun _ _ _ h => h) (Or.inl ⟨by rfl, ?_⟩) ?_ ?_
      rotate_left
      · intro w'
        go_simp
        with_reducible rfl
      rotate_left
      · simp only [Act.put, List.setIfInBounds_toArray, List.set_cons_zero, List.set_cons_succ, i64_w, i32_w]
        rfl
      refine pure_ (i := 12) (N := some 109) (v := ?_) (a' := ?_) #[true, true, true, true, true, true, true, true, true, true, true, true, true, false, false, false] rfl rfl (by kernel_rfl) (fun _ _ _ h => h) (Or.inl ⟨by rfl, ?_⟩) ?_ ?_
      rotate_left
      · intro w'
        go_simp
        with_reducible rfl
      rotate_left
      · simp only [Act.put, List.setIfInBounds_toArray, List.set_cons_zero, List.set_cons_succ, i64_w, i32_w]
        rfl
      refine pure_ (i := 13) (N := some 110) (v := ?_) (a' := ?_) #[true, true, true, true, true, true, true, true, true, true, true, true, true, true, false, false] rfl rfl (by kernel_rfl) (fun _ _ _ h => h) (Or.inl ⟨by rfl, ?_⟩) ?_ ?_
      rotate_left
      · intro w'
        go_simp
        with_reducible rfl
      rotate_left
      · simp only [Act.put, List.setIfInBounds_toArray, List.set_cons_zero, List.set_cons_succ, i64_w, i32_w]
        rfl
      refine last_ (i := 14) (N := none) #[true, true, true, true, true, true, true, true, true, true, true, true, true, true, true, false] rfl rfl (by kernel_rfl) (by decide) (fun K hK => ?_)
      refine skip_ (w1 := ?_) (by rfl) rfl ?_ ?_
      rotate_left
      · go_simp
        rfl
      refine hK.out _ _ ?_
      clear hK K
      refine pure_ (i := 15) (N := some 6) (v := ?_) (a' := ?_) #[true, true, true, true, true, true, true, true, true, true, true, true, true, true, true, true] rfl rfl (by kernel_rfl) (fun _ _ _ h => h) (Or.inl ⟨by rfl, ?_⟩) ?_ ?_
      rotate_left
      · intro w'
        go_simp
        with_reducible rfl
      rotate_left
      · simp only [Act.put, List.setIfInBounds_toArray, List.set_cons_zero, List.set_cons_succ, i64_w, i32_w]
        rfl
      refine done_ (by kernel_rfl) ?_
      clear hHeld s0_ s1_ s2_ fz_
      replace HS := HD
      clear HD
      replace HS := HS.setBox 5 (.slice B3 (x1).length bc3) (.there (.there (.there .here)))
      simp only [List.setIfInBounds_toArray, List.set_cons_zero, List.set_cons_succ] at HS
      generalize w5.setCell ⟨g, 5, none⟩ (.slice B3 (x1).length bc3) = w5b at HS ⊢
      replace HS := HS.pick (.there (.there (.there (.there .here))))
      replace HS := HS.tail
      go_wp2_with fail
      have HD := Hold.drew HS
      refine start_ (n := 15) (S := fun w' => w'.cell? ⟨q, 0, none⟩ = some (.slice A2 l2.length c2) ∧ w'.cell? ⟨q, 1, none⟩ = some (.slice A3 l3.length c3) ∧ w'.cell? ⟨g, 6, none⟩ = some (.slice (some ⟨bs_, 0, none⟩) s'.length sc)) (ds := [14]) #[false, false, false, false, false, false, false, false, false, false, false, false, false, false, false] (by kernel_rfl) rfl rfl ⟨(HD.cell (List.mem_cons_of_mem _ (List.mem_cons_of_mem _ List.mem_cons_self)) 0 _ rfl), (HD.cell (List.mem_cons_of_mem _ (List.mem_cons_of_mem _ List.mem_cons_self)) 1 _ rfl), (HD.cell (List.mem_cons_of_mem _ (List.mem_cons_of_mem _ (List.mem_cons_of_mem _ List.mem_cons_self))) 6 _ rfl)⟩ (fun hHeld => ?_)
      generalize w5b.drew = wd at HD hHeld ⊢
      refine pure_ (i := 0) (N := some 114) (v := ?_) (a' := ?_) #[true, false, false, false, false, false, false, false, false, false, false, false, false, false, false] rfl rfl (by kernel_rfl) (fun _ _ _ h => h) (Or.inl ⟨by rfl, ?_⟩) ?_ ?_
      rotate_left
      · intro w'
        go_simp
        with_reducible rfl
      rotate_left
      · simp only [Act.put, List.setIfInBounds_toArray, List.set_cons_zero, List.set_cons_succ, i64_w, i32_w]
        rfl
      refine pure_ (i := 2) (N := some 116) (v := ?_) (a' := ?_) #[true, false, true, false, false, false, false, false, false, false, false, false, false, false, false] rfl rfl (by kernel_rfl) (fun _ _ _ h => h) (Or.inl ⟨by rfl, ?_⟩) ?_ ?_
      rotate_left
      · intro w'
        go_simp
        with_reducible rfl
      rotate_left
      · simp only [Act.put, List.setIfInBounds_toArray, List.set_cons_zero, List.set_cons_succ, i64_w, i32_w]
        rfl
      refine pure_ (i := 3) (N := some 117) (v := ?_) (a' := ?_) #[true, false, true, true, false, false, false, false, false, false, false, false, false, false, false] rfl rfl (by kernel_rfl) (fun _ _ _ h => h) (Or.inl ⟨by rfl, ?_⟩) ?_ ?_
      rotate_left
      · intro w'
        go_simp
        with_reducible rfl
      rotate_left
      · simp only [Act.put, List.setIfInBounds_toArray, List.set_cons_zero, List.set_cons_succ, i64_w, i32_w]
        rfl
      refine pure_ (i := 4) (N := some 118) (v := ?_) (a' := ?_) #[true, false, true, true, true, false, false, false, false, false, false, false, false, false, false] rfl rfl (by kernel_rfl) (fun _ _ _ h => h) (Or.inl ⟨by rfl, ?_⟩) ?_ ?_
      rotate_left
      · intro w'
        go_simp
        with_reducible rfl
      rotate_left
      · simp only [Act.put, List.setIfInBounds_toArray, List.set_cons_zero, List.set_cons_succ, i64_w, i32_w]
        rfl
      refine pure_ (i := 6) (N := some 120) (v := ?_) (a' := ?_) #[true, false, true, true, true, false, true, false, false, false, false, false, false, false, false] rfl rfl (by kernel_rfl) (fun _ _ _ h => h) (Or.inl ⟨by rfl, ?_⟩) ?_ ?_
      rotate_left
      · intro w'
        go_simp
        with_reducible rfl
      rotate_left
      · simp only [Act.put, List.setIfInBounds_toArray, List.set_cons_zero, List.set_cons_succ, i64_w, i32_w]
        rfl
      refine take_ (i := 1) (N := some 115) (v := ?_) (a' := ?_) #[true, true, true, true, true, false, true, false, false, false, false, false, false, false, false] rfl rfl (by kernel_rfl) (fun _ _ _ h => h) (Or.inl ⟨by rfl, ?_⟩) hHeld ?_ ?_
      rotate_left
      · rintro w' ⟨s0, s1, s2⟩
        go_simp
        with_reducible rfl
      rotate_left
      · simp only [Act.put, List.setIfInBounds_toArray, List.set_cons_zero, List.set_cons_succ, i64_w, i32_w]
        rfl
      refine take_ (i := 5) (N := some 119) (v := ?_) (a' := ?_) #[true, true, true, true, true, true, true, false, false, false, false, false, false, false, false] rfl rfl (by kernel_rfl) (fun _ _ _ h => h) (Or.inl ⟨by rfl, ?_⟩) hHeld ?_ ?_
      rotate_left
      · rintro w' ⟨s0, s1, s2⟩
        go_simp
        with_reducible rfl
      rotate_left
      · simp only [Act.put, List.setIfInBounds_toArray, List.set_cons_zero, List.set_cons_succ, i64_w, i32_w]
        rfl
      refine one_ (i := 7) (N := some 121) #[true, true, true, true, true, true, true, true, false, false, false, false, false, false, false] rfl rfl (by kernel_rfl) (by decide) (fun K hK => ?_)
      refine goes_ Try.func83 (by kernel_rfl) rfl #[.agg #[.slice A2 l2.length c2, .slice A3 l3.length c3], .slice (some ⟨bs_, 0, none⟩) s'.length sc, .int .i64 o1] (by rfl) rfl rfl (by simp only [List.map_toArray, List.map_cons, List.map_nil]; rfl) ?_
      with_reducible refine (impl_Policy_step.calls (Ev.num HE2.out) A2 c2 l2 A3 c3 l3 (some ⟨bs_, 0, none⟩) sc (s') o1 _ _ _ _ (HR2.out.at HD (fun _ hx_ => (List.mem_cons_of_mem _ (List.mem_cons_of_mem _ (List.mem_cons_of_mem _ (List.mem_cons_of_mem _ (List.mem_cons_of_mem _ (List.mem_cons_of_mem _ hx_)))))))) HQ2.out (HR3.out.at HD (fun _ hx_ => (List.mem_cons_of_mem _ (List.mem_cons_of_mem _ (List.mem_cons_of_mem _ (List.mem_cons_of_mem _ (List.mem_cons_of_mem _ (List.mem_cons_of_mem _ hx_)))))))) HQ3.out (HD.reads' (List.mem_cons_of_mem _ (List.mem_cons_of_mem _ (List.mem_cons_of_mem _ (List.mem_cons_of_mem _ List.mem_cons_self))))).2.2 (HD.reads' (List.mem_cons_of_mem _ (List.mem_cons_of_mem _ (List.mem_cons_of_mem _ (List.mem_cons_of_mem _ List.mem_cons_self))))).2.1 (Ev.is HE2.out)).mono ?_
      rintro e w6 ⟨v_, rfl, hr, hb⟩
      refine ⟨_, rfl, ?_⟩
      obtain ⟨B4, bc4, rfl⟩ := Kd.R_slice hr
      replace HD := HD.made hb hr
      clear hb hr
      have s0_ : w6.cell? ⟨q, 0, none⟩ = some (.slice A2 l2.length c2) := HD.cell (List.mem_cons_of_mem _ (List.mem_cons_of_mem _ (List.mem_cons_of_mem _ List.mem_cons_self))) 0 _ rfl
      have s1_ : w6.cell? ⟨q, 1, none⟩ = some (.slice A3 l3.length c3) := HD.cell (List.mem_cons_of_mem _ (List.mem_cons_of_mem _ (List.mem_cons_of_mem _ List.mem_cons_self))) 1 _ rfl
      have s2_ : w6.cell? ⟨g, 6, none⟩ = some (.slice (some ⟨bs_, 0, none⟩) s'.length sc) := HD.cell (List.mem_cons_of_mem _ (List.mem_cons_of_mem _ (List.mem_cons_of_mem _ (List.mem_cons_of_mem _ List.mem_cons_self)))) 6 _ rfl
      have fz_ : ∀ j, w6.frozen? ⟨g, j, none⟩ = false := HD.thaw (List.mem_cons_of_mem _ (List.mem_cons_of_mem _ (List.mem_cons_of_mem _ (List.mem_cons_of_mem _ List.mem_cons_self))))
      refine hK.out _ _ ⟨s0_, s1_, s2_⟩ (fun hHeld => ?_)
      clear hK K
      refine norm_ (a' := ?_) ?_ ?_
      rotate_left
      · show Act.put _ (some 121) _ = _
        simp only [Act.put, List.setIfInBounds_toArray, List.set_cons_zero, List.set_cons_succ, i64_w, i32_w]
        rfl
      refine pure_ (i := 8) (N := some 113) (v := ?_) (a' := ?_) #[true, true, true, true, true, true, true, true, true, false, false, false, false, false, false] rfl rfl (by kernel_rfl) (fun _ _ _ h => h) (Or.inl ⟨by rfl, ?_⟩) ?_ ?_
      rotate_left
      · intro w'
        go_simp
        with_reducible rfl
      rotate_left
      · simp only [Act.put, List.setIfInBounds_toArray, List.set_cons_zero, List.set_cons_succ, i64_w, i32_w]
        rfl
      refine pure_ (i := 9) (N := some 122) (v := ?_) (a' := ?_) #[true, true, true, true, true, true, true, true, true, true, false, false, false, false, false] rfl rfl (by kernel_rfl) (fun _ _ _ h => h) (Or.inl ⟨by rfl, ?_⟩) ?_ ?_
      rotate_left
      · intro w'
        go_simp
        with_reducible rfl
      rotate_left
      · simp only [Act.put, List.setIfInBounds_toArray, List.set_cons_zero, List.set_cons_succ, i64_w, i32_w]
        rfl
      refine pure_ (i := 10) (N := some 123) (v := ?_) (a' := ?_) #[true, true, true, true, true, true, true, true, true, true, true, false, false, false, false] rfl rfl (by kernel_rfl) (fun _ _ _ h => h) (Or.inl ⟨by rfl, ?_⟩) ?_ ?_
      rotate_left
      · intro w'
        go_simp
        with_reducible rfl
      rotate_left
      · simp only [Act.put, List.setIfInBounds_toArray, List.set_cons_zero, List.set_cons_succ, i64_w, i32_w]
        rfl
      refine pure_ (i := 11) (N := some 124) (v := ?_) (a' := ?_) #[true, true, true, true, true, true, true, true, true, true, true, true, false, false, false] rfl rfl (by kernel_rfl) (fun _ _ _ h => h) (Or.inl ⟨by rfl, ?_⟩) ?_ ?_
      rotate_left
      · intro w'
        go_simp
        with_reducible rfl
      rotate_left
      · simp only [Act.put, List.setIfInBounds_toArray, List.set_cons_zero, List.set_cons_succ, i64_w, i32_w]
        rfl
      refine pure_ (i := 12) (N := some 125) (v := ?_) (a' := ?_) #[true, true, true, true, true, true, true, true, true, true, true, true, true, false, false] rfl rfl (by kernel_rfl) (fun _ _ _ h => h) (Or.inl ⟨by rfl, ?_⟩) ?_ ?_
      rotate_left
      · intro w'
        go_simp
        with_reducible rfl
      rotate_left
      · simp only [Act.put, List.setIfInBounds_toArray, List.set_cons_zero, List.set_cons_succ, i64_w, i32_w]
        rfl
      refine pure_ (i := 13) (N := some 126) (v := ?_) (a' := ?_) #[true, true, true, true, true, true, true, true, true, true, true, true, true, true, false] rfl rfl (by kernel_rfl) (fun _ _ _ h => h) (Or.inl ⟨by rfl, ?_⟩) ?_ ?_
      rotate_left
      · intro w'
        go_simp
        with_reducible rfl
      rotate_left
      · simp only [Act.put, List.setIfInBounds_toArray, List.set_cons_zero, List.set_cons_succ, i64_w, i32_w]
        rfl
      refine last_ (i := 14) (N := none) #[true, true, true, true, true, true, true, true, true, true, true, true, true, true, true] rfl rfl (by kernel_rfl) (by decide) (fun K hK => ?_)
      refine skip_ (w1 := ?_) (by rfl) rfl ?_ ?_
      rotate_left
      · go_simp
        rfl
      refine hK.out _ _ ?_
      clear hK K
      refine done_ (by kernel_rfl) ?_
      clear hHeld s0_ s1_ s2_ fz_
      replace HS := HD
      clear HD
      replace HS := HS.setBox 6 (.slice B4 (x2).length bc4) (.there (.there (.there (.there .here))))
      simp only [List.setIfInBounds_toArray, List.set_cons_zero, List.set_cons_succ] at HS
      generalize w6.setCell ⟨g, 6, none⟩ (.slice B4 (x2).length bc4) = w6b at HS ⊢
      replace HS := HS.pick (.there (.there (.there (.there (.there .here)))))
      replace HS := HS.tail
      go_wp2_with fail
      (try simp only [Exit.inBlock, Exit.then]); first | refine bodyPost_ret (results_none rfl _ _ _) rfl ?_ | refine bodyPost_end (results_none rfl _ _ _) rfl ?_
      replace HS := HS.pick (.there (.there .here))
      replace HS := HS.tail
      replace HS := HS.pick (.there (.there .here))
      replace HS := HS.tail
      replace HS := HS.pick (.there (.there (.there .here)))
      replace HS := HS.pick (.there .here)
      replace HS := HS.pick (.there (.there .here))
      replace HS := HS.pick (.there (.there (.there .here)))
      exact ⟨rfl, _, _, _, _, _, _, _, _, _, _, _, _, HS⟩
theorem xContains_ev (l : List Int) (x : Int) (h : l.length ≤ 1048576) : Ev (fun k => slices_Contains_int64_int64.f k l x) (hasB l x) := by
  unfold slices_Contains_int64_int64.f
  refine Ev.bind (xInIdx_ev l x h) (Ev.some ?_)
  exact xIdx_nonneg _ l 0 (Int.le_refl _)
/-- One use of two levels. -/
def useV (h1 : List (List Int)) (m1 : List Int) (h2 : List (List Int)) (m2 : List Int) (md x : Int) (wh f s : List Int) (b : Int) : List Int × List Int × List Int × Int :=
  if hasB f x = true then (wh ++ [1], (stepV h1 m1 f x).1, s, b)
  else if md = 2 then (wh ++ [whV (hasB s x)], (stepV h1 m1 f x).1, if f.getD (f.length - 1) 0 ≥ 0 then (stepV h2 m2 (takeV s x).1 (f.getD (f.length - 1) 0)).1 else (takeV s x).1, b)
  else if md = 1 ∧ (stepV h2 m2 s x).2 = false then (wh ++ [whV (hasB s x)], (stepV h1 m1 (takeV f (s.getD (s.length - 1) 0)).1 x).1, (stepV h2 m2 s x).1, if (takeV f (s.getD (s.length - 1) 0)).2 = true then b + 1 else b)
  else (wh ++ [whV (hasB s x)], (stepV h1 m1 f x).1, (stepV h2 m2 s x).1, b)
theorem stackV_cons (h1 : List (List Int)) (m1 : List Int) (h2 : List (List Int)) (m2 : List Int) (md x : Int) (xs wh f s : List Int) (b : Int) :
    stackV h1 m1 h2 m2 md (x :: xs) wh f s b = stackV h1 m1 h2 m2 md xs (useV h1 m1 h2 m2 md x wh f s b).1 (useV h1 m1 h2 m2 md x wh f s b).2.1 (useV h1 m1 h2 m2 md x wh f s b).2.2.1 (useV h1 m1 h2 m2 md x wh f s b).2.2.2 := by
  rw [stackV]
  unfold useV whV
  split
  · rfl
  · split
    · rfl
    · split <;> rfl
/-- A run of two levels lies at g: its variable, and the three rows it leads to. -/
def LevAt (w0 W : World) (R : List (Thing × Nat × Nat)) (g g1 : Nat) (A0 A1 A2 A3 : Option Addr) (c0 c1 c2 c3 : Nat) (l0 : List (List Int)) (l1 : List Int) (l2 : List (List Int)) (l3 : List Int) (md : Int) (st : List Int × List Int × List Int × Int) : Prop :=
  ∃ F fc flo fhi S sc slo shi V vc vlo vhi, Hold w0 W ((boxT #[.slice A0 l0.length c0, .slice A1 l1.length c1, .slice A2 l2.length c2, .slice A3 l3.length c3, .int .i64 md, .slice F st.2.1.length fc, .slice S st.2.2.1.length sc, .slice V st.1.length vc, .int .i64 st.2.2.2] 111, g, g1) :: (flat (Kd.int .i64) 2 (.slice F st.2.1.length fc) st.2.1, flo, fhi) :: (flat (Kd.int .i64) 2 (.slice S st.2.2.1.length sc) st.2.2.1, slo, shi) :: (flat (Kd.int .i64) 2 (.slice V st.1.length vc) st.1, vlo, vhi) :: R)
theorem miss_age {c : List Int} {a : Int} (h : hasB c a = false) : ageOf c a < 0 := by
  have h1 := xIdx_nonneg (fun y => decide (y = a)) c 0 (Int.le_refl _)
  have h2 : (c.any fun y => decide (y = a)) = false := h
  rw [h2] at h1
  have h3 : ¬ (xIdx (fun y => decide (y = a)) c 0 ≥ 0) := of_decide_eq_false h1
  show xIdx (fun y => decide (y = a)) c 0 < 0
  omega
theorem gone_miss {c : List Int} {a : Int} (h : hasB c a = false) : goneV c a = c.getD (c.length - 1) 0 := by
  have := miss_age h
  unfold goneV
  rw [if_neg (by omega)]
theorem step_miss {h : List (List Int)} {m c : List Int} {a : Int} (hm : hasB c a = false) : (stepV h m c a).2 = false := by
  have := miss_age hm
  unfold stepV
  exact decide_eq_false (by omega)
theorem hit_age {c : List Int} {a : Int} (h : hasB c a = true) : 0 ≤ ageOf c a := by
  have h1 := xIdx_nonneg (fun y => decide (y = a)) c 0 (Int.le_refl _)
  have h2 : (c.any fun y => decide (y = a)) = true := h
  rw [h2] at h1
  exact of_decide_eq_true h1
theorem step_hit {h : List (List Int)} {m c : List Int} {a : Int} (hm : hasB c a = true) : (stepV h m c a).2 = true := by
  have := hit_age hm
  unfold stepV
  exact decide_eq_true (by omega)
theorem gone_hit {c : List Int} {a : Int} (h : hasB c a = true) : goneV c a = -1 := by
  have := hit_age h
  unfold goneV
  rw [if_pos (by omega)]
theorem takeV_none (l : List Int) : takeV l (-1) = (l, false) := by
  unfold takeV
  rw [if_pos (by decide)]
theorem use_calls {w0 w : World} {R : List (Thing × Nat × Nat)} {A0 A1 A2 A3 : Option Addr} {c0 c1 c2 c3 : Nat} {l0 : List (List Int)} {l1 : List Int} {l2 : List (List Int)} {l3 : List Int} {g g1 : Nat} {md b : Int} {wh f s : List Int} (a : Int)
    (h : LevAt w0 w R g g1 A0 A1 A2 A3 c0 c1 c2 c3 l0 l1 l2 l3 md (wh, f, s, b))
    (r0 : Rd w0 R (Kd.slice 2 (Kd.int .i64)) A0 l0) (r1 : Rd w0 R (Kd.int .i64) A1 l1) (r2 : Rd w0 R (Kd.slice 2 (Kd.int .i64)) A2 l2) (r3 : Rd w0 R (Kd.int .i64) A3 l3) (q0 : l0.length ≤ c0) (q1 : l1.length ≤ c1) (q2 : l2.length ≤ c2) (q3 : l3.length ≤ c3)
    (hv1 : validB l0 l1 = true) (hv2 : validB l2 l3 = true) (hf : f.length = l1.length) (hs : s.length = l3.length) (hwh : wh.length ≤ 1000) (hb0 : 0 ≤ b) (hb1 : b ≤ 1000) (hm : md = 0 ∨ md = 1 ∨ md = 2) :
    Calls Try.prog 104 #[.pointer (some ⟨g, 0, none⟩), .int .i64 a] w fun e w' => e = .returned (.tuple #[]) ∧ LevAt w0 w' R g g1 A0 A1 A2 A3 c0 c1 c2 c3 l0 l1 l2 l3 md (useV l0 l1 l2 l3 md a wh f s b) := by
  obtain ⟨F, fc, flo, fhi, S, sc, slo, shi, V, vc, vlo, vhi, HS⟩ := h
  simp only at HS
  obtain ⟨p1, p6, _⟩ := valid_facts hv1
  obtain ⟨s1, s6, _⟩ := valid_facts hv2
  have hc1 := xContains_ev f a (by omega)
  have hc2 := xContains_ev s a (by omega)
  cases hh : hasB f a with
  | true =>
    rw [hh] at hc1
    refine (use_hit HS r0 r1 r2 r3 q0 q1 q2 q3 hwh hc1 (implStepG_ev hv1 f hf a)).mono ?_
    rintro e w' ⟨rfl, F', fc', flo', fhi', S', sc', slo', shi', V', vc', vlo', vhi', H⟩
    have e : useV l0 l1 l2 l3 md a wh f s b = (wh ++ [1], (stepV l0 l1 f a).1, s, b) := by unfold useV; rw [if_pos hh]
    rw [e]
    exact ⟨rfl, F', fc', flo', fhi', S', sc', slo', shi', V', vc', vlo', vhi', by simpa only [List.length_append, List.length_singleton] using H⟩
  | false =>
    rw [hh] at hc1
    have hn : ¬ hasB f a = true := by rw [hh]; decide
    rcases hm with rfl | rfl | rfl
    · refine (use_0 HS r0 r1 r2 r3 q0 q1 q2 q3 hwh hc1 hc2 (implStepG_ev hv2 s hs a) (implStepG_ev hv1 f hf a)).mono ?_
      rintro e w' ⟨rfl, F', fc', flo', fhi', S', sc', slo', shi', V', vc', vlo', vhi', H⟩
      have e : useV l0 l1 l2 l3 0 a wh f s b = (wh ++ [whV (hasB s a)], (stepV l0 l1 f a).1, (stepV l2 l3 s a).1, b) := by unfold useV; rw [if_neg hn, if_neg (by decide), if_neg (by omega)]
      rw [e]
      exact ⟨rfl, F', fc', flo', fhi', S', sc', slo', shi', V', vc', vlo', vhi', by simpa only [List.length_append, List.length_singleton] using H⟩
    · have hT := takeV_length f (goneV s a)
      obtain ⟨f', t, ht⟩ : ∃ f' t, takeV f (goneV s a) = (f', t) := ⟨_, _, rfl⟩
      rw [ht] at hT
      have e : useV l0 l1 l2 l3 1 a wh f s b = (wh ++ [whV (hasB s a)], (stepV l0 l1 f' a).1, (stepV l2 l3 s a).1, if t = true then b + 1 else b) := by
        unfold useV
        rw [if_neg hn, if_neg (by decide)]
        cases h2 : hasB s a with
        | true =>
          rw [gone_hit h2, takeV_none] at ht
          cases ht
          rw [if_neg (by rw [step_hit h2]; simp), if_neg (by decide)]
        | false =>
          rw [gone_miss h2] at ht
          rw [if_pos ⟨rfl, step_miss h2⟩, ht]
      rw [e]
      cases t with
      | true =>
        rw [if_pos rfl]
        refine (use_1t HS r0 r1 r2 r3 q0 q1 q2 q3 hwh hc1 hc2 (implStepG_ev hv2 s hs a) ht (by omega) ⟨hT, by omega⟩ (implStepG_ev hv1 f' (by rw [← hf]; exact hT) a) hb0 hb1).mono ?_
        rintro e w' ⟨rfl, F', fc', flo', fhi', S', sc', slo', shi', V', vc', vlo', vhi', H⟩
        exact ⟨rfl, F', fc', flo', fhi', S', sc', slo', shi', V', vc', vlo', vhi', by simpa only [List.length_append, List.length_singleton] using H⟩
      | false =>
        rw [if_neg (show ¬ (false = true) by decide)]
        refine (use_1 HS r0 r1 r2 r3 q0 q1 q2 q3 hwh hc1 hc2 (implStepG_ev hv2 s hs a) ht (by omega) ⟨hT, by omega⟩ (implStepG_ev hv1 f' (by rw [← hf]; exact hT) a) hb0 hb1).mono ?_
        rintro e w' ⟨rfl, F', fc', flo', fhi', S', sc', slo', shi', V', vc', vlo', vhi', H⟩
        exact ⟨rfl, F', fc', flo', fhi', S', sc', slo', shi', V', vc', vlo', vhi', by simpa only [List.length_append, List.length_singleton] using H⟩
    · have hT := takeV_length s a
      obtain ⟨s', t, ht⟩ : ∃ s' t, takeV s a = (s', t) := ⟨_, _, rfl⟩
      have hst : (takeV s a).1 = s' := by rw [ht]
      rw [ht] at hT
      have hg := gone_miss hh
      have e : useV l0 l1 l2 l3 2 a wh f s b = (wh ++ [whV (hasB s a)], (stepV l0 l1 f a).1, if goneV f a ≥ 0 then (stepV l2 l3 s' (goneV f a)).1 else s', b) := by
        unfold useV
        rw [if_neg hn, if_pos rfl, hst, hg]
      rw [e]
      by_cases ho : 0 ≤ goneV f a
      · rw [if_pos ho]
        refine (use_2t HS r0 r1 r2 r3 q0 q1 q2 q3 hwh hc1 hc2 ht (by omega) ⟨hT, by omega⟩ (implStepG_ev hv1 f hf a) ho (implStepG_ev hv2 s' (by rw [← hs]; exact hT) (goneV f a))).mono ?_
        rintro e w' ⟨rfl, F', fc', flo', fhi', S', sc', slo', shi', V', vc', vlo', vhi', H⟩
        exact ⟨rfl, F', fc', flo', fhi', S', sc', slo', shi', V', vc', vlo', vhi', by simpa only [List.length_append, List.length_singleton] using H⟩
      · rw [if_neg ho]
        refine (use_2 HS r0 r1 r2 r3 q0 q1 q2 q3 hwh hc1 hc2 ht (by omega) ⟨hT, by omega⟩ (implStepG_ev hv1 f hf a) (by omega)).mono ?_
        rintro e w' ⟨rfl, F', fc', flo', fhi', S', sc', slo', shi', V', vc', vlo', vhi', H⟩
        exact ⟨rfl, F', fc', flo', fhi', S', sc', slo', shi', V', vc', vlo', vhi', by simpa only [List.length_append, List.length_singleton] using H⟩
theorem useV_inv {h1 h2 : List (List Int)} {m1 m2 f s : List Int} {md : Int} (hv1 : validB h1 m1 = true) (hv2 : validB h2 m2 = true) (hf : f.length = m1.length) (hs : s.length = m2.length) (x : Int) (wh : List Int) (b : Int) :
    (useV h1 m1 h2 m2 md x wh f s b).1.length = wh.length + 1 ∧ (useV h1 m1 h2 m2 md x wh f s b).2.1.length = m1.length ∧ (useV h1 m1 h2 m2 md x wh f s b).2.2.1.length = m2.length ∧ b ≤ (useV h1 m1 h2 m2 md x wh f s b).2.2.2 ∧ (useV h1 m1 h2 m2 md x wh f s b).2.2.2 ≤ b + 1 := by
  unfold useV
  split
  · exact ⟨by simp, stepV_length hv1 f hf x, hs, Int.le_refl _, by show b ≤ b + 1; omega⟩
  · split
    · refine ⟨by simp, stepV_length hv1 f hf x, ?_, Int.le_refl _, by show b ≤ b + 1; omega⟩
      show (if _ then _ else _ : List Int).length = _
      split
      · exact stepV_length hv2 _ (by rw [takeV_length]; exact hs) _
      · rw [takeV_length]; exact hs
    · split
      · refine ⟨by simp, stepV_length hv1 _ (by rw [takeV_length]; exact hf) x, stepV_length hv2 s hs x, ?_, ?_⟩
        · dsimp only; split <;> omega
        · dsimp only; split <;> omega
      · exact ⟨by simp, stepV_length hv1 f hf x, stepV_length hv2 s hs x, Int.le_refl _, by show b ≤ b + 1; omega⟩
set_option maxHeartbeats 1600000 in
theorem leveled_bad1 (A0 : Option Addr) (c0 : Nat) (l0 : List (List Int)) (A1 : Option Addr) (c1 : Nat) (l1 : List Int) (A2 : Option Addr) (c2 : Nat) (l2 : List (List Int)) (A3 : Option Addr) (c3 : Nat) (l3 : List Int) (md : Int) (A5 : Option Addr) (c5 : Nat) (us : List Int) (w : World) (hr0 : Kd.C (Kd.slice 2 (Kd.int .i64)) w A0 l0.length l0) (hc0 : l0.length ≤ c0) (hr1 : Kd.C (Kd.int .i64) w A1 l1.length l1) (hc1 : l1.length ≤ c1) (hr2 : Kd.C (Kd.slice 2 (Kd.int .i64)) w A2 l2.length l2) (hc2 : l2.length ≤ c2) (hr3 : Kd.C (Kd.int .i64) w A3 l3.length l3) (hc3 : l3.length ≤ c3) (hr5 : Kd.C (Kd.int .i64) w A5 us.length us) (hc5 : us.length ≤ c5) (hv : impl_ValidLevels.f l0 l1 l2 l3 md = some false) :
    Calls Try.prog 67 #[.agg #[.slice A0 l0.length c0, .slice A1 l1.length c1, .slice A2 l2.length c2, .slice A3 l3.length c3, .int .i64 md], .slice A5 us.length c5] w fun e w' => e = .returned (.tuple #[.pointer none, .bool false]) ∧ Below w.heap.size w w' := by
  have HR0 := Aside0.mk hr0
  have HR1 := Aside0.mk hr1
  have HR2 := Aside0.mk hr2
  have HR3 := Aside0.mk hr3
  have HR5 := Aside0.mk hr5
  have HC0 := Aside0.mk hc0
  have HC1 := Aside0.mk hc1
  have HC2 := Aside0.mk hc2
  have HC3 := Aside0.mk hc3
  have HC5 := Aside0.mk hc5
  have HV := Aside0.mk hv
  clear hr0 hr1 hr2 hr3 hr5 hc0 hc1 hc2 hc3 hc5 hv
  have HS := (Hold.start w).box #[.slice A0 l0.length c0, .slice A1 l1.length c1, .slice A2 l2.length c2, .slice A3 l3.length c3, .int .i64 md] 53
  go_enter Try.func67, Try.ntmps67
  go_wp2_with fail
  refine (impl_ValidLevels.calls A0 c0 l0 A1 c1 l1 A2 c2 l2 A3 c3 l3 md false _ (Kd.C_below HR0.out HS.below) HC0.out (Kd.C_below HR1.out HS.below) HC1.out (Kd.C_below HR2.out HS.below) HC2.out (Kd.C_below HR3.out HS.below) HC3.out HV.out).mono ?_
  rintro e w1 ⟨rfl, hb⟩
  replace HS := HS.step (by first | exact hb | exact hb.below)
  clear hb
  go_wp2_with fail
  go_ret2
  exact ⟨rfl, HS.below⟩
set_option maxHeartbeats 1600000 in
theorem leveled_bad2 (A0 : Option Addr) (c0 : Nat) (l0 : List (List Int)) (A1 : Option Addr) (c1 : Nat) (l1 : List Int) (A2 : Option Addr) (c2 : Nat) (l2 : List (List Int)) (A3 : Option Addr) (c3 : Nat) (l3 : List Int) (md : Int) (A5 : Option Addr) (c5 : Nat) (us : List Int) (w : World) (hr0 : Kd.C (Kd.slice 2 (Kd.int .i64)) w A0 l0.length l0) (hc0 : l0.length ≤ c0) (hr1 : Kd.C (Kd.int .i64) w A1 l1.length l1) (hc1 : l1.length ≤ c1) (hr2 : Kd.C (Kd.slice 2 (Kd.int .i64)) w A2 l2.length l2) (hc2 : l2.length ≤ c2) (hr3 : Kd.C (Kd.int .i64) w A3 l3.length l3) (hc3 : l3.length ≤ c3) (hr5 : Kd.C (Kd.int .i64) w A5 us.length us) (hc5 : us.length ≤ c5) (hv : impl_ValidLevels.f l0 l1 l2 l3 md = some true) (hu : impl_ValidUses.f us = some false) :
    Calls Try.prog 67 #[.agg #[.slice A0 l0.length c0, .slice A1 l1.length c1, .slice A2 l2.length c2, .slice A3 l3.length c3, .int .i64 md], .slice A5 us.length c5] w fun e w' => e = .returned (.tuple #[.pointer none, .bool false]) ∧ Below w.heap.size w w' := by
  have HR0 := Aside0.mk hr0
  have HR1 := Aside0.mk hr1
  have HR2 := Aside0.mk hr2
  have HR3 := Aside0.mk hr3
  have HR5 := Aside0.mk hr5
  have HC0 := Aside0.mk hc0
  have HC1 := Aside0.mk hc1
  have HC2 := Aside0.mk hc2
  have HC3 := Aside0.mk hc3
  have HC5 := Aside0.mk hc5
  have HV := Aside0.mk hv
  have HU := Aside0.mk hu
  clear hr0 hr1 hr2 hr3 hr5 hc0 hc1 hc2 hc3 hc5 hv hu
  have HS := (Hold.start w).box #[.slice A0 l0.length c0, .slice A1 l1.length c1, .slice A2 l2.length c2, .slice A3 l3.length c3, .int .i64 md] 53
  go_enter Try.func67, Try.ntmps67
  go_wp2_with fail
  refine (impl_ValidLevels.calls A0 c0 l0 A1 c1 l1 A2 c2 l2 A3 c3 l3 md true _ (Kd.C_below HR0.out HS.below) HC0.out (Kd.C_below HR1.out HS.below) HC1.out (Kd.C_below HR2.out HS.below) HC2.out (Kd.C_below HR3.out HS.below) HC3.out HV.out).mono ?_
  rintro e w1 ⟨rfl, hb⟩
  replace HS := HS.step (by first | exact hb | exact hb.below)
  clear hb
  go_wp2_with fail
  refine (impl_ValidUses.calls A5 c5 us false _ (Kd.C_below HR5.out HS.below) HC5.out HU.out).mono ?_
  rintro e w2 ⟨rfl, hb⟩
  replace HS := HS.step (by first | exact hb | exact hb.below)
  clear hb
  go_wp2_with fail
  go_ret2
  exact ⟨rfl, HS.below⟩
set_option maxHeartbeats 4000000 in
set_option maxRecDepth 100000 in
theorem leveled_ok (A0 : Option Addr) (c0 : Nat) (l0 : List (List Int)) (A1 : Option Addr) (c1 : Nat) (l1 : List Int) (A2 : Option Addr) (c2 : Nat) (l2 : List (List Int)) (A3 : Option Addr) (c3 : Nat) (l3 : List Int) (md : Int) (A5 : Option Addr) (c5 : Nat) (us : List Int) (w : World) (hr0 : Kd.C (Kd.slice 2 (Kd.int .i64)) w A0 l0.length l0) (hc0 : l0.length ≤ c0) (hr1 : Kd.C (Kd.int .i64) w A1 l1.length l1) (hc1 : l1.length ≤ c1) (hr2 : Kd.C (Kd.slice 2 (Kd.int .i64)) w A2 l2.length l2) (hc2 : l2.length ≤ c2) (hr3 : Kd.C (Kd.int .i64) w A3 l3.length l3) (hc3 : l3.length ≤ c3) (hr5 : Kd.C (Kd.int .i64) w A5 us.length us) (hc5 : us.length ≤ c5) (hv : impl_ValidLevels.f l0 l1 l2 l3 md = some true) (hu : impl_ValidUses.f us = some true) {f0 s0 : List Int} (he1 : impl_Policy_empty.f l0 l1 = some f0) (he2 : impl_Policy_empty.f l2 l3 = some s0) (v1 : validB l0 l1 = true) (v2 : validB l2 l3 = true) (hm : md = 0 ∨ md = 1 ∨ md = 2) (hus : us.length ≤ 60) (hf0 : f0.length = l1.length) (hs0 : s0.length = l3.length) {fin : List Int × List Int × List Int × Int} (hst : stackV l0 l1 l2 l3 md us [] f0 s0 0 = fin) :
    Calls Try.prog 67 #[.agg #[.slice A0 l0.length c0, .slice A1 l1.length c1, .slice A2 l2.length c2, .slice A3 l3.length c3, .int .i64 md], .slice A5 us.length c5] w fun e w' => ∃ g, e = .returned (.tuple #[.pointer (some ⟨g, 0, none⟩), .bool true]) ∧ ∃ R, LevAt w w' R g (g + 1) A0 A1 A2 A3 c0 c1 c2 c3 l0 l1 l2 l3 md fin := by
  have HR0 := Aside0.mk hr0
  have HR1 := Aside0.mk hr1
  have HR2 := Aside0.mk hr2
  have HR3 := Aside0.mk hr3
  have HR5 := Aside0.mk hr5
  have HC0 := Aside0.mk hc0
  have HC1 := Aside0.mk hc1
  have HC2 := Aside0.mk hc2
  have HC3 := Aside0.mk hc3
  have HC5 := Aside0.mk hc5
  have HV := Aside0.mk hv
  have HU := Aside0.mk hu
  have HE1 := Aside0.mk he1
  have HE2 := Aside0.mk he2
  have V1 := Aside0.mk v1
  have V2 := Aside0.mk v2
  have HM := Aside0.mk hm
  have HUS := Aside0.mk hus
  have HF0 := Aside0.mk hf0
  have HS0 := Aside0.mk hs0
  have HST := Aside0.mk hst
  clear hr0 hr1 hr2 hr3 hr5 hc0 hc1 hc2 hc3 hc5 hv hu he1 he2 v1 v2 hm hus hf0 hs0 hst
  have HS := (Hold.start w).box #[.slice A0 l0.length c0, .slice A1 l1.length c1, .slice A2 l2.length c2, .slice A3 l3.length c3, .int .i64 md] 53
  go_enter Try.func67, Try.ntmps67
  go_wp2_with fail
  refine (impl_ValidLevels.calls A0 c0 l0 A1 c1 l1 A2 c2 l2 A3 c3 l3 md true _ (Kd.C_below HR0.out HS.below) HC0.out (Kd.C_below HR1.out HS.below) HC1.out (Kd.C_below HR2.out HS.below) HC2.out (Kd.C_below HR3.out HS.below) HC3.out HV.out).mono ?_
  rintro e w1 ⟨rfl, hb⟩
  replace HS := HS.step (by first | exact hb | exact hb.below)
  clear hb
  go_wp2_with fail
  refine (impl_ValidUses.calls A5 c5 us true _ (Kd.C_below HR5.out HS.below) HC5.out HU.out).mono ?_
  rintro e w2 ⟨rfl, hb⟩
  replace HS := HS.step (by first | exact hb | exact hb.below)
  clear hb
  have x0 : w2.cell? ⟨w.heap.size, 0, none⟩ = some (.slice A0 l0.length c0) := HS.cell List.mem_cons_self 0 _ rfl
  have x1 : w2.cell? ⟨w.heap.size, 1, none⟩ = some (.slice A1 l1.length c1) := HS.cell List.mem_cons_self 1 _ rfl
  have x2 : w2.cell? ⟨w.heap.size, 2, none⟩ = some (.slice A2 l2.length c2) := HS.cell List.mem_cons_self 2 _ rfl
  have x3 : w2.cell? ⟨w.heap.size, 3, none⟩ = some (.slice A3 l3.length c3) := HS.cell List.mem_cons_self 3 _ rfl
  have x4 : w2.cell? ⟨w.heap.size, 4, none⟩ = some (.int .i64 md) := HS.cell List.mem_cons_self 4 _ rfl
  go_wp2_with fail
  have HD := Hold.drew HS
  refine start_ (n := 10) (S := fun w' => w'.cell? ⟨w.heap.size, 0, none⟩ = some (.slice A0 l0.length c0) ∧ w'.cell? ⟨w.heap.size, 1, none⟩ = some (.slice A1 l1.length c1) ∧ w'.cell? ⟨w.heap.size, 2, none⟩ = some (.slice A2 l2.length c2) ∧ w'.cell? ⟨w.heap.size, 3, none⟩ = some (.slice A3 l3.length c3) ∧ w'.cell? ⟨w.heap.size, 4, none⟩ = some (.int .i64 md)) (ds := []) #[false, false, false, false, false, false, false, false, false, false] (by kernel_rfl) rfl rfl ⟨(HD.cell List.mem_cons_self 0 _ rfl), (HD.cell List.mem_cons_self 1 _ rfl), (HD.cell List.mem_cons_self 2 _ rfl), (HD.cell List.mem_cons_self 3 _ rfl), (HD.cell List.mem_cons_self 4 _ rfl)⟩ (fun hHeld => ?_)
  generalize w2.drew = wd at HD hHeld ⊢
  refine pure_ (i := 1) (N := some 18) (v := ?_) (a' := ?_) #[false, true, false, false, false, false, false, false, false, false] rfl rfl (by kernel_rfl) (fun _ _ _ h => h) (Or.inl ⟨by rfl, ?_⟩) ?_ ?_
  rotate_left
  · intro w'
    go_simp
    with_reducible rfl
  rotate_left
  · simp only [Act.put, List.setIfInBounds_toArray, List.set_cons_zero, List.set_cons_succ, i64_w, i32_w]
    rfl
  refine pure_ (i := 4) (N := some 21) (v := ?_) (a' := ?_) #[false, true, false, false, true, false, false, false, false, false] rfl rfl (by kernel_rfl) (fun _ _ _ h => h) (Or.inl ⟨by rfl, ?_⟩) ?_ ?_
  rotate_left
  · intro w'
    go_simp
    with_reducible rfl
  rotate_left
  · simp only [Act.put, List.setIfInBounds_toArray, List.set_cons_zero, List.set_cons_succ, i64_w, i32_w]
    rfl
  refine take_ (i := 0) (N := some 17) (v := ?_) (a' := ?_) #[true, true, false, false, true, false, false, false, false, false] rfl rfl (by kernel_rfl) (fun _ _ _ h => h) (Or.inl ⟨by rfl, ?_⟩) hHeld ?_ ?_
  rotate_left
  · rintro w' ⟨s0, s1, s2, s3, s4⟩
    go_simp
    with_reducible rfl
  rotate_left
  · simp only [Act.put, List.setIfInBounds_toArray, List.set_cons_zero, List.set_cons_succ, i64_w, i32_w]
    rfl
  refine take_ (i := 2) (N := some 19) (v := ?_) (a' := ?_) #[true, true, true, false, true, false, false, false, false, false] rfl rfl (by kernel_rfl) (fun _ _ _ h => h) (Or.inl ⟨by rfl, ?_⟩) hHeld ?_ ?_
  rotate_left
  · rintro w' ⟨s0, s1, s2, s3, s4⟩
    go_simp
    with_reducible rfl
  rotate_left
  · simp only [Act.put, List.setIfInBounds_toArray, List.set_cons_zero, List.set_cons_succ, i64_w, i32_w]
    rfl
  refine take_ (i := 5) (N := some 22) (v := ?_) (a' := ?_) #[true, true, true, false, true, true, false, false, false, false] rfl rfl (by kernel_rfl) (fun _ _ _ h => h) (Or.inl ⟨by rfl, ?_⟩) hHeld ?_ ?_
  rotate_left
  · rintro w' ⟨s0, s1, s2, s3, s4⟩
    go_simp
    with_reducible rfl
  rotate_left
  · simp only [Act.put, List.setIfInBounds_toArray, List.set_cons_zero, List.set_cons_succ, i64_w, i32_w]
    rfl
  refine one_ (i := 3) (N := some 20) #[true, true, true, true, true, true, false, false, false, false] rfl rfl (by kernel_rfl) (by decide) (fun K hK => ?_)
  refine goes_ Try.func82 (by kernel_rfl) rfl #[.agg #[.slice A0 l0.length c0, .slice A1 l1.length c1]] (by rfl) rfl rfl (by simp only [List.map_toArray, List.map_cons, List.map_nil]; rfl) ?_
  with_reducible refine (impl_Policy_empty.calls A0 c0 l0 A1 c1 l1 _ _ (Kd.C_below HR0.out HD.below) HC0.out (Kd.C_below HR1.out HD.below) HC1.out HE1.out).mono ?_
  rintro e w3 ⟨v_, rfl, hr, hb⟩
  refine ⟨_, rfl, ?_⟩
  obtain ⟨F, fc, rfl⟩ := Kd.R_slice hr
  replace HD := HD.made hb hr
  clear hb hr
  have s0_ : w3.cell? ⟨w.heap.size, 0, none⟩ = some (.slice A0 l0.length c0) := HD.cell (List.mem_cons_of_mem _ List.mem_cons_self) 0 _ rfl
  have s1_ : w3.cell? ⟨w.heap.size, 1, none⟩ = some (.slice A1 l1.length c1) := HD.cell (List.mem_cons_of_mem _ List.mem_cons_self) 1 _ rfl
  have s2_ : w3.cell? ⟨w.heap.size, 2, none⟩ = some (.slice A2 l2.length c2) := HD.cell (List.mem_cons_of_mem _ List.mem_cons_self) 2 _ rfl
  have s3_ : w3.cell? ⟨w.heap.size, 3, none⟩ = some (.slice A3 l3.length c3) := HD.cell (List.mem_cons_of_mem _ List.mem_cons_self) 3 _ rfl
  have s4_ : w3.cell? ⟨w.heap.size, 4, none⟩ = some (.int .i64 md) := HD.cell (List.mem_cons_of_mem _ List.mem_cons_self) 4 _ rfl
  refine hK.out _ _ ⟨s0_, s1_, s2_, s3_, s4_⟩ (fun hHeld => ?_)
  clear hK K
  refine norm_ (a' := ?_) ?_ ?_
  rotate_left
  · show Act.put _ (some 20) _ = _
    simp only [Act.put, List.setIfInBounds_toArray, List.set_cons_zero, List.set_cons_succ, i64_w, i32_w]
    rfl
  refine one_ (i := 6) (N := some 23) #[true, true, true, true, true, true, true, false, false, false] rfl rfl (by kernel_rfl) (by decide) (fun K hK => ?_)
  clear s0_ s1_ s2_ s3_ s4_
  refine goes_ Try.func82 (by kernel_rfl) rfl #[.agg #[.slice A2 l2.length c2, .slice A3 l3.length c3]] (by rfl) rfl rfl (by simp only [List.map_toArray, List.map_cons, List.map_nil]; rfl) ?_
  with_reducible refine (impl_Policy_empty.calls A2 c2 l2 A3 c3 l3 _ _ (Kd.C_below HR2.out HD.below) HC2.out (Kd.C_below HR3.out HD.below) HC3.out HE2.out).mono ?_
  rintro e w4 ⟨v_, rfl, hr, hb⟩
  refine ⟨_, rfl, ?_⟩
  obtain ⟨S, sc, rfl⟩ := Kd.R_slice hr
  replace HD := HD.made hb hr
  clear hb hr
  have s0_ : w4.cell? ⟨w.heap.size, 0, none⟩ = some (.slice A0 l0.length c0) := HD.cell (List.mem_cons_of_mem _ (List.mem_cons_of_mem _ List.mem_cons_self)) 0 _ rfl
  have s1_ : w4.cell? ⟨w.heap.size, 1, none⟩ = some (.slice A1 l1.length c1) := HD.cell (List.mem_cons_of_mem _ (List.mem_cons_of_mem _ List.mem_cons_self)) 1 _ rfl
  have s2_ : w4.cell? ⟨w.heap.size, 2, none⟩ = some (.slice A2 l2.length c2) := HD.cell (List.mem_cons_of_mem _ (List.mem_cons_of_mem _ List.mem_cons_self)) 2 _ rfl
  have s3_ : w4.cell? ⟨w.heap.size, 3, none⟩ = some (.slice A3 l3.length c3) := HD.cell (List.mem_cons_of_mem _ (List.mem_cons_of_mem _ List.mem_cons_self)) 3 _ rfl
  have s4_ : w4.cell? ⟨w.heap.size, 4, none⟩ = some (.int .i64 md) := HD.cell (List.mem_cons_of_mem _ (List.mem_cons_of_mem _ List.mem_cons_self)) 4 _ rfl
  refine hK.out _ _ ⟨s0_, s1_, s2_, s3_, s4_⟩ (fun hHeld => ?_)
  clear hK K
  refine norm_ (a' := ?_) ?_ ?_
  rotate_left
  · show Act.put _ (some 23) _ = _
    simp only [Act.put, List.setIfInBounds_toArray, List.set_cons_zero, List.set_cons_succ, i64_w, i32_w]
    rfl
  refine pure_ (i := 7) (N := some 24) (v := ?_) (a' := ?_) #[true, true, true, true, true, true, true, true, false, false] rfl rfl (by kernel_rfl) (fun _ _ _ h => h) (Or.inl ⟨by rfl, ?_⟩) ?_ ?_
  rotate_left
  · intro w'
    go_simp
    with_reducible rfl
  rotate_left
  · simp only [Act.put, List.setIfInBounds_toArray, List.set_cons_zero, List.set_cons_succ, i64_w, i32_w]
    rfl
  refine one_ (i := 8) (N := some 25) #[true, true, true, true, true, true, true, true, true, false] rfl rfl (by kernel_rfl) (by decide) (fun K hK => ?_)
  clear s0_ s1_ s2_ s3_ s4_
  refine value_ (w1 := ?_) (v := ?_) (by rfl) rfl ?_ ?_
  rotate_left 2
  · go_simp
    constructor
    · rfl
    · rfl
  replace HD := HD.box #[.slice A0 l0.length c0, .slice A1 l1.length c1, .slice A2 l2.length c2, .slice A3 l3.length c3, .int .i64 md, .slice F f0.length fc, .slice S s0.length sc, .slice none 0 0, .int .i64 0] 111
  have s0_ : (w4.alloc (.cells #[.slice A0 l0.length c0, .slice A1 l1.length c1, .slice A2 l2.length c2, .slice A3 l3.length c3, .int .i64 md, .slice F f0.length fc, .slice S s0.length sc, .slice none 0 0, .int .i64 0] 111)).cell? ⟨w.heap.size, 0, none⟩ = some (.slice A0 l0.length c0) := HD.cell (List.mem_cons_of_mem _ (List.mem_cons_of_mem _ (List.mem_cons_of_mem _ List.mem_cons_self))) 0 _ rfl
  have s1_ : (w4.alloc (.cells #[.slice A0 l0.length c0, .slice A1 l1.length c1, .slice A2 l2.length c2, .slice A3 l3.length c3, .int .i64 md, .slice F f0.length fc, .slice S s0.length sc, .slice none 0 0, .int .i64 0] 111)).cell? ⟨w.heap.size, 1, none⟩ = some (.slice A1 l1.length c1) := HD.cell (List.mem_cons_of_mem _ (List.mem_cons_of_mem _ (List.mem_cons_of_mem _ List.mem_cons_self))) 1 _ rfl
  have s2_ : (w4.alloc (.cells #[.slice A0 l0.length c0, .slice A1 l1.length c1, .slice A2 l2.length c2, .slice A3 l3.length c3, .int .i64 md, .slice F f0.length fc, .slice S s0.length sc, .slice none 0 0, .int .i64 0] 111)).cell? ⟨w.heap.size, 2, none⟩ = some (.slice A2 l2.length c2) := HD.cell (List.mem_cons_of_mem _ (List.mem_cons_of_mem _ (List.mem_cons_of_mem _ List.mem_cons_self))) 2 _ rfl
  have s3_ : (w4.alloc (.cells #[.slice A0 l0.length c0, .slice A1 l1.length c1, .slice A2 l2.length c2, .slice A3 l3.length c3, .int .i64 md, .slice F f0.length fc, .slice S s0.length sc, .slice none 0 0, .int .i64 0] 111)).cell? ⟨w.heap.size, 3, none⟩ = some (.slice A3 l3.length c3) := HD.cell (List.mem_cons_of_mem _ (List.mem_cons_of_mem _ (List.mem_cons_of_mem _ List.mem_cons_self))) 3 _ rfl
  have s4_ : (w4.alloc (.cells #[.slice A0 l0.length c0, .slice A1 l1.length c1, .slice A2 l2.length c2, .slice A3 l3.length c3, .int .i64 md, .slice F f0.length fc, .slice S s0.length sc, .slice none 0 0, .int .i64 0] 111)).cell? ⟨w.heap.size, 4, none⟩ = some (.int .i64 md) := HD.cell (List.mem_cons_of_mem _ (List.mem_cons_of_mem _ (List.mem_cons_of_mem _ List.mem_cons_self))) 4 _ rfl
  refine hK.out _ _ ⟨s0_, s1_, s2_, s3_, s4_⟩ (fun hHeld => ?_)
  clear hK K
  refine norm_ (a' := ?_) ?_ ?_
  rotate_left
  · show Act.put _ (some 25) _ = _
    simp only [Act.put, List.setIfInBounds_toArray, List.set_cons_zero, List.set_cons_succ, i64_w, i32_w]
    rfl
  refine pure_ (i := 9) (N := some 6) (v := ?_) (a' := ?_) #[true, true, true, true, true, true, true, true, true, true] rfl rfl (by kernel_rfl) (fun _ _ _ h => h) (Or.inl ⟨by rfl, ?_⟩) ?_ ?_
  rotate_left
  · intro w'
    go_simp
    with_reducible rfl
  rotate_left
  · simp only [Act.put, List.setIfInBounds_toArray, List.set_cons_zero, List.set_cons_succ, i64_w, i32_w]
    rfl
  refine done_ (by kernel_rfl) ?_
  clear hHeld s0_ s1_ s2_ s3_ s4_
  replace HS := HD
  clear HD
  clear x0 x1 x2 x3 x4
  generalize w4.alloc (.cells #[.slice A0 l0.length c0, .slice A1 l1.length c1, .slice A2 l2.length c2, .slice A3 l3.length c3, .int .i64 md, .slice F f0.length fc, .slice S s0.length sc, .slice none 0 0, .int .i64 0] 111) = w5 at HS ⊢
  generalize w4.heap.size = g at HS ⊢
  have HS1 := HS.nilRow (Kd.int .i64) 2
  replace HS := HS1
  clear HS1
  replace HS := HS.pick (.there (.there .here))
  replace HS := HS.pick (.there (.there (.there .here)))
  replace HS := HS.pick (.there (.there (.there .here)))
  have HL : Aside0 (LevAt w w5 [(boxT #[.slice A0 l0.length c0, .slice A1 l1.length c1, .slice A2 l2.length c2, .slice A3 l3.length c3, .int .i64 md] 53, w.heap.size, w.heap.size + 1)] g (g + 1) A0 A1 A2 A3 c0 c1 c2 c3 l0 l1 l2 l3 md ([], f0, s0, 0)) := ⟨⟨_, _, _, _, _, _, _, _, _, _, _, _, HS⟩⟩
  clear HS
  go_wp2_with fail
  go_loopg [28] us.length (fun gg s28 wr => ∃ (kk : Nat) (wh f s : List Int) (b : Int), kk ≤ us.length ∧ us.length - kk ≤ gg ∧ s28 = .int .i64 kk ∧ Aside0 (stackV l0 l1 l2 l3 md (us.drop kk) wh f s b = fin) ∧ Aside0 (wh.length = kk ∧ f.length = l1.length ∧ s.length = l3.length ∧ 0 ≤ b ∧ b ≤ kk) ∧ Aside0 (LevAt w wr [(boxT #[.slice A0 l0.length c0, .slice A1 l1.length c1, .slice A2 l2.length c2, .slice A3 l3.length c3, .int .i64 md] 53, w.heap.size, w.heap.size + 1)] g (g + 1) A0 A1 A2 A3 c0 c1 c2 c3 l0 l1 l2 l3 md (wh, f, s, b)))
  case atStart => exact ⟨0, _, _, _, _, Nat.zero_le _, by omega, rfl, ⟨by simpa using HST.out⟩, ⟨rfl, HF0.out, HS0.out, Int.le_refl _, Int.le_refl _⟩, HL⟩
  case round =>
    clear HST HL HE1 HE2 HV HU HF0 HS0
    obtain ⟨kk, wh, f, s, b, hkk, hg, rfl, BI, LN, HL⟩ := hrel
    by_cases hlt : kk < us.length
    · have hbel : Below w.heap.size w wr := by obtain ⟨_, _, _, _, _, _, _, _, _, _, _, _, H_⟩ := HL.out; exact H_.below
      obtain ⟨ad, e, hx0⟩ := Go.Proofs.YtpndbaomhcehdaaW.PrintWords.at_int (Kd.C_below HR5.out hbel) kk hlt
      subst e
      have HBI := BI.out
      rw [drop_cons us kk 0 hlt, stackV_cons] at HBI
      have LN2 := Aside0.mk (useV_inv (md := md) V1.out V2.out LN.out.2.1 LN.out.2.2.1 (us.getD kk 0) wh b)
      have BI2 := Aside0.mk HBI
      have HLT := Aside0.mk hlt
      clear HBI BI hbel
      have hltz : (kk : Int) < (us.length : Int) := by omega
      generalize us.getD kk 0 = x at hx0 BI2 LN2
      go_wp2_with fail
      refine (use_calls x HL.out (Rd.came HR0.out _) (Rd.came HR1.out _) (Rd.came HR2.out _) (Rd.came HR3.out _) HC0.out HC1.out HC2.out HC3.out V1.out V2.out LN.out.2.1 LN.out.2.2.1 (by have := LN.out; have := HUS.out; have := HLT.out; omega) LN.out.2.2.2.1 (by have := LN.out; have := HUS.out; have := HLT.out; omega) HM.out).mono ?_
      rintro e w6 ⟨rfl, H6⟩
      have LN3 : Aside0 _ := ⟨And.intro LN.out LN2.out⟩
      clear LN LN2 HL
      generalize useV l0 l1 l2 l3 md x wh f s b = st at BI2 LN3 H6
      obtain ⟨wh', f', s', b'⟩ := st
      have H7 := Aside0.mk H6
      clear H6 hx0
      go_wp2_with fail
      go_roundg (us.length - (kk + 1))
      case measure => omega
      case rel => exact ⟨kk + 1, wh', f', s', b', by omega, by omega, by rw [wrap_succ hlt (by have := HUS.out; omega)], BI2, ⟨by have := LN3.out; (try simp only at this); omega⟩, H7⟩
    · obtain rfl : kk = us.length := by omega
      have HBI := BI.out
      rw [List.drop_length, stackV] at HBI
      subst HBI
      have hltz : ¬ ((us.length : Nat) : Int) < (us.length : Int) := by omega
      go_wp2_with fail
      go_ret2
      exact ⟨g, rfl, _, HL.out⟩
def impl_LevelContents.f (l0_0 : List (List Int)) (l0_1 : List Int) (l0_2 : List (List Int)) (l0_3 : List Int) (a0_4 : Int) (l1 : List Int) : Option (List Int × List Int × Bool) := (impl_ValidLevels.f l0_0 l0_1 l0_2 l0_3 a0_4).bind fun a => if a = true then ((impl_ValidUses.f l1).bind fun b => if b = true then (if levB l0_0 l0_1 l0_2 l0_3 a0_4 = true ∧ l1.length ≤ 60 then some ((stackV l0_0 l0_1 l0_2 l0_3 a0_4 l1 [] (List.replicate l0_1.length (-1)) (List.replicate l0_3.length (-1)) 0).2.1, (stackV l0_0 l0_1 l0_2 l0_3 a0_4 l1 [] (List.replicate l0_1.length (-1)) (List.replicate l0_3.length (-1)) 0).2.2.1, true) else none) else some ([], [], false)) else some ([], [], false)
set_option maxHeartbeats 1600000 in
theorem xLevelContents_bad1 (A0_0 : Option Addr) (c0_0 : Nat) (l0_0 : List (List Int)) (A0_1 : Option Addr) (c0_1 : Nat) (l0_1 : List Int) (A0_2 : Option Addr) (c0_2 : Nat) (l0_2 : List (List Int)) (A0_3 : Option Addr) (c0_3 : Nat) (l0_3 : List Int) (a0_4 : Int) (A1 : Option Addr) (c1 : Nat) (l1 : List Int) (w : World) (hr0_0 : Kd.C (Kd.slice 2 (Kd.int .i64)) w A0_0 l0_0.length l0_0) (hc0_0 : l0_0.length ≤ c0_0) (hr0_1 : Kd.C (Kd.int .i64) w A0_1 l0_1.length l0_1) (hc0_1 : l0_1.length ≤ c0_1) (hr0_2 : Kd.C (Kd.slice 2 (Kd.int .i64)) w A0_2 l0_2.length l0_2) (hc0_2 : l0_2.length ≤ c0_2) (hr0_3 : Kd.C (Kd.int .i64) w A0_3 l0_3.length l0_3) (hc0_3 : l0_3.length ≤ c0_3) (hr1 : Kd.C (Kd.int .i64) w A1 l1.length l1) (hc1 : l1.length ≤ c1) (hv : impl_ValidLevels.f l0_0 l0_1 l0_2 l0_3 a0_4 = some false) :
    Calls Try.prog 31 #[.agg #[.slice A0_0 l0_0.length c0_0, .slice A0_1 l0_1.length c0_1, .slice A0_2 l0_2.length c0_2, .slice A0_3 l0_3.length c0_3, .int .i64 a0_4], .slice A1 l1.length c1] w fun e w' => ∃ v0_ v1_ : Value, e = .returned (.tuple #[v0_, v1_, .bool false]) ∧ Kd.R (Kd.int .i64) 2 w' w.heap.size (fun k_ => some k_ ≠ (v1_ : Value).ownBlock) v0_ [] ∧ Kd.R (Kd.int .i64) 2 w' w.heap.size (fun k_ => some k_ ≠ (v0_ : Value).ownBlock) v1_ [] ∧ Below w.heap.size w w' := by
  have HR0 := Aside0.mk hr0_0
  have HR1 := Aside0.mk hr0_1
  have HR2 := Aside0.mk hr0_2
  have HR3 := Aside0.mk hr0_3
  have HC0 := Aside0.mk hc0_0
  have HC1 := Aside0.mk hc0_1
  have HC2 := Aside0.mk hc0_2
  have HC3 := Aside0.mk hc0_3
  have HR5 := Aside0.mk hr1
  have HC5 := Aside0.mk hc1
  clear hr0_0 hr0_1 hr0_2 hr0_3 hc0_0 hc0_1 hc0_2 hc0_3 hr1 hc1
  have HV := Aside0.mk hv
  clear hv
  have HS := ((Hold.start w).box #[.slice A0_0 l0_0.length c0_0, .slice A0_1 l0_1.length c0_1, .slice A0_2 l0_2.length c0_2, .slice A0_3 l0_3.length c0_3, .int .i64 a0_4] 53)
  go_enter Try.func31, Try.ntmps31
  go_wp2_with fail
  refine (leveled_bad1 A0_0 c0_0 l0_0 A0_1 c0_1 l0_1 A0_2 c0_2 l0_2 A0_3 c0_3 l0_3 a0_4 A1 c1 l1 _ (Kd.C_below HR0.out HS.below) HC0.out (Kd.C_below HR1.out HS.below) HC1.out (Kd.C_below HR2.out HS.below) HC2.out (Kd.C_below HR3.out HS.below) HC3.out (Kd.C_below HR5.out HS.below) HC5.out HV.out).mono ?_
  rintro e w1 ⟨rfl, hb⟩
  replace HS := HS.step hb
  clear hb
  go_wp2_with fail
  go_ret3
  exact ⟨_, _, rfl, Kd.R_nil _ _ _ _ _, Kd.R_nil _ _ _ _ _, HS.below⟩

set_option maxHeartbeats 1600000 in
theorem xLevelContents_bad2 (A0_0 : Option Addr) (c0_0 : Nat) (l0_0 : List (List Int)) (A0_1 : Option Addr) (c0_1 : Nat) (l0_1 : List Int) (A0_2 : Option Addr) (c0_2 : Nat) (l0_2 : List (List Int)) (A0_3 : Option Addr) (c0_3 : Nat) (l0_3 : List Int) (a0_4 : Int) (A1 : Option Addr) (c1 : Nat) (l1 : List Int) (w : World) (hr0_0 : Kd.C (Kd.slice 2 (Kd.int .i64)) w A0_0 l0_0.length l0_0) (hc0_0 : l0_0.length ≤ c0_0) (hr0_1 : Kd.C (Kd.int .i64) w A0_1 l0_1.length l0_1) (hc0_1 : l0_1.length ≤ c0_1) (hr0_2 : Kd.C (Kd.slice 2 (Kd.int .i64)) w A0_2 l0_2.length l0_2) (hc0_2 : l0_2.length ≤ c0_2) (hr0_3 : Kd.C (Kd.int .i64) w A0_3 l0_3.length l0_3) (hc0_3 : l0_3.length ≤ c0_3) (hr1 : Kd.C (Kd.int .i64) w A1 l1.length l1) (hc1 : l1.length ≤ c1) (hv : impl_ValidLevels.f l0_0 l0_1 l0_2 l0_3 a0_4 = some true) (hu : impl_ValidUses.f l1 = some false) :
    Calls Try.prog 31 #[.agg #[.slice A0_0 l0_0.length c0_0, .slice A0_1 l0_1.length c0_1, .slice A0_2 l0_2.length c0_2, .slice A0_3 l0_3.length c0_3, .int .i64 a0_4], .slice A1 l1.length c1] w fun e w' => ∃ v0_ v1_ : Value, e = .returned (.tuple #[v0_, v1_, .bool false]) ∧ Kd.R (Kd.int .i64) 2 w' w.heap.size (fun k_ => some k_ ≠ (v1_ : Value).ownBlock) v0_ [] ∧ Kd.R (Kd.int .i64) 2 w' w.heap.size (fun k_ => some k_ ≠ (v0_ : Value).ownBlock) v1_ [] ∧ Below w.heap.size w w' := by
  have HR0 := Aside0.mk hr0_0
  have HR1 := Aside0.mk hr0_1
  have HR2 := Aside0.mk hr0_2
  have HR3 := Aside0.mk hr0_3
  have HC0 := Aside0.mk hc0_0
  have HC1 := Aside0.mk hc0_1
  have HC2 := Aside0.mk hc0_2
  have HC3 := Aside0.mk hc0_3
  have HR5 := Aside0.mk hr1
  have HC5 := Aside0.mk hc1
  clear hr0_0 hr0_1 hr0_2 hr0_3 hc0_0 hc0_1 hc0_2 hc0_3 hr1 hc1
  have HV := Aside0.mk hv
  have HU := Aside0.mk hu
  clear hv hu
  have HS := ((Hold.start w).box #[.slice A0_0 l0_0.length c0_0, .slice A0_1 l0_1.length c0_1, .slice A0_2 l0_2.length c0_2, .slice A0_3 l0_3.length c0_3, .int .i64 a0_4] 53)
  go_enter Try.func31, Try.ntmps31
  go_wp2_with fail
  refine (leveled_bad2 A0_0 c0_0 l0_0 A0_1 c0_1 l0_1 A0_2 c0_2 l0_2 A0_3 c0_3 l0_3 a0_4 A1 c1 l1 _ (Kd.C_below HR0.out HS.below) HC0.out (Kd.C_below HR1.out HS.below) HC1.out (Kd.C_below HR2.out HS.below) HC2.out (Kd.C_below HR3.out HS.below) HC3.out (Kd.C_below HR5.out HS.below) HC5.out HV.out HU.out).mono ?_
  rintro e w1 ⟨rfl, hb⟩
  replace HS := HS.step hb
  clear hb
  go_wp2_with fail
  go_ret3
  exact ⟨_, _, rfl, Kd.R_nil _ _ _ _ _, Kd.R_nil _ _ _ _ _, HS.below⟩

set_option maxHeartbeats 1600000 in
theorem xLevelContents_ok (A0_0 : Option Addr) (c0_0 : Nat) (l0_0 : List (List Int)) (A0_1 : Option Addr) (c0_1 : Nat) (l0_1 : List Int) (A0_2 : Option Addr) (c0_2 : Nat) (l0_2 : List (List Int)) (A0_3 : Option Addr) (c0_3 : Nat) (l0_3 : List Int) (a0_4 : Int) (A1 : Option Addr) (c1 : Nat) (l1 : List Int) (w : World) (hr0_0 : Kd.C (Kd.slice 2 (Kd.int .i64)) w A0_0 l0_0.length l0_0) (hc0_0 : l0_0.length ≤ c0_0) (hr0_1 : Kd.C (Kd.int .i64) w A0_1 l0_1.length l0_1) (hc0_1 : l0_1.length ≤ c0_1) (hr0_2 : Kd.C (Kd.slice 2 (Kd.int .i64)) w A0_2 l0_2.length l0_2) (hc0_2 : l0_2.length ≤ c0_2) (hr0_3 : Kd.C (Kd.int .i64) w A0_3 l0_3.length l0_3) (hc0_3 : l0_3.length ≤ c0_3) (hr1 : Kd.C (Kd.int .i64) w A1 l1.length l1) (hc1 : l1.length ≤ c1) (hv : impl_ValidLevels.f l0_0 l0_1 l0_2 l0_3 a0_4 = some true) (hu : impl_ValidUses.f l1 = some true) (he1 : impl_Policy_empty.f l0_0 l0_1 = some (List.replicate l0_1.length (-1))) (he2 : impl_Policy_empty.f l0_2 l0_3 = some (List.replicate l0_3.length (-1))) (v1 : validB l0_0 l0_1 = true) (v2 : validB l0_2 l0_3 = true) (hm : a0_4 = 0 ∨ a0_4 = 1 ∨ a0_4 = 2) (hus : l1.length ≤ 60) {wh f s : List Int} {b : Int} (hst : stackV l0_0 l0_1 l0_2 l0_3 a0_4 l1 [] (List.replicate l0_1.length (-1)) (List.replicate l0_3.length (-1)) 0 = (wh, f, s, b)) :
    Calls Try.prog 31 #[.agg #[.slice A0_0 l0_0.length c0_0, .slice A0_1 l0_1.length c0_1, .slice A0_2 l0_2.length c0_2, .slice A0_3 l0_3.length c0_3, .int .i64 a0_4], .slice A1 l1.length c1] w fun e w' => ∃ v0_ v1_ : Value, e = .returned (.tuple #[v0_, v1_, .bool true]) ∧ Kd.R (Kd.int .i64) 2 w' w.heap.size (fun k_ => some k_ ≠ (v1_ : Value).ownBlock) v0_ f ∧ Kd.R (Kd.int .i64) 2 w' w.heap.size (fun k_ => some k_ ≠ (v0_ : Value).ownBlock) v1_ s ∧ Below w.heap.size w w' := by
  have HR0 := Aside0.mk hr0_0
  have HR1 := Aside0.mk hr0_1
  have HR2 := Aside0.mk hr0_2
  have HR3 := Aside0.mk hr0_3
  have HC0 := Aside0.mk hc0_0
  have HC1 := Aside0.mk hc0_1
  have HC2 := Aside0.mk hc0_2
  have HC3 := Aside0.mk hc0_3
  have HR5 := Aside0.mk hr1
  have HC5 := Aside0.mk hc1
  clear hr0_0 hr0_1 hr0_2 hr0_3 hc0_0 hc0_1 hc0_2 hc0_3 hr1 hc1
  have HV := Aside0.mk hv
  have HU := Aside0.mk hu
  have HE1 := Aside0.mk he1
  have HE2 := Aside0.mk he2
  have V1 := Aside0.mk v1
  have V2 := Aside0.mk v2
  have HM := Aside0.mk hm
  have HUS := Aside0.mk hus
  have HST := Aside0.mk hst
  clear hv hu he1 he2 v1 v2 hm hus hst
  have HS := ((Hold.start w).box #[.slice A0_0 l0_0.length c0_0, .slice A0_1 l0_1.length c0_1, .slice A0_2 l0_2.length c0_2, .slice A0_3 l0_3.length c0_3, .int .i64 a0_4] 53)
  go_enter Try.func31, Try.ntmps31
  go_wp2_with fail
  refine (leveled_ok A0_0 c0_0 l0_0 A0_1 c0_1 l0_1 A0_2 c0_2 l0_2 A0_3 c0_3 l0_3 a0_4 A1 c1 l1 _ (Kd.C_below HR0.out HS.below) HC0.out (Kd.C_below HR1.out HS.below) HC1.out (Kd.C_below HR2.out HS.below) HC2.out (Kd.C_below HR3.out HS.below) HC3.out (Kd.C_below HR5.out HS.below) HC5.out HV.out HU.out HE1.out HE2.out V1.out V2.out HM.out HUS.out (by simp) (by simp) HST.out).mono ?_
  rintro e w1 ⟨g, rfl, R, HL⟩
  replace HS := HS.below
  obtain ⟨F, fc, flo, fhi, S, sc, slo, shi, V, vc, vlo, vhi, HL⟩ := HL
  simp only at HL
  have HB := Aside0.mk (Below.trans HS (HL.below.mono (by simp)))
  have q5 := HL.cell List.mem_cons_self 5 _ rfl
  have q6 := HL.cell List.mem_cons_self 6 _ rfl
  have hR := (HL.tail).two
  have HRR := Aside0.mk (Kd.R_lower hR.1 (show w.heap.size ≤ _ by simp))
  have HRS := Aside0.mk (Kd.R_lower hR.2 (show w.heap.size ≤ _ by simp))
  clear hR HL
  go_wp2_with fail
  go_quiet (fail)
  go_wp2_with fail
  go_ret3
  exact ⟨_, _, rfl, (Kd.R_drewN HRR.out _), (Kd.R_drewN HRS.out _), pw_below_drewN HB.out _⟩

theorem impl_LevelContents.calls (A0_0 : Option Addr) (c0_0 : Nat) (l0_0 : List (List Int)) (A0_1 : Option Addr) (c0_1 : Nat) (l0_1 : List Int) (A0_2 : Option Addr) (c0_2 : Nat) (l0_2 : List (List Int)) (A0_3 : Option Addr) (c0_3 : Nat) (l0_3 : List Int) (a0_4 : Int) (A1 : Option Addr) (c1 : Nat) (l1 : List Int) (r1 r2 : List Int) (r3 : Bool) (w : World) (hr0_0 : Kd.C (Kd.slice 2 (Kd.int .i64)) w A0_0 l0_0.length l0_0) (hc0_0 : l0_0.length ≤ c0_0) (hr0_1 : Kd.C (Kd.int .i64) w A0_1 l0_1.length l0_1) (hc0_1 : l0_1.length ≤ c0_1) (hr0_2 : Kd.C (Kd.slice 2 (Kd.int .i64)) w A0_2 l0_2.length l0_2) (hc0_2 : l0_2.length ≤ c0_2) (hr0_3 : Kd.C (Kd.int .i64) w A0_3 l0_3.length l0_3) (hc0_3 : l0_3.length ≤ c0_3) (hr1 : Kd.C (Kd.int .i64) w A1 l1.length l1) (hc1 : l1.length ≤ c1) (h : impl_LevelContents.f l0_0 l0_1 l0_2 l0_3 a0_4 l1 = some (r1, r2, r3)) :
    Calls Try.prog 31 #[.agg #[.slice A0_0 l0_0.length c0_0, .slice A0_1 l0_1.length c0_1, .slice A0_2 l0_2.length c0_2, .slice A0_3 l0_3.length c0_3, .int .i64 a0_4], .slice A1 l1.length c1] w fun e w' => ∃ v0_ v1_ : Value, e = .returned (.tuple #[v0_, v1_, .bool r3]) ∧ Kd.R (Kd.int .i64) 2 w' w.heap.size (fun k_ => some k_ ≠ (v1_ : Value).ownBlock) v0_ r1 ∧ Kd.R (Kd.int .i64) 2 w' w.heap.size (fun k_ => some k_ ≠ (v0_ : Value).ownBlock) v1_ r2 ∧ Below w.heap.size w w' := by
  unfold impl_LevelContents.f at h
  cases hv : impl_ValidLevels.f l0_0 l0_1 l0_2 l0_3 a0_4 with
  | none => rw [hv] at h; cases h
  | some a =>
    rw [hv] at h
    simp only [Option.bind_some] at h
    cases a with
    | false =>
      rw [if_neg (by decide)] at h
      cases h
      exact xLevelContents_bad1 A0_0 c0_0 l0_0 A0_1 c0_1 l0_1 A0_2 c0_2 l0_2 A0_3 c0_3 l0_3 a0_4 A1 c1 l1 w hr0_0 hc0_0 hr0_1 hc0_1 hr0_2 hc0_2 hr0_3 hc0_3 hr1 hc1 hv
    | true =>
      rw [if_pos rfl] at h
      cases hu : impl_ValidUses.f l1 with
      | none => rw [hu] at h; cases h
      | some b =>
        rw [hu] at h
        simp only [Option.bind_some] at h
        cases b with
        | false =>
          rw [if_neg (by decide)] at h
          cases h
          exact xLevelContents_bad2 A0_0 c0_0 l0_0 A0_1 c0_1 l0_1 A0_2 c0_2 l0_2 A0_3 c0_3 l0_3 a0_4 A1 c1 l1 w hr0_0 hc0_0 hr0_1 hc0_1 hr0_2 hc0_2 hr0_3 hc0_3 hr1 hc1 hv hu
        | true =>
          rw [if_pos rfl] at h
          split at h
          rotate_left
          · cases h
          rename_i hok
          obtain ⟨hlev, hl⟩ := hok
          unfold levB at hlev
          rw [Bool.and_eq_true, Bool.and_eq_true, Bool.and_eq_true, decide_eq_true_eq, decide_eq_true_eq] at hlev
          obtain ⟨⟨v1, v2⟩, hm0, hm2⟩ := hlev
          have he : ∀ {h : List (List Int)} {m : List Int}, validB h m = true → impl_Policy_empty.f h m = some (List.replicate m.length (-1)) := fun hv => by
            obtain ⟨p1, p6, _⟩ := valid_facts hv
            unfold impl_Policy_empty.f
            rw [if_pos ⟨p1, by omega⟩]
          obtain ⟨wh, f, s, b, hst⟩ : ∃ wh f s b, stackV l0_0 l0_1 l0_2 l0_3 a0_4 l1 [] (List.replicate l0_1.length (-1)) (List.replicate l0_3.length (-1)) 0 = (wh, f, s, b) := ⟨_, _, _, _, rfl⟩
          rw [hst] at h
          cases h
          exact xLevelContents_ok A0_0 c0_0 l0_0 A0_1 c0_1 l0_1 A0_2 c0_2 l0_2 A0_3 c0_3 l0_3 a0_4 A1 c1 l1 w hr0_0 hc0_0 hr0_1 hc0_1 hr0_2 hc0_2 hr0_3 hc0_3 hr1 hc1 hv hu (he v1) (he v2) v1 v2 (by omega) hl hst



end Go.Proofs.Ytpndbaomhcehdaa.PFnExactLevelContents
