import Derived.Test.YtpooojgeonpmnaaZExactAccuracyOfPFnExactAccuracyOfx0
import Derived.Test.YtpooojgeonpmnaaZExactAccuracyOfPFnExactAccuracyOfx1
import Derived.Test.YtpooojgeonpmnaaZExactAccuracyOfPFnExactAccuracyOfx2
import Derived.Test.YtpooojgeonpmnaaZExactAccuracyOfPFnExactAccuracyOfx4
import Derived.Test.YtpooojgeonpmnaaZExactAccuracyOfPFnExactAccuracyOfx8
import Derived.Test.YtpooojgeonpmnaaZExactAccuracyOfPFnExactAccuracyOfx9
import Derived.Test.YtpooojgeonpmnaaZExactAccuracyOfPFnExactAccuracyOfx10
namespace Go.Proofs.Ytpooojgeonpmnaa.PFnExactAccuracyOf
open Go.RowKit Go.Proofs.YtpooojgeonpmnaaW.PrintWords Go.Proofs.YtpooojgeonpmnaaW.PrintLast Go.Proofs.YtpooojgeonpmnaaW.PrintMore
attribute [local go_sem] max2_int min2_int max_two min_two max_three min_three max_four min_four   -- for this text's walks alone
set_option linter.unusedVariables false
set_option linter.unusedSimpArgs false
theorem last_getD (l : List Int) : rd l ((l.length : Int) - 1) = l.getD (l.length - 1) 0 := by
 unfold rd
 congr 1
 omega
theorem xInIdx_ev (l : List Int) (x : Int) (h : l.length ≤ 1048576) : Ev (fun k => slices_Index_int64_int64.f k l x) (xIdx (fun y => decide (y = x)) l 0) := by
 unfold slices_Index_int64_int64.f
 have key : ∀ d i, l.length - i = d → i ≤ l.length → Ev (fun k => slices_Index_int64_int64.l0 k l x (l.length : Int) (i : Int)) (xIdx (fun y => decide (y = x)) (l.drop i) (i : Int)) := by
  intro d
  induction d with
  | zero =>
   intro i hd hi
   refine Ev.succ ?_
   simp only [slices_Index_int64_int64.l0]
   exact Ev.neg (by omega) (Ev.some (by rw [List.drop_eq_nil_of_le (by omega)]; rfl))
  | succ d ih =>
   intro i hd hi
   refine Ev.succ ?_
   simp only [slices_Index_int64_int64.l0]
   rw [wrap_succ (show i < l.length by omega) (by omega), drop_cons l i 0 (by omega)]
   refine Ev.pos (by omega) (Ev.pos (by omega) (Ev.pos (by omega) ?_))
   have er : rd l (i : Int) = l.getD i 0 := rfl
   rw [er]
   unfold xIdx
   by_cases hx : l.getD i 0 = x
   ·rw [if_pos (by simpa using hx)]; exact Ev.pos hx.symm (Ev.some rfl)
   ·rw [if_neg (by simpa using hx)]; exact Ev.neg (fun e => hx e.symm) (ih (i + 1) (by omega) (by omega))
 have := key l.length 0 (by omega) (by omega)
 simpa using this
theorem permuted_ev (l o : List Int) (hl : o.length ≤ 1048576) (ho : ∀ j ∈ o, 0 ≤ j ∧ j < (l.length : Int)) : Ev (fun k => impl_permuted.f k l o) (o.map fun j => rd l j) := by
 unfold impl_permuted.f
 refine Ev.upto (F := fun k s i => impl_permuted.l0 k l s o (o.length : Int) i) (n := o.length) (r := o.map fun j => rd l j) (fun i s => s = (o.take i).map fun j => rd l j) ?_ ?_ 0 (Nat.zero_le _) _ (by simp)
 ·intro i s hi hs ih
  have hsl : s.length ≤ 1048576 := by rw [hs, List.length_map, List.length_take]; omega
  have hrd : rd o (i : Int) = o.getD i 0 := rfl
  have hj := ho _ (getD_mem o i 0 hi)
  refine Ev.succ ?_
  simp only [impl_permuted.l0]
  rw [hrd, wrap_succ hi (by omega)]
  refine Ev.pos (by omega) (Ev.pos (by omega) (Ev.pos (by omega) (Ev.pos hj.1 (Ev.pos hj.2 (Ev.pos (by omega) (ih _ ?_))))))
  rw [take_succ o i 0 hi, List.map_append, hs]
  rfl
 ·intro s hs
  refine Ev.succ ?_
  simp only [impl_permuted.l0]
  exact Ev.neg (by omega) (Ev.some (by rw [hs, List.take_length]))
/-- The marks of the program's run: a map to true. -/
def markM (ms : List Int) (k : Int) : Option Value := if hasF ms k = true then some (.bool true) else none
def goneF (c : List Int) (a : Int) : Int := if 0 ≤ ageOf c a then -1 else lastF c
theorem ageOf_has (c : List Int) (x : Int) : decide (0 ≤ ageOf c x) = hasF c x := by
 have := xIdx_nonneg (fun y => decide (y = x)) c 0 (Int.le_refl _)
 unfold hasF
 rw [← this]
 rfl
theorem implStepF_ev {h : List (List Int)} {m : List Int} {n : Nat} (hn : 1 ≤ n ∧ n ≤ 6) (hhl : h.length = n) (c : List Int) (hc : c.length = n) (a : Int) (hok : okStep h m c a = true) : Ev (fun k => impl_Policy_step.f k h m c a) ((stepV h m c a).1, goneF c a, (stepV h m c a).2) := by
 simp only [okStep, Bool.and_eq_true, decide_eq_true_eq, List.all_eq_true] at hok
 obtain ⟨_, _, o1, o2⟩ := hok
 have hage := xIdx_ge (fun y => decide (y = a)) c 0
 have hage' : ageOf c a = -1 ∨ 0 ≤ ageOf c a ∧ ageOf c a < 0 + c.length := hage
 unfold impl_Policy_step.f
 have hix : Ev (fun k => slices_Index_int64_int64.f k c a) (ageOf c a) := xInIdx_ev c a (by omega)
 by_cases hp : 0 ≤ ageOf c a
 ·have eg : goneF c a = -1 := by unfold goneF; rw [if_pos hp]
  rw [eg]
  refine Ev.bind hix (Ev.pos hp (Ev.pos hp (Ev.pos (by omega) ?_)))
  have e2 : stepOld c a = c := by unfold stepOld; rw [if_pos hp]
  have er : stepOrd h m c a = h.getD (ageOf c a).toNat ([] : List Int) := by unfold stepOrd; rw [if_pos hp]
  refine Ev.bind (a := (stepOrd h m c a).map (fun j => rd c j)) ?_ (Ev.some ?_)
  ·rw [er] at o1 o2 ⊢
   exact permuted_ev c _ o1 (fun j hj => o2 j hj)
  ·unfold stepV
   rw [e2, decide_eq_true hp]
 ·have eg : goneF c a = rd c ((c.length : Int) - 1) := by unfold goneF; rw [if_neg hp]; exact (last_getD c).symm
  rw [eg]
  refine Ev.bind hix (Ev.neg hp (Ev.bindc (show slices_Clone_int64_int64.f c = some c by unfold slices_Clone_int64_int64.f; rw [if_pos (by omega)]) ?_))
  rw [wrap_id (by omega) (by omega)]
  refine Ev.pos (by omega) (Ev.pos (by omega) ?_)
  have e1 : stepOrd h m c a = m := by unfold stepOrd; rw [if_neg hp]
  have e2 : stepOld c a = c.set ((c.length : Int) - 1).toNat a := by
   unfold stepOld; rw [if_neg hp]
   congr 1; omega
  rw [← e2]
  rw [e1] at o1 o2
  refine Ev.bind (permuted_ev _ m o1 (fun j hj => by rw [stepOld_length]; exact o2 j hj)) (Ev.some ?_)
  unfold stepV
  rw [e1, decide_eq_false hp]
/-- The object of the program's run, and all that it leads to. -/
def ImplF (w0 w : World) (R : List (Thing × Nat × Nat)) (g p m : Nat) (A0 : Option Addr) (c0 n0 : Nat) (A1 : Option Addr) (c1 n1 : Nat) (s : FetchV) : Prop :=
 ∃ (bk kc lk hk : Nat) (KP : Option Addr) (kp lp hp : Nat) (M : Int → Option Value) (mn : Nat), ((∀ k, M k = markM s.c.ms k) ∧ mn = s.c.ms.length) ∧
  Hold w0 w ((boxT #[.slice A0 n0 c0, .slice A1 n1 c1, .slice (some ⟨bk, 0, none⟩) m kc, .map (some p), .slice KP s.pd.length kp, .int .i64 0, .int .i64 0, .int .i64 0, .int .i64 0, .int .i64 s.is, .int .i64 s.c.us] 103, g, g + 1) :: (flat (Kd.int .i64) 2 (.slice (some ⟨bk, 0, none⟩) m kc) s.c.cont, lk, hk) :: (mapT Try.prog 2 M mn, p, p + 1) :: (flat kPair 108 (.slice KP s.pd.length kp) s.pd, lp, hp) :: R)
theorem lit_wfF {z : Int} (h : -1048576 ≤ z ∧ z ≤ 1048576) : (Lit.int .i64 z).wf = true := by
 simp only [Lit.wf, Bool.and_eq_true, decide_eq_true_eq]
 exact ⟨by show (-9223372036854775808 : Int) ≤ z; omega, by show z ≤ (9223372036854775807 : Int); omega⟩
set_option maxRecDepth 100000 in
theorem look_mark {w0 W : World} {L : List (Thing × Nat × Nat)} {M : Int → Option Value} {mn p p' : Nat} {ms : List Int} (h : Hold w0 W L) (hm : (mapT Try.prog 2 M mn, p, p') ∈ L) (hM : ∀ k, M k = markM ms k) {o : Int} (ho : -1048576 ≤ o ∧ o ≤ 1048576) :
  (Instr.lookup 100 (.map (some p)) (.int .i64 o) false).run Try.prog W = .ok (.bool (hasF ms o)) W := by
 have h1 := h.mlook (t := 100) (e := 4) (z := .bool false) (k := o) hm Try.underlying2 Try.underlying100 (fun _ => rfl) (lit_wfF ho)
 rw [h1, hM o, markM]
 cases hasF ms o <;> rfl
theorem wpList_del_eq {P : Program} {w : World} {ops : Array Oper} {rest : List Oper} {o : Oper} {a : Act} {Q : Exit → Act → World → Prop} (hgd : o.guard = none) (d s : Operand) (t t' : TypeId)
  (ho : o.op = .call { callee := .builtin .delete, args := #[d, s], argTypes := #[t, t'] }) (v u : Value) (hd : a.eval d = v) (hs : a.eval s = u) {v' : Value} {w' : World}
  (hr : ∀ ty, (Builtin.delete_ #[t, t'] ty #[v, u]).run P w = .ok v' w') (h : wpList P ops Q rest (a.put o.dst v') w') : wpList P ops Q (o :: rest) a w := by
 refine wpList_plain hgd fun K hK => ?_
 unfold Oper.wp execOp
 simp only [ho, resolve, invoke, builtin, Sem.run_bind, Sem.run_pure, Result.andThen_ok, List.map_toArray, List.map_cons, List.map_nil, hd, hs, hr]
 exact hK _ _ h
set_option maxRecDepth 100000 in
theorem del_at {w0 W : World} {L : List (Thing × Nat × Nat)} {D : Int → Option Value} {nd q q' TT e : Nat} {old : Int} (h : Hold w0 W L) (hm : (mapT Try.prog 2 D nd, q, q') ∈ L) (hK : Try.prog.underlying 2 = some (.int .i64)) (ht : Try.prog.underlying TT = some (.map 2 e)) (hw : (Lit.int .i64 old).wf = true) :
  ∃ W', (∀ ty, (Builtin.delete_ #[TT, 2] ty #[.map (some q), .int .i64 old]).run Try.prog W = .ok (.tuple #[]) W') ∧ ∀ L', Sw (mapT Try.prog 2 D nd, q, q') (mapT Try.prog 2 (fun j => if j = old then none else D j) (if (D old).isSome then nd - 1 else nd), q, q') L L' → Hold w0 W' L' := by
 obtain ⟨W', h1, h2⟩ := h.mdel (t := TT) (e := e) hm hK ht hw 0
 exact ⟨W', fun ty => h1, h2⟩
theorem hasF_drop (ms : List Int) (x j : Int) : hasF (dropM ms x) j = (decide (j ≠ x) && hasF ms j) := by
 rw [Bool.eq_iff_iff, hasF_mem, dropM_mem, Bool.and_eq_true, hasF_mem, decide_eq_true_eq]
 exact And.comm
theorem hasF_put (ms : List Int) (x j : Int) : hasF (putR x ms) j = (decide (j = x) || hasF ms j) := by
 rw [Bool.eq_iff_iff, hasF_mem, putR_mem, Bool.or_eq_true, hasF_mem, decide_eq_true_eq]
theorem mark_del {M : Int → Option Value} {ms : List Int} (hM : ∀ k, M k = markM ms k) (x k : Int) : (if k = x then none else M k) = markM (dropM ms x) k := by
 unfold markM
 rw [hasF_drop]
 by_cases e : k = x
 ·rw [if_pos e, decide_eq_false (fun h => h e)]; rfl
 ·rw [if_neg e, decide_eq_true e, Bool.true_and, hM k]; rfl
theorem mark_some {M : Int → Option Value} {ms : List Int} (hM : ∀ k, M k = markM ms k) (x : Int) : (M x).isSome = hasF ms x := by
 rw [hM x]
 unfold markM
 cases hasF ms x <;> rfl
theorem del_len {M : Int → Option Value} {ms : List Int} (hM : ∀ k, M k = markM ms k) (hr : ms.Pairwise (· < ·)) (x : Int) : (if (M x).isSome = true then ms.length - 1 else ms.length) = (dropM ms x).length := by
 rw [mark_some hM x]
 by_cases e : hasF ms x = true
 ·rw [if_pos e]
  have := dropM_len hr ((hasF_mem _ _).1 e)
  omega
 ·rw [if_neg e, dropM_not (fun h => e ((hasF_mem _ _).2 h))]
/-- One step of the program: what has been replaced loses its mark, and so does the line. -/
theorem gone_marks {m : Nat} {c : CoreF} (h : c.Ok m) (hit : List (List Int)) (miss : List Int) (line : Int) : (putF hit miss line c).ms = dropM c.ms (goneF c.cont line) ∧ (putF hit miss line c).us = (if hasF c.ms (goneF c.cont line) = true then c.us + 1 else c.us) := by
 have ha := ageOf_has c.cont line
 unfold putF
 by_cases hc : hasF c.cont line = true
 ·rw [if_pos hc]
  have h0 : 0 ≤ ageOf c.cont line := by rw [hc] at ha; exact of_decide_eq_true ha
  have hg : goneF c.cont line = -1 := by unfold goneF; rw [if_pos h0]
  have hn : (-1 : Int) ∉ c.ms := fun k => by have := h.marks _ k; omega
  rw [hg, dropM_not hn, if_neg (by rw [(hasF_not _ _).2 hn]; simp)]
  exact ⟨rfl, rfl⟩
 ·rw [if_neg hc]
  have h0 : ¬ 0 ≤ ageOf c.cont line := fun k => hc (by rw [← ha]; exact decide_eq_true k)
  have hg : goneF c.cont line = lastF c.cont := by unfold goneF; rw [if_neg h0]
  rw [hg]
  show (unmarkF (lastF c.cont) true c.ms c.us).1 = _ ∧ (unmarkF (lastF c.cont) true c.ms c.us).2 = _
  unfold unmarkF
  by_cases hl : hasF c.ms (lastF c.cont) = true
  ·rw [if_pos hl, if_pos hl]; exact ⟨rfl, rfl⟩
  ·rw [if_neg hl, if_neg hl, dropM_not (fun k => hl ((hasF_mem _ _).2 k))]; exact ⟨rfl, rfl⟩
theorem gone_range {m : Nat} {c : CoreF} (h : c.Ok m) (hm : 1 ≤ m) (line : Int) : -1 ≤ goneF c.cont line ∧ goneF c.cont line ≤ 63 := by
 unfold goneF
 split
 ·omega
 ·exact h.lines _ (getD_memF c.cont _ 0 (by have := h.cont; omega))
theorem putF_cont (hit : List (List Int)) (miss : List Int) (line : Int) (c : CoreF) : (putF hit miss line c).cont = (stepV hit miss c.cont line).1 := by
 unfold putF
 split <;> rfl
set_option maxHeartbeats 4000000 in
set_option maxRecDepth 100000 in
theorem istep_calls {w0 w : World} {R : List (Thing × Nat × Nat)} {g p m bk kc lk hk mn : Nat} {A0 : Option Addr} {c0 : Nat} {l0 : List (List Int)} {A1 : Option Addr} {c1 : Nat} {l1 : List Int} {M : Int → Option Value} {v4 v5 v6 v7 v8 v9 : Value} {c : CoreF} {line : Int} (h : Hold w0 w ((boxT #[.slice A0 l0.length c0, .slice A1 l1.length c1, .slice (some ⟨bk, 0, none⟩) m kc, .map (some p), v4, v5, v6, v7, v8, v9, .int .i64 c.us] 103, g, g + 1) :: (flat (Kd.int .i64) 2 (.slice (some ⟨bk, 0, none⟩) m kc) c.cont, lk, hk) :: (mapT Try.prog 2 M mn, p, p + 1) :: R)) (hr0 : Rd w0 R (Kd.slice 2 (Kd.int .i64)) A0 l0) (hc0 : l0.length ≤ c0) (hr1 : Rd w0 R (Kd.int .i64) A1 l1) (hc1 : l1.length ≤ c1) (hhl : l0.length = m) (hm1 : 1 ≤ m ∧ m ≤ 6) (hok : ∀ (c : List Int) (x : Int), c.length = m → okStep l0 l1 c x = true) (hlen : ∀ (c : List Int) (x : Int), c.length = m → (stepV l0 l1 c x).1.length = m) (hco : c.Ok m) (hus : 0 ≤ c.us ∧ c.us ≤ 1048576) (hM : ∀ k, M k = markM c.ms k) (hmn : mn = c.ms.length) (hli : 0 ≤ line ∧ line ≤ 63) :
  Calls Try.prog 105 #[.pointer (some ⟨g, 0, none⟩), .int .i64 line] w fun e w' => e = .returned (.tuple #[]) ∧ ∃ bk2 kc2 lk2 hk2 M2 mn2, (∀ k, M2 k = markM (useF l0 l1 line c).ms k) ∧ mn2 = (useF l0 l1 line c).ms.length ∧ Hold w0 w' ((boxT #[.slice A0 l0.length c0, .slice A1 l1.length c1, .slice (some ⟨bk2, 0, none⟩) m kc2, .map (some p), v4, v5, v6, v7, v8, v9, .int .i64 (useF l0 l1 line c).us] 103, g, g + 1) :: (flat (Kd.int .i64) 2 (.slice (some ⟨bk2, 0, none⟩) m kc2) ((useF l0 l1 line c).cont), lk2, hk2) :: (mapT Try.prog 2 M2 mn2, p, p + 1) :: R) := by
 have HS := h
 clear h
 have hu1 := hus.1
 have hu2 := hus.2
 have HR0 := Aside0.mk hr0
 have HC0 := Aside0.mk hc0
 have HR1 := Aside0.mk hr1
 have HC1 := Aside0.mk hc1
 have HHL := Aside0.mk hhl
 have HM1 := Aside0.mk hm1
 have HOK := Aside0.mk hok
 have HLN := Aside0.mk hlen
 have HCO := Aside0.mk hco
 have HUS := Aside0.mk hus
 have HM := Aside0.mk hM
 have HMN := Aside0.mk hmn
 have HLI := Aside0.mk hli
 clear hr0 hc0 hr1 hc1 hhl hm1 hok hlen hco hus hM hmn hli
 have HCM := Aside0.mk (HS.reads' at1).1
 obtain ⟨old, hold⟩ : ∃ old, goneF c.cont line = old := ⟨_, rfl⟩
 have EV := Aside0.mk (implStepF_ev HM1.out HHL.out c.cont HCO.out.cont line (HOK.out _ _ HCO.out.cont))
 have HGM := gone_marks HCO.out l0 l1 line
 have HGR := gone_range HCO.out HM1.out.1 line
 rw [hold] at EV HGM HGR
 have HG := Aside0.mk HGM
 have HR := Aside0.mk HGR
 clear hold HGM HGR
 have HSL := Aside0.mk (HLN.out c.cont line HCO.out.cont)
 obtain ⟨bb, hbb⟩ : ∃ bb, hasF c.ms old = bb := ⟨_, rfl⟩
 have HBB := Aside0.mk hbb
 clear hbb
 go_enter Try.func105, Try.ntmps105
 go_upto_region 0 with fail
 have HD := Hold.drew HS
 refine start_ (n := 17) (S := fun w' => w'.cell? ⟨g, 0, none⟩ = some (.slice A0 l0.length c0) ∧ w'.cell? ⟨g, 1, none⟩ = some (.slice A1 l1.length c1) ∧ w'.cell? ⟨g, 2, none⟩ = some (.slice (some ⟨bk, 0, none⟩) m kc)) (ds := []) #[false, false, false, false, false, false, false, false, false, false, false, false, false, false, false, false, false] (by kernel_rfl) rfl rfl ⟨(HD.cell at0 0 _ rfl), (HD.cell at0 1 _ rfl), (HD.cell at0 2 _ rfl)⟩ (fun hHeld => ?_)
 generalize w.drew = wd at HD hHeld ⊢
 refine pu_ (i := 0) (N := some 8) (h := ?_)
 refine pu_ (i := 1) (N := some 9) (h := ?_)
 refine pu_ (i := 2) (N := some 10) (h := ?_)
 refine pu_ (i := 4) (N := some 12) (h := ?_)
 refine pu_ (i := 5) (N := some 13) (h := ?_)
 refine pu_ (i := 6) (N := some 14) (h := ?_)
 refine pu_ (i := 8) (N := some 16) (h := ?_)
 refine ta_ (i := 3) (N := some 11) (hS := hHeld) (hy := by rintro w' ⟨s0, s1, s2⟩; go_simp; with_reducible rfl) (h := ?_)
 refine ta_ (i := 7) (N := some 15) (hS := hHeld) (hy := by rintro w' ⟨s0, s1, s2⟩; go_simp; with_reducible rfl) (h := ?_)
 refine one_ (i := 9) (N := some 17) #[true, true, true, true, true, true, true, true, true, true, false, false, false, false, false, false, false] rfl rfl (by kernel_rfl) (by decide) (fun K hK => ?_)
 refine goes_ Try.func134 (by kernel_rfl) rfl #[.agg #[.slice A0 l0.length c0, .slice A1 l1.length c1], .slice (some ⟨bk, 0, none⟩) m kc, .int .i64 line] (by rfl) rfl rfl (by simp only [List.map_toArray, List.map_cons, List.map_nil]; rfl) ?_
 with_reducible refine (show Calls _ _ #[.agg #[.slice A0 l0.length c0, .slice A1 l1.length c1], .slice (some ⟨bk, 0, none⟩) m kc, .int .i64 line] _ _ from HCM.out ▸ impl_Policy_step.calls (Ev.num EV.out) A0 c0 l0 A1 c1 l1 (some ⟨bk, 0, none⟩) kc c.cont line (stepV l0 l1 c.cont line).1 old (stepV l0 l1 c.cont line).2 _ (HR0.out.at HD (fun _ hx_ => (in3 hx_))) HC0.out (HR1.out.at HD (fun _ hx_ => (in3 hx_))) HC1.out (HD.reads' at1).2.2 (HD.reads' at1).2.1 (Ev.is EV.out)).mono ?_
 rintro e w1 ⟨v_, rfl, hr, hb⟩
 refine ⟨_, rfl, ?_⟩
 replace HD := HD.made hb hr
 clear hb hr
 obtain ⟨bk2, kc2, rfl, _, _⟩ := HD.row_form at0 (by rw [HSL.out]; have := HM1.out; omega)
 rw [HSL.out] at HD ⊢
 have s0_ : w1.cell? ⟨g, 0, none⟩ = some (.slice A0 l0.length c0) := HD.cell at1 0 _ rfl
 have s1_ : w1.cell? ⟨g, 1, none⟩ = some (.slice A1 l1.length c1) := HD.cell at1 1 _ rfl
 have s2_ : w1.cell? ⟨g, 2, none⟩ = some (.slice (some ⟨bk, 0, none⟩) m kc) := HD.cell at1 2 _ rfl
 refine hK.out _ _ ⟨s0_, s1_, s2_⟩ (fun hHeld => ?_)
 clear hK K
 refine norm_ (a' := ?_) ?_ ?_
 rotate_left
 ·show Act.put _ (some 17) _ = _
  simp only [Act.put, List.setIfInBounds_toArray, List.set_cons_zero, List.set_cons_succ, i64_w, i32_w]
  rfl
 refine pu_ (i := 10) (N := some 7) (h := ?_)
 refine pu_ (i := 11) (N := some 18) (h := ?_)
 refine pu_ (i := 12) (N := some 19) (h := ?_)
 refine pu_ (i := 13) (N := some 20) (h := ?_)
 refine pu_ (i := 14) (N := some 4) (h := ?_)
 refine pu_ (i := 15) (N := some 5) (h := ?_)
 refine pu_ (i := 16) (N := some 6) (h := ?_)
 refine done_ (by kernel_rfl) ?_
 clear hHeld s0_ s1_ s2_
 replace HS := HD
 clear HD
 have q2 : w1.cell? ⟨g, 2, none⟩ = some (.slice (some ⟨bk, 0, none⟩) m kc) := HS.cell at1 2 _ rfl
 have fzq : ∀ j, w1.frozen? ⟨g, j, none⟩ = false := HS.thaw at1
 go_upto_region 2 with fail
 clear q2 fzq
 replace HS := HS.setBox 2 (.slice (some ⟨bk2, 0, none⟩) m kc2) (.there .here)
 simp only [List.setIfInBounds_toArray, List.set_cons_zero, List.set_cons_succ] at HS
 generalize w1.setCell ⟨g, 2, none⟩ (.slice (some ⟨bk2, 0, none⟩) m kc2) = w2 at HS ⊢
 replace HS := HS.pick tk2
 replace HS := HS.tail
 replace HS := HS.pick tk2
 replace HS := HS.pick tk1
 replace HS := HS.pick tk2
 have lk1 := look_mark HS at2 HM.out (o := old) (by have := HR.out; omega)
 rw [HBB.out] at lk1
 have q3 : w2.cell? ⟨g, 3, none⟩ = some (.map (some p)) := HS.cell at0 3 _ rfl
 cases bb
 ·go_upto_region 5 with fail
  clear lk1 q3
  have d3 : w2.cell? ⟨g, 3, none⟩ = some (.map (some p)) := HS.cell at0 3 _ rfl
  obtain ⟨w6, hdel, HQ⟩ := del_at (TT := 100) (old := line) HS at2 Try.underlying2 Try.underlying100 (lit_wfF (by have := HLI.out; omega))
  go_wp2_with ((at_builtin; refine wpList_del_eq rfl (.tmp 48) (.tmp 49) 100 2 rfl _ _ rfl rfl hdel ?_))
  replace HS := HQ _ (.there (.there .here))
  clear HQ hdel
  clear d3
  (try simp only [Exit.inBlock, Exit.then]); first | refine bodyPost_ret (results_none rfl _ _ _) rfl ?_ | refine bodyPost_end (results_none rfl _ _ _) rfl ?_
  have he : (putF l0 l1 line c).ms = c.ms := by rw [HG.out.1, dropM_not (fun k => by have := HBB.out; rw [(hasF_mem _ _).2 k] at this; cases this)]
  have hu : (putF l0 l1 line c).us = c.us := by rw [HG.out.2, if_neg (by rw [HBB.out]; simp)]
  exact ⟨rfl, bk2, kc2, _, _, fun j => if j = line then none else M j, (if (M line).isSome = true then mn - 1 else mn), fun j => (mark_del HM.out line j).trans (by show _ = markM (dropM (putF l0 l1 line c).ms line) j; rw [he]), (by rw [HMN.out, del_len HM.out HCO.out.rising line]; show _ = (dropM (putF l0 l1 line c).ms line).length; rw [he]), (by show Hold _ _ _; rw [show (useF l0 l1 line c).us = c.us from hu, show (useF l0 l1 line c).cont = (stepV l0 l1 c.cont line).1 from putF_cont l0 l1 line c]; exact HS)⟩
 ·go_upto_region 3 with fail
  clear lk1 q3
  have q10 : w2.cell? ⟨g, 10, none⟩ = some (.int .i64 c.us) := HS.cell at0 10 _ rfl
  have fzq : ∀ j, w2.frozen? ⟨g, j, none⟩ = false := HS.thaw at0
  go_upto_region 4 with fail
  clear q10 fzq
  replace HS := HS.setBox 10 (.int .i64 (c.us + 1)) .here
  simp only [List.setIfInBounds_toArray, List.set_cons_zero, List.set_cons_succ] at HS
  generalize w2.setCell ⟨g, 10, none⟩ (.int .i64 (c.us + 1)) = w4 at HS ⊢
  have d3 : w4.cell? ⟨g, 3, none⟩ = some (.map (some p)) := HS.cell at0 3 _ rfl
  obtain ⟨w5, hdel, HQ⟩ := del_at (TT := 100) (old := old) HS at2 Try.underlying2 Try.underlying100 (lit_wfF (by have := HR.out; omega))
  go_upto_region 5 with ((at_builtin; refine wpList_del_eq rfl (.tmp 43) (.tmp 44) 100 2 rfl _ _ rfl rfl hdel ?_))
  replace HS := HQ _ (.there (.there .here))
  clear HQ hdel
  clear d3
  have HM2 : Aside0 (∀ k, (if k = old then none else M k) = markM (dropM c.ms old) k) := ⟨mark_del HM.out old⟩
  have HN2 : Aside0 ((if (M old).isSome = true then mn - 1 else mn) = (dropM c.ms old).length) := ⟨by rw [HMN.out]; exact del_len HM.out HCO.out.rising old⟩
  obtain ⟨M2, hM2⟩ : ∃ M2, (fun j => if j = old then none else M j) = M2 := ⟨_, rfl⟩
  have HM3 : Aside0 (∀ k, M2 k = markM (dropM c.ms old) k) := ⟨fun k => by rw [← hM2]; exact HM2.out k⟩
  rw [hM2] at HS
  generalize (if (M old).isSome = true then mn - 1 else mn) = mn2 at HS HN2
  clear hM2 HM2
  have d3 : w5.cell? ⟨g, 3, none⟩ = some (.map (some p)) := HS.cell at0 3 _ rfl
  obtain ⟨w6, hdel, HQ⟩ := del_at (TT := 100) (old := line) HS at2 Try.underlying2 Try.underlying100 (lit_wfF (by have := HLI.out; omega))
  go_wp2_with ((at_builtin; refine wpList_del_eq rfl (.tmp 48) (.tmp 49) 100 2 rfl _ _ rfl rfl hdel ?_))
  replace HS := HQ _ (.there (.there .here))
  clear HQ hdel
  clear d3
  (try simp only [Exit.inBlock, Exit.then]); first | refine bodyPost_ret (results_none rfl _ _ _) rfl ?_ | refine bodyPost_end (results_none rfl _ _ _) rfl ?_
  exact ⟨rfl, bk2, kc2, _, _, fun j => if j = line then none else M2 j, (if (M2 line).isSome = true then mn2 - 1 else mn2), fun j => (mark_del HM3.out line j).trans (by show _ = markM (dropM (putF l0 l1 line c).ms line) j; rw [HG.out.1]), (by rw [HN2.out, del_len HM3.out (dropM_rising HCO.out.rising) line]; show _ = (dropM (putF l0 l1 line c).ms line).length; rw [HG.out.1]), (by show Hold _ _ _; rw [show (useF l0 l1 line c).us = c.us + 1 from HG.out.2.trans (if_pos HBB.out), show (useF l0 l1 line c).cont = (stepV l0 l1 c.cont line).1 from putF_cont l0 l1 line c]; exact HS)⟩
set_option maxHeartbeats 400000 in
/-- slices.IndexFunc over whole numbers, at whatever closure. -/
theorem xIdxPair (cl : Nat) (lb : Array Value) (eg : Enters Try.prog cl) (p : Int × Int → Bool) (A0 : Option Addr) (c0 : Nat) (l0 : List (Int × Int)) (w : World) (hr0 : Kd.C kPair w A0 l0.length l0)
  (hp : ∀ (W : World) (y : Int × Int), y ∈ l0 → Below w.heap.size w W → Calls Try.prog cl (#[.agg #[.int .i64 y.1, .int .i64 y.2]] ++ lb) W fun e w' => e = .returned (.bool (p y)) ∧ Below W.heap.size W w') :
  Calls Try.prog 112 #[.slice A0 l0.length c0, .func (.func cl) #[] lb] w fun e w' => e = .returned (.int .i64 (xIdx p l0 0)) ∧ Below w.heap.size w w' := by
 have HR0 := Aside0.mk hr0
 have HP := Aside0.mk hp
 have hbig := hr0.2.1
 have eg' : ∀ args w, (callFunc cl args).run Try.prog w = .ok (.enter cl args) w := eg
 clear hr0 hp
 go_enter Try.func112, Try.ntmps112
 go_wp2
 go_loopg [5, 8] l0.length (fun gg _ s8 wr => ∃ kk : Nat, kk ≤ l0.length ∧ l0.length - kk ≤ gg ∧ s8 = .int .i64 kk ∧ Aside0 (Below w.heap.size w wr) ∧ Aside0 (xIdx p l0 0 = xIdx p (l0.drop kk) (kk : Int)))
 case atStart => exact ⟨0, Nat.zero_le _, by omega, rfl, ⟨Below.refl _ w⟩, ⟨by simp⟩⟩
 case round =>
  obtain ⟨kk, hkk, hg, rfl, BW, AX⟩ := hrel
  by_cases hlt : kk < l0.length
  ·have hltz : (kk : Int) < (l0.length : Int) := by omega
   obtain ⟨ad, e, hx0, hx1⟩ := at_P (Kd.C_below HR0.out BW.out) (kk : Int) (by omega) hltz
   subst e
   obtain ⟨y, hy⟩ : ∃ y, y = l0.getD kk (0, 0) := ⟨_, rfl⟩
   have hmem : y ∈ l0 := by rw [hy, getD_lt l0 kk _ hlt]; exact List.getElem_mem _
   simp only [Int.toNat_natCast] at hx0 hx1
   rw [← hy] at hx0 hx1
   have HY := Aside0.mk hy
   clear hy
   have hcall := HP.out _ y hmem BW.out
   cases hq : p y with
   | true =>
    rw [hq] at hcall
    have HQ := Aside0.mk hq
    have HCL := Aside0.mk hcall
    clear hq hcall
    go_wp2_with (go_at_fn cl; refine HCL.out.mono ?_; rintro e w' ⟨rfl, hb'⟩)
    go_ret
    refine ⟨?_, below_le BW.out hb'⟩
    have hyy : p (l0.getD kk (0, 0)) = true := by have := HQ.out; rw [HY.out] at this; exact this
    rw [AX.out, xIdx_drop_hit _ _ _ _ hlt _ hyy]
    rfl
   | false =>
    rw [hq] at hcall
    have HQ := Aside0.mk hq
    have HCL := Aside0.mk hcall
    clear hq hcall
    go_wp2_with (go_at_fn cl; refine HCL.out.mono ?_; rintro e w' ⟨rfl, hb'⟩)
    go_roundg (l0.length - (kk + 1))
    case measure => omega
    case rel =>
     have hyy : p (l0.getD kk (0, 0)) = false := by have := HQ.out; rw [HY.out] at this; exact this
     exact ⟨kk + 1, by omega, by omega, by go_num, ⟨below_le BW.out hb'⟩, ⟨by rw [AX.out, xIdx_drop_miss _ _ _ _ hlt _ hyy]; rfl⟩⟩
  ·have hltz : ¬ (kk : Int) < (l0.length : Int) := by omega
   have hle : l0.length ≤ kk := by omega
   go_wp2
   go_ret
   refine ⟨?_, BW.out⟩
   rw [AX.out, xIdx_drop_end _ _ _ hle]
   rfl
set_option maxHeartbeats 400000 in
theorem xPpCl (p : Int) (g : Nat) (W : World) (y : Int × Int) (h : W.cell? ⟨g, 0, none⟩ = some (.int .i64 p)) :
  Calls Try.prog 113 (#[.agg #[.int .i64 y.1, .int .i64 y.2]] ++ #[.pointer (some ⟨g, 0, none⟩)]) W fun e w' => e = .returned (.bool (decide (y.1 = p))) ∧ Below W.heap.size W w' := by
 show Calls _ _ #[.agg #[.int .i64 y.1, .int .i64 y.2], .pointer (some ⟨g, 0, none⟩)] _ _
 obtain ⟨b, hb⟩ : ∃ b, b = decide (y.1 = p) := ⟨_, rfl⟩
 have hb' : (y.1 == p) = b := by rw [hb]; rfl
 have hg : g < W.heap.size := World.block_lt_of_cell? _ _ h
 rw [← hb]
 clear hb
 go_enter Try.func113, Try.ntmps113
 go_wp2
 all_goals (go_ret; exact ⟨by first | rfl | (rw [hb']) | (simp [hb']), by first | exact below_alloc (Below.refl _ _) _ | exact Below.refl _ _⟩)
set_option maxHeartbeats 4000000 in
set_option maxRecDepth 100000 in
theorem iplace_calls {w0 w : World} {R : List (Thing × Nat × Nat)} {g n kp lp hp : Nat} {KP : Option Addr} {v0 v1 v2 v3 v5 v6 v7 v8 v9 v10 : Value} {pd : List (Int × Int)} {line : Int} (h : Hold w0 w ((boxT #[v0, v1, v2, v3, .slice KP n kp, v5, v6, v7, v8, v9, v10] 103, g, g + 1) :: (flat kPair 108 (.slice KP n kp) pd, lp, hp) :: R)) :
  Calls Try.prog 71 #[.pointer (some ⟨g, 0, none⟩), .int .i64 line] w fun e w' => e = .returned (.int .i64 (placeF pd line)) ∧ Hold w0 w' ((boxT #[v0, v1, v2, v3, .slice KP n kp, v5, v6, v7, v8, v9, v10] 103, g, g + 1) :: (flat kPair 108 (.slice KP n kp) pd, lp, hp) :: R) := by
 have HN := Aside0.mk (h.reads' at1).1
 have HS := h.box #[.int .i64 line] 2
 clear h
 have hlb := HS.blk at0
 have HLB := Aside0.mk hlb
 clear hlb
 have q4 : (w.alloc (.cells #[.int .i64 line] 2)).cell? ⟨g, 4, none⟩ = some (.slice KP n kp) := HS.cell at1 4 _ rfl
 have fzq : ∀ j, (w.alloc (.cells #[.int .i64 line] 2)).frozen? ⟨g, j, none⟩ = false := HS.thaw at1
 go_enter Try.func71, Try.ntmps71
 go_wp2_with fail
 clear q4 fzq
 generalize (w.alloc (.cells #[.int .i64 line] 2)) = w1 at HS HLB ⊢
 generalize w.heap.size = xb at HS HLB ⊢
 have HC := Aside0.mk (xIdxPair 113 #[.pointer (some ⟨xb, 0, none⟩)] (enters_of Try.func113 (by kernel_rfl) rfl) (fun y => decide (y.1 = line)) KP kp pd w1 (HS.reads' at2).2.2 (fun W y _ hW => xPpCl line xb W y (blk_cell (blk_below HLB.out hW) 0)))
 rw [← HN.out] at HC
 refine HC.out.mono ?_
 rintro e w2 ⟨rfl, hb⟩
 clear HC
 replace HS := HS.step hb
 clear hb
 obtain ⟨r_, hr_⟩ : ∃ r_, xIdx (fun y : Int × Int => decide (y.1 = line)) pd 0 = r_ := ⟨_, rfl⟩
 rw [hr_]
 have HRR := Aside0.mk hr_
 clear hr_
 go_wp2_with fail
 go_ret
 exact ⟨by rw [← HRR.out]; unfold placeF linesF; rw [xIdx_map]; rfl, HS.tail⟩
theorem cut_at2 {P : Program} (t e : TypeId) (ht : P.underlying t = some (.slice e)) (hi : (P.info? e).map (·.size) = some 2) (g n c m : Nat) (hm : m ≤ n) :
  ∀ W : World, (Instr.slice t (.slice (some ⟨g, 0, none⟩) n c) (some (.int .i64 (m : Int))) none none).run P W = .ok (.slice (if c = m then some (⟨g, 0, none⟩ : Addr) else (some (⟨g, 0, none⟩ : Addr)).map (·.add (m * 2))) (n - m) (c - m)) W := by
 intro W
 obtain ⟨i0, hi0, hsz⟩ := Option.map_eq_some_iff.1 hi
 have hel : P.elem t = e := by simp [Program.elem, ht]
 have hu : P.underlying t = some (.slice (P.elem t)) := by rw [hel]; exact ht
 rw [run_slice_l W t (some ⟨g, 0, none⟩) n c hu .i64 (m : Int) (Int.natCast_nonneg _) (by omega), hel]
 simp [sizeOf, typeInfo, hi0, hsz, sliced, Result.andThen]
/-- clear of one element of two cells. -/
theorem run_clear_two {P : Program} (w : World) (t e ty : TypeId) (z0 z1 : Value) (ht : P.underlying t = some (.slice e)) (hv : ∀ w, (zeroValue e).run P w = .ok (.agg #[z0, z1]) w) (h0 : z0.oneCell' = true) (h1 : z1.oneCell' = true) (b o c : Nat)
  (hc0 : (w.cell? ⟨b, o, none⟩).isSome = true) (hc1 : (w.cell? ⟨b, o + 1, none⟩).isSome = true) (hf0 : w.frozen? ⟨b, o, none⟩ = false) (hf1 : w.frozen? ⟨b, o + 1, none⟩ = false) :
  (Builtin.clear_ #[t] ty #[.slice (some ⟨b, o, none⟩) 1 c]).run P w = .ok (.tuple #[]) (w.setCells b o [z0, z1]) := by
 have hzc : (Builtin.zeroCells (Value.agg #[z0, z1]).cells 1).toList = [z0, z1] := by
  simp [Builtin.zeroCells, Value.cells]
  rfl
 have hst := run_storeCells_cells (P := P) b o [z0, z1] 0 w (fun j hj => by
  have hj2 : j < 2 := hj
  match j, hj2 with
  | 0, _ => exact hc0
  | 1, _ => exact hc1) (fun j hj => by
  have hj2 : j < 2 := hj
  match j, hj2 with
  | 0, _ => exact hf0
  | 1, _ => exact hf1) (by intro v hv'; simp only [List.mem_cons, List.not_mem_nil, or_false] at hv'; rcases hv' with rfl | rfl <;> assumption)
 simp only [Nat.add_zero] at hst
 simp [Builtin.clear_, run_underlying ht, hv, hzc, hst]
set_option maxHeartbeats 1600000 in
/-- slices.Delete(s, i, i+1) on a row of the list. -/
theorem ho_deleteP {w0 w : World} {R : List (Thing × Nat × Nat)} {g n c lo hi i : Nat} {l : List (Int × Int)} (h : Hold w0 w ((flat kPair 108 (.slice (some ⟨g, 0, none⟩) n c) l, lo, hi) :: R)) (hil : i < l.length) (hl : l.length ≤ 1048576) :
  Calls Try.prog 106 #[.slice (some ⟨g, 0, none⟩) n c, .int .i64 i, .int .i64 ((i : Int) + 1)] w fun e w' => e = .returned (.slice (some ⟨g, 0, none⟩) (n - 1) c) ∧ Hold w0 w' ((flat kPair 108 (.slice (some ⟨g, 0, none⟩) (n - 1) c) (l.eraseIdx i), lo, hi) :: R) := by
 obtain ⟨rfl, hlc, _⟩ := h.reads' at0
 have HC := Aside0.mk hlc
 have HI := Aside0.mk hil
 have HS := h.drew
 clear h
 have h0 : (0 : Int) ≤ i := by omega
 have h1 : (i : Int) + 1 ≤ l.length := by omega
 have h2 : (l.length : Int) ≤ c := by omega
 have hne : decide ((i : Int) = (i : Int) + 1) = false := decide_eq_false (by omega)
 have h3 : ((i : Int) ≤ (i : Int) + 1) = True := eq_true (by omega)
 have h4 : (0 ≤ (i : Int) + 1) = True := eq_true (by omega)
 have hs := HS.sits _ at0
 have hP : kPair.R 108 w.drew lo (In lo hi) (.slice (some ⟨g, 0, none⟩) l.length c) l := hs.1
 have HO := Aside0.mk (Kd.R_lower hP hs.2.1)
 have HB := Aside0.mk HS.below
 have HZ := Aside0.mk HS.below.size
 clear hP hs
 obtain ⟨A1, hA1⟩ : ∃ A1, A1 = if c = i + 1 then some (⟨g, 0, none⟩ : Addr) else (some (⟨g, 0, none⟩ : Addr)).map (·.add ((i + 1) * 2)) := ⟨_, rfl⟩
 have hcut : ∀ W : World, (Instr.slice 101 (.slice (some ⟨g, 0, none⟩) l.length c) (some (.int .i64 ((i : Int) + 1))) none none).run Try.prog W = .ok (.slice A1 (l.length - (i + 1)) (c - (i + 1))) W := fun W => by
  have := cut_at2 (P := Try.prog) 101 108 Try.underlying101 (by kernel_rfl) g l.length c (i + 1) (by omega) W
  rw [← hA1] at this
  simpa using this
 have HA := Aside0.mk hA1
 clear hA1
 have h5 : (i ≤ c) = True := eq_true (by omega)
 go_enter Try.func106, Try.ntmps106
 go_wp2_with fail
 refine start_ (n := 8) (S := fun w' => True) (ds := []) #[false, false, false, false, false, false, false, false] (by kernel_rfl) rfl rfl trivial (fun hHeld => ?_)
 generalize w.drew = wd at HS HO HB HZ ⊢
 refine pu_ (i := 0) (N := some 20) (h := ?_)
 refine pu_ (i := 1) (N := some 21) (h := ?_)
 refine pu_ (i := 2) (N := some 22) (h := ?_)
 refine pu_ (i := 3) (N := some 23) (h := ?_)
 refine pu_ (i := 4) (N := some 24) (h := ?_)
 refine pu_ (i := 5) (N := some 25) (h := ?_)
 refine one_ (i := 6) (N := some 26) #[true, true, true, true, true, true, true, false] rfl rfl (by kernel_rfl) (by decide) (fun K hK => ?_)
 refine Kd.R_delete_step kPair (w0 := w0) w0.heap.size (by rfl) (.tmp 22) (.tmp 25) 101 108 (by rfl) Try.underlying101 (by kernel_rfl) (g := g) (n := l.length) (c := c) (k := i) (xs := l) (ok := In lo hi) rfl rfl ?hA ?hm HO.out HI.out HB.out HZ.out ?_
 case hA => rw [HA.out]; rfl
 case hm => first | rfl | omega
 intro w1 hr1 hb1 hg1
 refine hK.out _ _ trivial (fun hHeld => ?_)
 clear hK K
 refine norm_ (a' := ?_) ?_ ?_
 rotate_left
 ·show Act.put _ (some 26) _ = _
  simp only [Act.put, List.setIfInBounds_toArray, List.set_cons_zero, List.set_cons_succ, i64_w, i32_w]
  rfl
 refine pu_ (i := 7) (N := some 0) (h := ?_)
 refine done_ (by kernel_rfl) ?_
 have HS1 := HS.front (x := (flat kPair 108 (.slice (some ⟨g, 0, none⟩) l.length c) l, lo, hi)) (y := (flat kPair 108 (.slice (some ⟨g, 0, none⟩) (l.length - 1) c) (l.eraseIdx i), lo, hi)) hb1 ⟨hg1.size, fun k hk hn => hg1.block k hk (fun e_ => hn (by cases e_; exact HO.out.1 g (by simp [Value.ownBlock])))⟩ (show kPair.R 108 w1 lo (In lo hi) _ _ from Kd.R_raise (d := kPair) (b := w0.heap.size) (b' := lo) (fun _ _ _ _ h_ => h_) hr1 (fun k hk => (HO.out.1 k hk).1)) (.inl ⟨rfl, rfl⟩)
 have hroom := R_room hr1 (j := (l.length - 1) * 2) (by show (l.length - 1) * 2 < c * 2; have := HC.out; have := HI.out; omega)
 have hroom2 := R_room hr1 (j := (l.length - 1) * 2 + 1) (by show (l.length - 1) * 2 + 1 < c * 2; have := HC.out; have := HI.out; omega)
 have hcl := fun ty => run_clear_two (P := Try.prog) w1 101 108 ty (.int .i64 0) (.int .i64 0) Try.underlying101 (fun w => by kernel_rfl) rfl rfl g ((l.length - 1) * 2) (c - (l.length - 1)) hroom.1 hroom2.1 hroom.2 hroom2.2
 simp only [World.setCells] at hcl
 clear hr1 hb1 hg1 hroom hroom2 hHeld
 have hlow : ((l.length - 1 : Nat) : Int) ≤ (l.length : Int) := by omega
 have hpos : l.length - (l.length - 1) = 1 := by have := HI.out; omega
 go_wp2_with fail
 go_ret
 exact ⟨rfl, (HS1.slack (by show (l.length - 1) * 2 ≤ (l.length - 1) * 2; omega) _).slack (by show (l.length - 1) * 2 ≤ (l.length - 1) * 2 + 1; omega) _⟩
theorem mark_put2 {M : Int → Option Value} {hit : List (List Int)} {miss : List Int} {c : CoreF} {x : Int} (hM : ∀ k, M k = markM (useF hit miss x c).ms k) : ∀ k, (fun j => if j = x then some (Value.bool true) else M j) k = markM (markF hit miss x c).ms k := by
 intro k
 show (if k = x then some (Value.bool true) else M k) = _
 have h1 : hasF (markF hit miss x c).ms k = (decide (k = x) || hasF (putF hit miss x c).ms k) := hasF_put _ _ _
 unfold markM
 rw [h1]
 by_cases e : k = x
 ·rw [if_pos e, decide_eq_true e]; rfl
 ·rw [if_neg e, decide_eq_false e, Bool.false_or, hM k]
  unfold markM
  rw [show hasF (useF hit miss x c).ms k = (decide (k ≠ x) && hasF (putF hit miss x c).ms k) from hasF_drop _ _ _, decide_eq_true e, Bool.true_and]
theorem put_len2 {M : Int → Option Value} {hit : List (List Int)} {miss : List Int} {c : CoreF} {x : Int} {n : Nat} (hM : ∀ k, M k = markM (useF hit miss x c).ms k) (hn : n = (useF hit miss x c).ms.length) (hr : (putF hit miss x c).ms.Pairwise (· < ·)) : (if (M x).isSome = true then n else n + 1) = (markF hit miss x c).ms.length := by
 have h1 : hasF (useF hit miss x c).ms x = false := by
  rw [show hasF (useF hit miss x c).ms x = (decide (x ≠ x) && hasF (putF hit miss x c).ms x) from hasF_drop _ _ _]
  simp
 rw [mark_some hM x, if_neg (by rw [h1]; simp), hn]
 exact (putR_len x _ hr).symm
set_option maxHeartbeats 4000000 in
set_option maxRecDepth 100000 in
theorem iarrive_calls {w0 w : World} {R : List (Thing × Nat × Nat)} {g p m : Nat} {A0 : Option Addr} {c0 : Nat} {l0 : List (List Int)} {A1 : Option Addr} {c1 : Nat} {l1 : List Int} {s : FetchV} {kq : Nat} {now : Int} (h : ImplF w0 w R g p m A0 c0 l0.length A1 c1 l1.length s) (hr0 : Rd w0 R (Kd.slice 2 (Kd.int .i64)) A0 l0) (hc0 : l0.length ≤ c0) (hr1 : Rd w0 R (Kd.int .i64) A1 l1) (hc1 : l1.length ≤ c1) (hhl : l0.length = m) (hm1 : 1 ≤ m ∧ m ≤ 6) (hok : ∀ (c : List Int) (x : Int), c.length = m → okStep l0 l1 c x = true) (hlen : ∀ (c : List Int) (x : Int), c.length = m → (stepV l0 l1 c x).1.length = m) (hco : s.c.Ok m) (hb : s.Bnd kq) (hkq : kq ≤ 60) :
  Calls Try.prog 67 #[.pointer (some ⟨g, 0, none⟩), .int .i64 now] w fun e w' => e = .returned (.tuple #[]) ∧ ImplF w0 w' R g p m A0 c0 l0.length A1 c1 l1.length { s with c := arrF l0 l1 now s.pd s.c, pd := leftF now s.pd } := by
 obtain ⟨bk, kc, lk, hk, KP, kp, lp, hp, M, mn, ⟨hM, hmn⟩, HS⟩ := h
 change Hold w0 w ((boxT #[.slice A0 l0.length c0, .slice A1 l1.length c1, .slice (some ⟨bk, 0, none⟩) m kc, .map (some p), .slice KP s.pd.length kp, .int .i64 0, .int .i64 0, .int .i64 0, .int .i64 0, .int .i64 s.is, .int .i64 s.c.us] 103, g, g + 1) :: (flat (Kd.int .i64) 2 (.slice (some ⟨bk, 0, none⟩) m kc) s.c.cont, lk, hk) :: (mapT Try.prog 2 M mn, p, p + 1) :: (flat kPair 108 (.slice KP s.pd.length kp) s.pd, lp, hp) :: R) at HS
 have HM := Aside0.mk hM
 have HMN := Aside0.mk hmn
 have HR0 := Aside0.mk hr0
 have HC0 := Aside0.mk hc0
 have HR1 := Aside0.mk hr1
 have HC1 := Aside0.mk hc1
 have HHL := Aside0.mk hhl
 have HM1 := Aside0.mk hm1
 have HOK := Aside0.mk hok
 have HLN := Aside0.mk hlen
 have HCO := Aside0.mk hco
 have HB := Aside0.mk hb
 have HKQ := Aside0.mk hkq
 clear hM hmn hr0 hc0 hr1 hc1 hhl hm1 hok hlen hco hb hkq
 have HN0 := Aside0.mk (HS.reads' at3).2.1
 have HSE := HS.empty kPair 108
 go_enter Try.func67, Try.ntmps67
 have q4 : (w.alloc (.cells #[] 108)).cell? ⟨g, 4, none⟩ = some (.slice KP s.pd.length kp) := HSE.cell at1 4 _ rfl
 go_wp2_with fail
 clear q4
 replace HS := HSE
 clear HSE
 generalize (w.alloc (.cells #[] 108)) = w1 at HS ⊢
 generalize w.heap.size = bo at HS ⊢
 have H0 : Aside0 (∃ bk2 kc2 lk2 hk2 M2 mn2, (∀ k, M2 k = markM (arrF l0 l1 now (s.pd.take 0) s.c).ms k) ∧ mn2 = (arrF l0 l1 now (s.pd.take 0) s.c).ms.length ∧ Hold w0 w1 ((flat kPair 108 (.slice (some ⟨bo, 0, none⟩) (leftF now (s.pd.take 0)).length 0) (leftF now (s.pd.take 0)), _, _) :: (boxT #[.slice A0 l0.length c0, .slice A1 l1.length c1, .slice (some ⟨bk2, 0, none⟩) m kc2, .map (some p), .slice KP s.pd.length kp, .int .i64 0, .int .i64 0, .int .i64 0, .int .i64 0, .int .i64 s.is, .int .i64 ((arrF l0 l1 now (s.pd.take 0) s.c)).us] 103, g, g + 1) :: (flat (Kd.int .i64) 2 (.slice (some ⟨bk2, 0, none⟩) m kc2) (((arrF l0 l1 now (s.pd.take 0) s.c)).cont), lk2, hk2) :: (mapT Try.prog 2 M2 mn2, p, p + 1) :: (flat kPair 108 (.slice KP s.pd.length kp) s.pd, lp, hp) :: R)) := ⟨⟨bk, kc, lk, hk, M, mn, HM.out, HMN.out, HS⟩⟩
 clear HS
 go_loopg [4, 13] s.pd.length (fun gg s4 s13 wr => ∃ (i : Nat) (A : Option Addr) (c lo hi : Nat), i ≤ s.pd.length ∧ s.pd.length - i ≤ gg ∧ s4 = .slice A (leftF now (s.pd.take i)).length c ∧ s13 = .int .i64 i ∧ Aside0 (∃ bk2 kc2 lk2 hk2 M2 mn2, (∀ k, M2 k = markM (arrF l0 l1 now (s.pd.take i) s.c).ms k) ∧ mn2 = (arrF l0 l1 now (s.pd.take i) s.c).ms.length ∧ Hold w0 wr ((flat kPair 108 (.slice A (leftF now (s.pd.take i)).length c) (leftF now (s.pd.take i)), lo, hi) :: (boxT #[.slice A0 l0.length c0, .slice A1 l1.length c1, .slice (some ⟨bk2, 0, none⟩) m kc2, .map (some p), .slice KP s.pd.length kp, .int .i64 0, .int .i64 0, .int .i64 0, .int .i64 0, .int .i64 s.is, .int .i64 ((arrF l0 l1 now (s.pd.take i) s.c)).us] 103, g, g + 1) :: (flat (Kd.int .i64) 2 (.slice (some ⟨bk2, 0, none⟩) m kc2) (((arrF l0 l1 now (s.pd.take i) s.c)).cont), lk2, hk2) :: (mapT Try.prog 2 M2 mn2, p, p + 1) :: (flat kPair 108 (.slice KP s.pd.length kp) s.pd, lp, hp) :: R)))
 case atStart => exact ⟨0, _, _, _, _, Nat.zero_le _, Nat.le_refl _, rfl, rfl, H0⟩
 case round =>
  clear H0
  obtain ⟨i, A, c, lo, hi, hi_, hg_, rfl, rfl, HSS⟩ := hrel
  obtain ⟨bk2, kc2, lk2, hk2, M2, mn2, hM2, hmn2, HS⟩ := HSS.out
  have HM2 := Aside0.mk hM2
  have HMN2 := Aside0.mk hmn2
  clear hM2 hmn2 HSS
  by_cases hlt : i < s.pd.length
  ·have hltz : (i : Int) < (s.pd.length : Int) := by omega
   obtain ⟨ad, e_, hx0, hx1⟩ := at_P (HS.reads' at4).2.2 (i : Int) (Int.natCast_nonneg i) hltz
   subst e_
   obtain ⟨x, hx⟩ : ∃ x, s.pd.getD i (0, 0) = x := ⟨_, rfl⟩
   simp only [Int.toNat_natCast] at hx0 hx1
   rw [hx] at hx0 hx1
   have ht1 := take_succ s.pd i (0, 0) hlt
   rw [hx] at ht1
   have hxm : x ∈ s.pd := by rw [← hx]; exact getD_memF s.pd i _ hlt
   have HX := Aside0.mk (HB.out.lines x hxm)
   obtain ⟨a1, a2, a3⟩ := arr_ok HOK.out HLN.out now (s.pd.take i) s.c HCO.out (fun y hy => HB.out.lines y (List.mem_of_mem_take hy))
   have a4 := leftF_le now (s.pd.take i)
   have a5 : (s.pd.take i).length = i := by rw [List.length_take]; omega
   have hT1 := leftF_app now (s.pd.take i) [x]
   have hT2 := arrF_app l0 l1 now (s.pd.take i) [x] s.c
   rw [← ht1] at hT1 hT2
   have hpl : s.pd.length ≤ 240 := by have := HB.out.all; have := HB.out.us; have := HB.out.is.2; have := HKQ.out; omega
   have hus : s.c.us + (s.c.ms.length : Int) + (s.pd.length : Int) ≤ 240 := by have := HB.out.all; have := HB.out.is.2; have := HKQ.out; omega
   have hu0 := HB.out.us
   have HCC : Aside0 ((arrF l0 l1 now (s.pd.take i) s.c).Ok m) := ⟨a1⟩
   have HKL : Aside0 ((leftF now (s.pd.take i)).length ≤ 240 ∧ 0 ≤ (arrF l0 l1 now (s.pd.take i) s.c).us ∧ (arrF l0 l1 now (s.pd.take i) s.c).us ≤ 240 ∧ (arrF l0 l1 now (s.pd.take i) s.c).ms.length ≤ 240) := ⟨by omega⟩
   have HT1 := Aside0.mk hT1
   have HT2 := Aside0.mk hT2
   clear hT1 hT2 a1 a2 a3 a4 a5 hx ht1 hxm hpl hus hu0
   generalize hK : leftF now (s.pd.take i) = K at HS HKL HT1 ⊢
   generalize hcc : (arrF l0 l1 now (s.pd.take i) s.c) = cc at HS HCC HKL HT2 HM2 HMN2
   clear hK hcc
   obtain ⟨xl, xd⟩ := x
   simp only at hx0 hx1 HX
   change Hold w0 wr ((flat kPair 108 (.slice A K.length c) K, lo, hi) :: (boxT #[.slice A0 l0.length c0, .slice A1 l1.length c1, .slice (some ⟨bk2, 0, none⟩) m kc2, .map (some p), .slice (some ad) s.pd.length kp, .int .i64 0, .int .i64 0, .int .i64 0, .int .i64 0, .int .i64 s.is, .int .i64 (cc).us] 103, g, g + 1) :: (flat (Kd.int .i64) 2 (.slice (some ⟨bk2, 0, none⟩) m kc2) ((cc).cont), lk2, hk2) :: (mapT Try.prog 2 M2 mn2, p, p + 1) :: (flat kPair 108 (.slice (some ad) s.pd.length kp) s.pd, lp, hp) :: R) at HS
   replace HS := HS.box #[.int .i64 xl, .int .i64 xd] 108
   have p0 : (wr.alloc (.cells #[.int .i64 xl, .int .i64 xd] 108)).cell? ⟨wr.heap.size, 0, none⟩ = some (.int .i64 xl) := HS.cell at0 0 _ rfl
   have p1 : (wr.alloc (.cells #[.int .i64 xl, .int .i64 xd] 108)).cell? ⟨wr.heap.size, 1, none⟩ = some (.int .i64 xd) := HS.cell at0 1 _ rfl
   have fzp : ∀ j, (wr.alloc (.cells #[.int .i64 xl, .int .i64 xd] 108)).frozen? ⟨wr.heap.size, j, none⟩ = false := HS.thaw at0
   by_cases hnow : now < xd
   ·go_upto_region 5 with fail
    generalize (wr.alloc (.cells #[.int .i64 xl, .int .i64 xd] 108)) = w2 at HS p0 p1 fzp ⊢
    generalize wr.heap.size = pb at HS p0 p1 fzp ⊢
    go_wp2_with ((with_reducible refine gate_builtin (b := .append) (xs := #[.tmp 21, .tmp 23]) rfl ?_); at_builtin; refine Hold.appendP HS rfl (.tmp 21) (.tmp 23) 101 108 rfl Try.underlying101 (by kernel_rfl) (.slice A K.length c) K (xl, xd) rfl rfl at1 (by have := HKL.out; omega) ?_; intro A2 c2 lo2 hi2 w3 HQ; replace HS := HQ _ (.there .here); clear HQ)
    replace HS := HS.tail
    have HF : Aside0 (∃ bk2 kc2 lk2 hk2 M2 mn2, (∀ k, M2 k = markM (arrF l0 l1 now (s.pd.take (i + 1)) s.c).ms k) ∧ mn2 = (arrF l0 l1 now (s.pd.take (i + 1)) s.c).ms.length ∧ Hold w0 w3 ((flat kPair 108 (.slice A2 (leftF now (s.pd.take (i + 1))).length c2) (leftF now (s.pd.take (i + 1))), lo2, hi2) :: (boxT #[.slice A0 l0.length c0, .slice A1 l1.length c1, .slice (some ⟨bk2, 0, none⟩) m kc2, .map (some p), .slice (some ad) s.pd.length kp, .int .i64 0, .int .i64 0, .int .i64 0, .int .i64 0, .int .i64 s.is, .int .i64 ((arrF l0 l1 now (s.pd.take (i + 1)) s.c)).us] 103, g, g + 1) :: (flat (Kd.int .i64) 2 (.slice (some ⟨bk2, 0, none⟩) m kc2) (((arrF l0 l1 now (s.pd.take (i + 1)) s.c)).cont), lk2, hk2) :: (mapT Try.prog 2 M2 mn2, p, p + 1) :: (flat kPair 108 (.slice (some ad) s.pd.length kp) s.pd, lp, hp) :: R)) := ⟨⟨bk2, kc2, lk2, hk2, M2, mn2, (by rw [HT2.out]; simp only [arrF, if_pos hnow]; exact HM2.out), (by rw [HT2.out]; simp only [arrF, if_pos hnow]; exact HMN2.out), (by rw [HT2.out, HT1.out, leftF_one hnow]; simp only [arrF, if_pos hnow, List.length_append, List.length_singleton]; exact HS)⟩⟩
    clear HS
    go_roundg (s.pd.length - (i + 1))
    case measure => omega
    case rel => exact ⟨i + 1, A2, c2, lo2, hi2, hlt, Nat.le_refl _, by rw [HT1.out, leftF_one hnow]; simp, by first | rfl | rw [wrap_succ hlt (by have := HB.out.all; have := HB.out.us; have := HB.out.is.2; have := HKQ.out; omega)], HF⟩
   ·have HNW := Aside0.mk hnow
    go_wp2_with fail
    generalize (wr.alloc (.cells #[.int .i64 xl, .int .i64 xd] 108)) = w2 at HS ⊢
    generalize wr.heap.size = pb at HS ⊢
    clear hx0 hx1 p0 p1 fzp
    replace HS := HS.pick tk1
    replace HS := HS.pick tk5
    replace HS := HS.pick tk5
    replace HS := HS.pick tk5
    replace HS := HS.pick tk5
    refine (istep_calls HS (HR0.out.mono (fun y_ hy_ => (in3 hy_))) HC0.out (HR1.out.mono (fun y_ hy_ => (in3 hy_))) HC1.out HHL.out HM1.out HOK.out HLN.out HCC.out (by have := HKL.out; omega) HM2.out HMN2.out HX.out).mono ?_
    clear HS
    rintro e w3 ⟨rfl, bk3, kc3, lk3, hk3, M3, mn3, hM3, hmn3, HS⟩
    have HM3 := Aside0.mk hM3
    have HMN3 := Aside0.mk hmn3
    clear hM3 hmn3
    go_upto_region 7 with fail
    have HD := Hold.drew HS
    refine start_ (n := 7) (S := fun w' => w'.cell? ⟨g, 3, none⟩ = some (.map (some p)) ∧ w'.cell? ⟨pb, 0, none⟩ = some (.int .i64 xl)) (ds := []) #[false, false, false, false, false, false, false] (by kernel_rfl) rfl rfl ⟨(HD.cell at0 3 _ rfl), (HD.cell at5 0 _ rfl)⟩ (fun hHeld => ?_)
    generalize w3.drew = wd at HD hHeld ⊢
    refine pu_ (i := 0) (N := some 29) (h := ?_)
    refine pu_ (i := 1) (N := some 30) (h := ?_)
    refine pu_ (i := 2) (N := some 31) (h := ?_)
    refine pu_ (i := 4) (N := some 33) (h := ?_)
    refine ta_ (i := 3) (N := some 32) (hS := hHeld) (hy := by rintro w' ⟨s0, s1⟩; go_simp; with_reducible rfl) (h := ?_)
    refine ta_ (i := 5) (N := some 34) (hS := hHeld) (hy := by rintro w' ⟨s0, s1⟩; go_simp; with_reducible rfl) (h := ?_)
    refine one_ (i := 6) (N := none) #[true, true, true, true, true, true, true] rfl rfl (by kernel_rfl) (by decide) (fun K hK => ?_)
    obtain ⟨wf, hput, HQ⟩ := HD.mput (t := 100) (e := 4) at2 Try.underlying2 Try.underlying100 (by rw [HMN3.out]; have := dropM_le (putF l0 l1 xl cc).ms xl; have := (put_sum l0 l1 xl HCC.out.rising); have := HKL.out; show (dropM (putF l0 l1 xl cc).ms xl).length ≤ _; omega) (k := xl) (lit_wfF (by have := HX.out; omega)) (.bool true)
    refine skip_ (w1 := wf) (by rfl) rfl ?_ ?_
    ·go_simp
    replace HD := HQ _ (.there (.there .here))
    clear HQ hput
    have s0_ : wf.cell? ⟨g, 3, none⟩ = some (.map (some p)) := HD.cell at0 3 _ rfl
    have s1_ : wf.cell? ⟨pb, 0, none⟩ = some (.int .i64 xl) := HD.cell at5 0 _ rfl
    refine hK.out _ _ ⟨s0_, s1_⟩ (fun hHeld => ?_)
    clear hK K
    refine done_ (by kernel_rfl) ?_
    clear hHeld s0_ s1_
    replace HS := HD
    clear HD
    go_wp2_with fail
    replace HS := HS.pick tk5
    replace HS := HS.tail
    replace HS := HS.pick tk3
    replace HS := HS.pick tk3
    replace HS := HS.pick tk3
    replace HS := HS.pick tk3
    replace HS := HS.pick tk4
    have HF : Aside0 (∃ bk2 kc2 lk2 hk2 M2 mn2, (∀ k, M2 k = markM (arrF l0 l1 now (s.pd.take (i + 1)) s.c).ms k) ∧ mn2 = (arrF l0 l1 now (s.pd.take (i + 1)) s.c).ms.length ∧ Hold w0 wf ((flat kPair 108 (.slice A (leftF now (s.pd.take (i + 1))).length c) (leftF now (s.pd.take (i + 1))), lo, hi) :: (boxT #[.slice A0 l0.length c0, .slice A1 l1.length c1, .slice (some ⟨bk2, 0, none⟩) m kc2, .map (some p), .slice (some ad) s.pd.length kp, .int .i64 0, .int .i64 0, .int .i64 0, .int .i64 0, .int .i64 s.is, .int .i64 ((arrF l0 l1 now (s.pd.take (i + 1)) s.c)).us] 103, g, g + 1) :: (flat (Kd.int .i64) 2 (.slice (some ⟨bk2, 0, none⟩) m kc2) (((arrF l0 l1 now (s.pd.take (i + 1)) s.c)).cont), lk2, hk2) :: (mapT Try.prog 2 M2 mn2, p, p + 1) :: (flat kPair 108 (.slice (some ad) s.pd.length kp) s.pd, lp, hp) :: R)) := ⟨⟨bk3, kc3, lk3, hk3, (fun j => if j = xl then some (.bool true) else M3 j), (if (M3 xl).isSome = true then mn3 else mn3 + 1), (by rw [HT2.out]; simp only [arrF, if_neg (show ¬ now < xd by have := HNW.out; omega)]; exact mark_put2 HM3.out), (by rw [HT2.out]; simp only [arrF, if_neg (show ¬ now < xd by have := HNW.out; omega)]; exact put_len2 HM3.out HMN3.out (put_rising HCC.out.rising)), (by rw [HT2.out, HT1.out, leftF_not (x := (xl, xd)) (show ¬ now < xd by have := HNW.out; omega), List.append_nil]; simp only [arrF, if_neg (show ¬ now < xd by have := HNW.out; omega)]; exact HS)⟩⟩
    clear HS
    go_roundg (s.pd.length - (i + 1))
    case measure => omega
    case rel => exact ⟨i + 1, A, c, lo, hi, hlt, Nat.le_refl _, by rw [HT1.out, leftF_not (x := (xl, xd)) (show ¬ now < xd by have := HNW.out; omega), List.append_nil], by first | rfl | rw [wrap_succ hlt (by have := HB.out.all; have := HB.out.us; have := HB.out.is.2; have := HKQ.out; omega)], HF⟩
  ·obtain rfl : i = s.pd.length := by omega
   have hltz : ¬ ((s.pd.length : Nat) : Int) < (s.pd.length : Int) := by omega
   change Hold w0 wr ((flat kPair 108 (.slice A (leftF now (s.pd.take s.pd.length)).length c) (leftF now (s.pd.take s.pd.length)), lo, hi) :: (boxT #[.slice A0 l0.length c0, .slice A1 l1.length c1, .slice (some ⟨bk2, 0, none⟩) m kc2, .map (some p), .slice KP s.pd.length kp, .int .i64 0, .int .i64 0, .int .i64 0, .int .i64 0, .int .i64 s.is, .int .i64 ((arrF l0 l1 now (s.pd.take s.pd.length) s.c)).us] 103, g, g + 1) :: (flat (Kd.int .i64) 2 (.slice (some ⟨bk2, 0, none⟩) m kc2) (((arrF l0 l1 now (s.pd.take s.pd.length) s.c)).cont), lk2, hk2) :: (mapT Try.prog 2 M2 mn2, p, p + 1) :: (flat kPair 108 (.slice KP s.pd.length kp) s.pd, lp, hp) :: R) at HS
   have HM3 := HM2.out
   have HN3 := HMN2.out
   rw [List.take_length] at HM3 HN3
   rw [List.take_length] at HS
   rw [List.take_length]
   have HM3 := Aside0.mk HM3
   have HN3 := Aside0.mk HN3
   have q4 : wr.cell? ⟨g, 4, none⟩ = some (.slice KP s.pd.length kp) := HS.cell at1 4 _ rfl
   have fzq : ∀ j, wr.frozen? ⟨g, j, none⟩ = false := HS.thaw at1
   go_wp2_with fail
   clear q4 fzq
   replace HS := HS.setBox 4 (.slice A (leftF now s.pd).length c) (.there .here)
   simp only [List.setIfInBounds_toArray, List.set_cons_zero, List.set_cons_succ] at HS
   generalize wr.setCell ⟨g, 4, none⟩ (.slice A (leftF now s.pd).length c) = w9 at HS ⊢
   replace HS := HS.pick tk4
   replace HS := HS.tail
   replace HS := HS.pick tk3
   replace HS := HS.pick tk3
   replace HS := HS.pick tk3
   (try simp only [Exit.inBlock, Exit.then]); first | refine bodyPost_ret (results_none rfl _ _ _) rfl ?_ | refine bodyPost_end (results_none rfl _ _ _) rfl ?_
   exact ⟨rfl, bk2, kc2, lk2, hk2, A, c, lo, hi, M2, mn2, ⟨HM3.out, HN3.out⟩, HS⟩
set_option maxHeartbeats 4000000 in
set_option maxRecDepth 100000 in
theorem iload_calls {w0 w : World} {R : List (Thing × Nat × Nat)} {g p m : Nat} {A0 : Option Addr} {c0 : Nat} {l0 : List (List Int)} {A1 : Option Addr} {c1 : Nat} {l1 : List Int} {s : FetchV} {line : Int} (h : ImplF w0 w R g p m A0 c0 l0.length A1 c1 l1.length s) (hr0 : Rd w0 R (Kd.slice 2 (Kd.int .i64)) A0 l0) (hc0 : l0.length ≤ c0) (hr1 : Rd w0 R (Kd.int .i64) A1 l1) (hc1 : l1.length ≤ c1) (hhl : l0.length = m) (hm1 : 1 ≤ m ∧ m ≤ 6) (hok : ∀ (c : List Int) (x : Int), c.length = m → okStep l0 l1 c x = true) (hlen : ∀ (c : List Int) (x : Int), c.length = m → (stepV l0 l1 c x).1.length = m) (hco : s.c.Ok m) (hus : 0 ≤ s.c.us ∧ s.c.us ≤ 1048576) (hpl : s.pd.length ≤ 1000) (hli : 0 ≤ line ∧ line ≤ 63) :
  Calls Try.prog 68 #[.pointer (some ⟨g, 0, none⟩), .int .i64 line] w fun e w' => e = .returned (.int .i64 (kindF s.c s.pd line)) ∧ ImplF w0 w' R g p m A0 c0 l0.length A1 c1 l1.length { s with c := useF l0 l1 line s.c, pd := pendF s.c s.pd line } := by
 obtain ⟨bk, kc, lk, hk, KP, kp, lp, hp, M, mn, ⟨hM, hmn⟩, HS⟩ := h
 change Hold w0 w ((boxT #[.slice A0 l0.length c0, .slice A1 l1.length c1, .slice (some ⟨bk, 0, none⟩) m kc, .map (some p), .slice KP s.pd.length kp, .int .i64 0, .int .i64 0, .int .i64 0, .int .i64 0, .int .i64 s.is, .int .i64 s.c.us] 103, g, g + 1) :: (flat (Kd.int .i64) 2 (.slice (some ⟨bk, 0, none⟩) m kc) s.c.cont, lk, hk) :: (mapT Try.prog 2 M mn, p, p + 1) :: (flat kPair 108 (.slice KP s.pd.length kp) s.pd, lp, hp) :: R) at HS
 have HM := Aside0.mk hM
 have HMN := Aside0.mk hmn
 have HR0 := Aside0.mk hr0
 have HC0 := Aside0.mk hc0
 have HR1 := Aside0.mk hr1
 have HC1 := Aside0.mk hc1
 have HHL := Aside0.mk hhl
 have HM1 := Aside0.mk hm1
 have HOK := Aside0.mk hok
 have HLN := Aside0.mk hlen
 have HCO := Aside0.mk hco
 have HUS := Aside0.mk hus
 have HPL := Aside0.mk hpl
 have HLI := Aside0.mk hli
 clear hM hmn hr0 hc0 hr1 hc1 hhl hm1 hok hlen hco hus hpl hli
 have HCM := Aside0.mk (HS.reads' at1).1
 have EC := Aside0.mk (implHas_ev s.c.cont line (by have := HCM.out; have := HM1.out; omega))
 obtain ⟨bb, hbb⟩ : ∃ bb, hasF s.c.cont line = bb := ⟨_, rfl⟩
 have HBB := Aside0.mk hbb
 rw [show (s.c.cont.any fun y => decide (y = line)) = bb from hbb] at EC
 obtain ⟨b2, hb2⟩ : ∃ b2, hasF s.c.ms line = b2 := ⟨_, rfl⟩
 have HB2 := Aside0.mk hb2
 obtain ⟨q, hq⟩ : ∃ q, placeF s.pd line = q := ⟨_, rfl⟩
 have HQ := Aside0.mk hq
 clear hbb hb2 hq
 go_enter Try.func68, Try.ntmps68
 have q2 : w.cell? ⟨g, 2, none⟩ = some (.slice (some ⟨bk, 0, none⟩) m kc) := HS.cell at0 2 _ rfl
 have fzq : ∀ j, w.frozen? ⟨g, j, none⟩ = false := HS.thaw at0
 go_wp2_with fail
 clear q2 fzq
 refine (show Calls _ _ #[.slice (some ⟨bk, 0, none⟩) m kc, .int .i64 line] _ _ from HCM.out ▸ slices_Contains_int64_int64.calls (Ev.num EC.out) _ _ s.c.cont line bb _ (HS.reads' at1).2.2 (HS.reads' at1).2.1 (Ev.is EC.out)).mono ?_
 rintro e w1 ⟨rfl, hb⟩
 clear EC
 replace HS := HS.step (by first | exact hb | exact hb.below)
 clear hb
 cases bb
 ·go_wp2_with fail
  replace HS := HS.pick tk2
  replace HS := HS.pick tk2
  replace HS := HS.pick tk3
  replace HS := HS.pick tk3
  refine (iplace_calls HS (line := line)).mono ?_
  clear HS
  rw [HQ.out]
  rintro e w2 ⟨rfl, HS⟩
  replace HS := HS.pick tk1
  replace HS := HS.pick tk3
  replace HS := HS.pick tk3
  replace HS := HS.pick tk3
  have hq2 : q = -1 ∨ 0 ≤ q ∧ q < s.pd.length := by rw [← HQ.out]; have := xIdx_ge (fun y => decide (y = line)) (linesF s.pd) 0; rw [linesF_len] at this; unfold placeF; omega
  by_cases hq0 : 0 ≤ q
  ·obtain ⟨i, rfl⟩ : ∃ i : Nat, q = (i : Int) := ⟨q.toNat, by omega⟩
   have hil : i < s.pd.length := by omega
   have HIL := Aside0.mk hil
   have wk := wrap_succ hil (by have := HPL.out; omega)
   rw [show ((i + 1 : Nat) : Int) = (i : Int) + 1 by omega] at wk
   clear hq2
   obtain ⟨bp, bpc, e_, _, _⟩ := HS.row_form at3 (by omega)
   injection e_ with e1_ _ e3_
   subst e1_ e3_
   have q4 : w2.cell? ⟨g, 4, none⟩ = some (.slice (some ⟨bp, 0, none⟩) s.pd.length kp) := HS.cell at0 4 _ rfl
   have fzq : ∀ j, w2.frozen? ⟨g, j, none⟩ = false := HS.thaw at0
   go_upto_region 9 with fail
   clear hil
   go_wp2_with fail
   clear q4 fzq
   replace HS := HS.pick tk2
   replace HS := HS.pick tk2
   replace HS := HS.pick tk2
   replace HS := HS.pick tk3
   refine (ho_deleteP HS HIL.out (by have := HPL.out; omega)).mono ?_
   clear HS
   rintro e w4 ⟨rfl, HS⟩
   have hel : (s.pd.eraseIdx i).length = s.pd.length - 1 := by rw [List.length_eraseIdx, if_pos HIL.out]
   rw [← hel] at HS ⊢
   have HEL := Aside0.mk hel
   clear hel wk
   have q4 : w4.cell? ⟨g, 4, none⟩ = some (.slice (some ⟨bp, 0, none⟩) s.pd.length kp) := HS.cell at1 4 _ rfl
   have fzq : ∀ j, w4.frozen? ⟨g, j, none⟩ = false := HS.thaw at1
   go_upto_region 10 with fail
   clear q4 fzq
   replace HS := HS.setBox 4 (.slice (some ⟨bp, 0, none⟩) (s.pd.eraseIdx i).length kp) (.there .here)
   simp only [List.setIfInBounds_toArray, List.set_cons_zero, List.set_cons_succ] at HS
   generalize w4.setCell ⟨g, 4, none⟩ (.slice (some ⟨bp, 0, none⟩) (s.pd.eraseIdx i).length kp) = w5 at HS ⊢
   replace HS := HS.pick tk3
   replace HS := HS.pick tk3
   replace HS := HS.pick tk3
   go_wp2_with fail
   refine (istep_calls HS (HR0.out.mono (fun y_ hy_ => (in1 hy_))) HC0.out (HR1.out.mono (fun y_ hy_ => (in1 hy_))) HC1.out HHL.out HM1.out HOK.out HLN.out HCO.out HUS.out HM.out HMN.out HLI.out).mono ?_
   clear HS
   rintro e w8 ⟨rfl, bk3, kc3, lk3, hk3, M3, mn3, hM3, hmn3, HS⟩
   have HM3 := Aside0.mk hM3
   have HMN3 := Aside0.mk hmn3
   clear hM3 hmn3
   go_wp2_with fail
   go_ret
   have hkk_ : kindF s.c s.pd line = 3 := by unfold kindF; rw [if_neg (by rw [HBB.out]; simp), HQ.out, if_pos (Int.natCast_nonneg i)]
   have hpp_ : pendF s.c s.pd line = s.pd.eraseIdx i := by unfold pendF; rw [if_neg (by rw [HBB.out]; simp), HQ.out, if_pos (Int.natCast_nonneg i), Int.toNat_natCast]
   rw [hkk_, hpp_]
   exact ⟨rfl, bk3, kc3, lk3, hk3, some ⟨bp, 0, none⟩, kp, lp, hp, M3, mn3, ⟨HM3.out, HMN3.out⟩, HS⟩
  ·obtain rfl : q = -1 := by omega
   go_upto_region 10 with fail
   go_wp2_with fail
   refine (istep_calls HS (HR0.out.mono (fun y_ hy_ => (in1 hy_))) HC0.out (HR1.out.mono (fun y_ hy_ => (in1 hy_))) HC1.out HHL.out HM1.out HOK.out HLN.out HCO.out HUS.out HM.out HMN.out HLI.out).mono ?_
   clear HS
   rintro e w8 ⟨rfl, bk3, kc3, lk3, hk3, M3, mn3, hM3, hmn3, HS⟩
   have HM3 := Aside0.mk hM3
   have HMN3 := Aside0.mk hmn3
   clear hM3 hmn3
   go_wp2_with fail
   go_ret
   have hkk_ : kindF s.c s.pd line = 0 := by unfold kindF; rw [if_neg (by rw [HBB.out]; simp), HQ.out, if_neg (by omega)]
   have hpp_ : pendF s.c s.pd line = s.pd := by unfold pendF; rw [if_neg (by rw [HBB.out]; simp), HQ.out, if_neg (by omega)]
   rw [hkk_, hpp_]
   exact ⟨rfl, bk3, kc3, lk3, hk3, KP, kp, lp, hp, M3, mn3, ⟨HM3.out, HMN3.out⟩, HS⟩
 ·have lk1 := look_mark HS at2 HM.out (o := line) (by have := HLI.out; omega)
  rw [HB2.out] at lk1
  have q3 : w1.cell? ⟨g, 3, none⟩ = some (.map (some p)) := HS.cell at0 3 _ rfl
  cases b2
  ·go_upto_region 10 with fail
   clear lk1 q3
   go_wp2_with fail
   refine (istep_calls HS (HR0.out.mono (fun y_ hy_ => (in1 hy_))) HC0.out (HR1.out.mono (fun y_ hy_ => (in1 hy_))) HC1.out HHL.out HM1.out HOK.out HLN.out HCO.out HUS.out HM.out HMN.out HLI.out).mono ?_
   clear HS
   rintro e w8 ⟨rfl, bk3, kc3, lk3, hk3, M3, mn3, hM3, hmn3, HS⟩
   have HM3 := Aside0.mk hM3
   have HMN3 := Aside0.mk hmn3
   clear hM3 hmn3
   go_wp2_with fail
   go_ret
   have hkk_ : kindF s.c s.pd line = 1 := by unfold kindF; rw [if_pos HBB.out, if_neg (by rw [HB2.out]; simp)]
   have hpp_ : pendF s.c s.pd line = s.pd := by unfold pendF; rw [if_pos HBB.out]
   rw [hkk_, hpp_]
   exact ⟨rfl, bk3, kc3, lk3, hk3, KP, kp, lp, hp, M3, mn3, ⟨HM3.out, HMN3.out⟩, HS⟩
  ·go_upto_region 10 with fail
   clear lk1 q3
   go_wp2_with fail
   refine (istep_calls HS (HR0.out.mono (fun y_ hy_ => (in1 hy_))) HC0.out (HR1.out.mono (fun y_ hy_ => (in1 hy_))) HC1.out HHL.out HM1.out HOK.out HLN.out HCO.out HUS.out HM.out HMN.out HLI.out).mono ?_
   clear HS
   rintro e w8 ⟨rfl, bk3, kc3, lk3, hk3, M3, mn3, hM3, hmn3, HS⟩
   have HM3 := Aside0.mk hM3
   have HMN3 := Aside0.mk hmn3
   clear hM3 hmn3
   go_wp2_with fail
   go_ret
   have hkk_ : kindF s.c s.pd line = 2 := by unfold kindF; rw [if_pos HBB.out, if_pos HB2.out]
   have hpp_ : pendF s.c s.pd line = s.pd := by unfold pendF; rw [if_pos HBB.out]
   rw [hkk_, hpp_]
   exact ⟨rfl, bk3, kc3, lk3, hk3, KP, kp, lp, hp, M3, mn3, ⟨HM3.out, HMN3.out⟩, HS⟩
theorem counts_rangeF {a b c d k : Int} {q : Nat} (ha : 0 ≤ a ∧ a ≤ k) (hb : 0 ≤ b ∧ b ≤ k) (hc : 0 ≤ c ∧ c ≤ k) (hd : 0 ≤ d ∧ d ≤ k) (hk : k ≤ 60) (hq : q < 4) : 0 ≤ [a, b, c, d].getD q 0 ∧ [a, b, c, d].getD q 0 ≤ 60 := by
 match q, hq with
 | 0, _ => exact ⟨ha.1, by show a ≤ 60; omega⟩
 | 1, _ => exact ⟨hb.1, by show b ≤ 60; omega⟩
 | 2, _ => exact ⟨hc.1, by show c ≤ 60; omega⟩
 | 3, _ => exact ⟨hd.1, by show d ≤ 60; omega⟩
theorem counts_setF {hit : List (List Int)} {miss : List Int} {line : Int} {s : FetchV} {q : Nat} (hq : q < 4) (hk : kindF s.c s.pd line = (q : Int)) : [s.n0, s.n1, s.n2, s.n3].set q ([s.n0, s.n1, s.n2, s.n3].getD q 0 + 1) = [(takeF hit miss line s).n0, (takeF hit miss line s).n1, (takeF hit miss line s).n2, (takeF hit miss line s).n3] := by
 unfold takeF countF
 rw [hk]
 match q, hq with
 | 0, _ => rfl
 | 1, _ => rfl
 | 2, _ => rfl
 | 3, _ => rfl
theorem total_w {a : Int} {b c : Nat} (h : 0 ≤ a ∧ a ≤ 240 ∧ b ≤ 240 ∧ c ≤ 240) : wrap64 ((b : Int) + (c : Int)) = (b : Int) + (c : Int) ∧ wrap64 (a + ((b : Int) + (c : Int))) = a + ((b : Int) + (c : Int)) := ⟨wrap_id (by omega) (by omega), wrap_id (by omega) (by omega)⟩
theorem take_wF {kk n c : Nat} (h : kk < n) (h60 : n ≤ 60) (hc : n ≤ c) : ∃ kn : Nat, kn = kk + 1 ∧ wrap64 ((kk : Int) + 1) = (kn : Int) ∧ (0 : Int) ≤ (kn : Int) ∧ (kn : Int) ≤ (c : Int) ∧ kn ≤ c :=
 ⟨kk + 1, rfl, by rw [wrap_id (by omega) (by omega)]; omega, by omega, by omega, by omega⟩
theorem place_has (pd : List (Int × Int)) (y : Int) : decide (0 ≤ placeF pd y) = hasF (linesF pd) y := by
 have := xIdx_nonneg (fun z => decide (z = y)) (linesF pd) 0 (Int.le_refl _)
 unfold hasF placeF
 rw [← this]
set_option maxHeartbeats 4000000 in
set_option maxRecDepth 100000 in
theorem fetched_calls {w : World} (a0 a1 a2 a3 : Int) (AL : Option Addr) (cL : Nat) (l : List S27) (hT : Kd.C k27 w AL l.length l) (hct : l.length ≤ cL) (hp : okPref a0 a1 a2 a3 = true) (hl60 : l.length ≤ 60) (hv : (l.any xpLoad) = false) {n : Nat} (hna : a3 = (n : Int)) (hn : 1 ≤ n ∧ n ≤ 6) {fin : FetchV} (hfin : runF (lruHit n) (lruMiss n) a2 0 (itemsF a0 a1 l) (startF n) = fin) :
  Calls Try.prog 43 #[.agg #[.int .i64 a0, .int .i64 a1, .int .i64 a2, .int .i64 a3], .slice AL l.length cL] w fun e w' => ∃ v, e = .returned (.tuple #[v, .agg #[.int .i64 fin.n0, .int .i64 fin.n1, .int .i64 fin.n2, .int .i64 fin.n3, .int .i64 fin.is, .int .i64 (fin.c.us + ((fin.c.ms.length : Int) + (fin.pd.length : Int)))]]) ∧ Kd.R (Kd.int .i64) 2 w' w.heap.size (fun _ => True) v fin.out ∧ Below w.heap.size w w' := by
 have HT := Aside0.mk hT
 have HCT := Aside0.mk hct
 have HPR := Aside0.mk hp
 have HL60 := Aside0.mk hl60
 have HV := Aside0.mk hv
 have HNA := Aside0.mk hna
 have HN := Aside0.mk hn
 have HF := Aside0.mk hfin
 clear hT hct hp hl60 hv hna hn hfin
 have HLV := Aside0.mk (lru_validF HN.out.1 HN.out.2)
 have HPF := Aside0.mk (pref_facts HPR.out)
 have EL : Aside0 (impl_LruPolicy.f a3 = some (lruHit n, lruMiss n, true)) := ⟨by unfold impl_LruPolicy.f; have h1 := HNA.out; have h2 := HN.out; rw [if_pos (by omega), h1, Int.toNat_natCast]; rfl⟩
 have EE : Aside0 (impl_Policy_empty.f (lruHit n) (lruMiss n) = some (List.replicate n (-1))) := ⟨by unfold impl_Policy_empty.f; have h1 := HLV.out.2.2.2; have h2 := HN.out; rw [if_pos (by omega), h1]⟩
 have HS := ((Hold.start w).box #[.int .i64 a0, .int .i64 a1, .int .i64 a2, .int .i64 a3] 29).box #[.int .i64 0, .int .i64 0, .int .i64 0, .int .i64 0, .int .i64 0, .int .i64 0] 40
 simp only [World.size_alloc] at HS
 have x3 : ((w.alloc (.cells #[.int .i64 a0, .int .i64 a1, .int .i64 a2, .int .i64 a3] 29)).alloc (.cells #[.int .i64 0, .int .i64 0, .int .i64 0, .int .i64 0, .int .i64 0, .int .i64 0] 40)).cell? ⟨w.heap.size, 3, none⟩ = some (.int .i64 a3) := HS.cell at1 3 _ rfl
 go_enter Try.func43, Try.ntmps43
 go_wp2_with fail
 clear x3
 generalize ((w.alloc (.cells #[.int .i64 a0, .int .i64 a1, .int .i64 a2, .int .i64 a3] 29)).alloc (.cells #[.int .i64 0, .int .i64 0, .int .i64 0, .int .i64 0, .int .i64 0, .int .i64 0] 40)) = wa at HS ⊢
 generalize w.heap.size + 1 = rb at HS ⊢
 generalize w.heap.size = fb at HS ⊢
 refine (impl_LruPolicy.calls a3 (lruHit n) (lruMiss n) true _ EL.out).mono ?_
 rintro e w1 ⟨v0, v1, rfl, hq0, hq1, hb⟩
 obtain ⟨A0, c0, rfl⟩ := Kd.S_slice hq0
 obtain ⟨A1, c1, rfl⟩ := Kd.R_slice hq1
 have HC0 := Aside0.mk (Kd.S_reads' hq0).2.1
 have HC1 := Aside0.mk (Kd.R_reads' hq1).2.1
 replace HS := HS.add hb (polT_made hq0 hq1)
 clear hq0 hq1 hb
 generalize wa.heap.size = lo4 at HS
 generalize hw1 : w1.heap.size = hi4 at HS
 clear hw1
 go_upto_region 2 with fail
 replace HS := HS.box #[.slice A0 (lruHit n).length c0, .slice A1 (lruMiss n).length c1] 95
 generalize w1.alloc (.cells #[.slice A0 (lruHit n).length c0, .slice A1 (lruMiss n).length c1] 95) = w2 at HS ⊢
 generalize w1.heap.size = pb at HS ⊢
 have HRP : Aside0 (∀ R, (polT (lruHit n) (lruMiss n) (.agg #[.slice A0 (lruHit n).length c0, .slice A1 (lruMiss n).length c1]), lo4, hi4) ∈ R → Rd w R (Kd.slice 2 (Kd.int .i64)) A0 (lruHit n) ∧ Rd w R (Kd.int .i64) A1 (lruMiss n)) := ⟨fun R hm => Rd.polR hm⟩
 have HD := Hold.drew HS
 refine start_ (n := 7) (S := fun w' => w'.cell? ⟨pb, 0, none⟩ = some (.slice A0 (lruHit n).length c0) ∧ w'.cell? ⟨pb, 1, none⟩ = some (.slice A1 (lruMiss n).length c1)) (ds := []) #[false, false, false, false, false, false, false] (by kernel_rfl) rfl rfl ⟨HD.cell at0 0 _ rfl, HD.cell at0 1 _ rfl⟩ (fun hHeld => ?_)
 generalize w2.drew = wd at HD hHeld ⊢
 refine ta_ (i := 0) (N := some 22) (hS := hHeld) (hy := by rintro w' ⟨s0, s1⟩; go_simp; with_reducible rfl) (h := ?_)
 refine ta_ (i := 1) (N := some 23) (hS := hHeld) (hy := by rintro w' ⟨s0, s1⟩; go_simp; with_reducible rfl) (h := ?_)
 clear hHeld
 refine makers2_ (M := [2, 3]) (fuel := 3) (fun i => if i = 2 then 24 else 25) (fun U => #[true, true, !U.contains 2, !U.contains 3, false, false, false]) (fun i v => if i = 2 then flat (Kd.int .i64) 2 v (List.replicate n (-1 : Int)) else madeMap Try.prog 2 v) (by rfl) (by rfl) (by rfl) (by kernel_rfl) (fun W L hW hs => ⟨hW.cell (hs _ at0) 0 _ rfl, hW.cell (hs _ at0) 1 _ rfl⟩) ?_ HD ?_
 ·intro i hi
  simp only [List.mem_cons, List.not_mem_nil, or_false] at hi
  rcases hi with rfl | rfl
  ·exact Makes.call (Kd.int .i64) 2 #[.agg #[.slice A0 (lruHit n).length c0, .slice A1 (lruMiss n).length c1]] (List.replicate n (-1)) rfl (fun xs v => fillA_put (i := 2) (by decide) (by decide) xs v _) (fun _ => rfl) Try.func66 (by kernel_rfl) rfl rfl (fun xs => by rw [List.map_toArray, List.map_cons, List.map_nil, fillA_eval _ _ _ _ _ (by decide)]; rfl) (fun _ => rfl) (fun W L hW hR => (impl_Policy_empty.calls A0 c0 (lruHit n) A1 c1 (lruMiss n) _ _ (Rd.pol hW (hR _ at1)).1 HC0.out (Rd.pol hW (hR _ at1)).2 HC1.out EE.out).mono (by rintro e w' ⟨v, rfl, hr, hb⟩; exact ⟨v, rfl, hr, hb⟩))
  ·exact Makes.map 2 rfl (fun xs v => fillA_put (i := 3) (by decide) (by decide) xs v _) (fun _ => rfl) (fun xs W => by first | rfl | go_simp) (fun _ => rfl)
 intro xs lo hi W' HD
 change Hold w W' [(flat (Kd.int .i64) 2 (xs 2) (List.replicate n (-1 : Int)), lo 2, hi 2), (madeMap Try.prog 2 (xs 3), lo 3, hi 3), (boxT #[.slice A0 (lruHit n).length c0, .slice A1 (lruMiss n).length c1] 95, pb, pb + 1), (polT (lruHit n) (lruMiss n) (.agg #[.slice A0 (lruHit n).length c0, .slice A1 (lruMiss n).length c1]), lo4, hi4), (boxT #[.int .i64 0, .int .i64 0, .int .i64 0, .int .i64 0, .int .i64 0, .int .i64 0] 40, rb, rb + 1), (boxT #[.int .i64 a0, .int .i64 a1, .int .i64 a2, .int .i64 a3] 29, fb, rb)] at HD
 generalize lo 2 = lo2 at HD
 generalize hi 2 = hi2 at HD
 generalize lo 3 = lo3 at HD
 generalize hi 3 = hi3 at HD
 show wpAnyLast _ _ _ _ _ _ 3 #[true, true, true, true, false, false, false] _ _
 refine norm_ (a' := ?_) ?_ ?_
 rotate_left
 ·dsimp only [fillA, Act.put]
  simp only [List.setIfInBounds_toArray, List.set_cons_zero, List.set_cons_succ, ↓reduceIte, Nat.reduceEqDiff]
  rfl
 generalize xs 2 = x2 at HD ⊢
 generalize xs 3 = x3 at HD ⊢
 obtain ⟨bk, kc, rfl, _, _⟩ := HD.row_form at0 (by rw [List.length_replicate]; exact HN.out.1)
 obtain ⟨rfl, _⟩ := HD.map_form at1
 simp only [List.length_replicate] at HD ⊢
 refine pu_ (i := 4) (N := some 26) (h := ?_)
 refine one_ (i := 5) (N := some 27) #[true, true, true, true, true, true, false] rfl rfl (by kernel_rfl) (by decide) (fun K hK => ?_)
 refine value_ (w1 := ?_) (v := ?_) (by rfl) rfl ?_ ?_
 rotate_left 2
 ·go_simp
  constructor
  ·rfl
  ·rfl
 replace HD := HD.box #[.slice A0 (lruHit n).length c0, .slice A1 (lruMiss n).length c1, .slice (some ⟨bk, 0, none⟩) n kc, .map (some lo3), .slice none 0 0, .int .i64 0, .int .i64 0, .int .i64 0, .int .i64 0, .int .i64 0, .int .i64 0] 103
 refine hK.out _ _ ⟨HD.cell at3 0 _ rfl, HD.cell at3 1 _ rfl⟩ (fun _ => ?_)
 clear hK K
 refine norm_ (a' := ?_) ?_ ?_
 rotate_left
 ·simp only [Act.put, List.setIfInBounds_toArray, List.set_cons_zero, List.set_cons_succ, i64_w, i32_w]
  rfl
 refine pu_ (i := 6) (N := some 8) (h := ?_)
 refine done_ (by kernel_rfl) ?_
 replace HS := HD
 clear HD
 generalize W'.alloc (.cells #[.slice A0 (lruHit n).length c0, .slice A1 (lruMiss n).length c1, .slice (some ⟨bk, 0, none⟩) n kc, .map (some lo3), .slice none 0 0, .int .i64 0, .int .i64 0, .int .i64 0, .int .i64 0, .int .i64 0, .int .i64 0] 103) = w3 at HS ⊢
 generalize W'.heap.size = g at HS ⊢
 replace HS := Hold.map_open (HS.pick tk2)
 replace HS := HS.nilRow kPair 108
 replace HS := HS.pick tk4
 replace HS := HS.tail
 replace HS := HS.pick tk5
 replace HS := HS.pick tk5
 replace HS := HS.pick tk6
 replace HS := HS.pick tk3
 replace HS := HS.pick tk4
 replace HS := HS.pick tk6
 replace HS := HS.pick tk6
 go_upto_region 3 with fail
 go_cut [9, 10] (fun v9 v10 wc => ∃ (bo : Option Addr) (co bc cc la0 ha0 la1 ha1 : Nat), v9 = .slice bo 0 co ∧ v10 = .slice (some ⟨bc, 0, none⟩) 4 cc ∧ Aside0 (Hold w wc [(boxT #[.slice A0 (lruHit n).length c0, .slice A1 (lruMiss n).length c1, .slice (some ⟨bk, 0, none⟩) n kc, .map (some lo3), .slice none 0 0, .int .i64 0, .int .i64 0, .int .i64 0, .int .i64 0, .int .i64 0, .int .i64 0] 103, g, g + 1), (flat (Kd.int .i64) 2 (.slice (some ⟨bk, 0, none⟩) n kc) (List.replicate n (-1 : Int)), lo2, hi2), (mapT Try.prog 2 (fun _ => none) 0, lo3, lo3 + 1), (flat kPair 108 (.slice none 0 0) ([]), _, _), (flat (Kd.int .i64) 2 (.slice bo 0 co) ([]), la0, ha0), (flat (Kd.int .i64) 2 (.slice (some ⟨bc, 0, none⟩) 4 cc) (List.replicate 4 (0 : Int)), la1, ha1), (boxT #[.int .i64 a0, .int .i64 a1, .int .i64 a2, .int .i64 a3] 29, fb, rb), (polT (lruHit n) (lruMiss n) (.agg #[.slice A0 (lruHit n).length c0, .slice A1 (lruMiss n).length c1]), lo4, hi4), (boxT #[.int .i64 0, .int .i64 0, .int .i64 0, .int .i64 0, .int .i64 0, .int .i64 0] 40, rb, rb + 1)]))
 case first =>
  have HD := Hold.drew HS
  refine start_ (n := 4) (S := fun w' => True) (ds := []) #[false, false, false, false] (by kernel_rfl) rfl rfl trivial (fun hHeld => ?_)
  clear hHeld
  generalize w3.drew = wd3 at HD ⊢
  refine two_ (i := 0) (j := 1) (Ni := some 28) (Nj := some 29) #[true, false, false, false] #[false, true, false, false] rfl rfl rfl rfl (by kernel_rfl) (by decide) (by decide) (fun K hK => ?_) (fun K hK => ?_)
  ·refine value_ (w1 := ?_) (v := ?_) (by rfl) rfl ?_ ?_
   rotate_left 2
   ·go_simp
    constructor
    ·rfl
    ·rfl
   replace HD := HD.empty (Kd.int .i64) 2
   refine hK.out _ _ trivial (fun _ => ?_)
   clear hK K
   refine norm_ (a' := ?_) ?_ ?_
   rotate_left
   ·show Act.put _ (some 28) _ = _
    simp only [Act.put, List.setIfInBounds_toArray, List.set_cons_zero, List.set_cons_succ, i64_w, i32_w]
    rfl
   refine pu_ (i := 2) (N := some 9) (h := ?_)
   refine one_ (i := 1) (N := some 29) #[true, true, true, false] rfl rfl (by kernel_rfl) (by decide) (fun K hK => ?_)
   refine Kd.R_make_step (Kd.int .i64) (w0 := _) (World.heap _).size 2 (by rfl) rfl 30 _ _ rfl 4 rfl rfl Try.underlying30 (.int .i64 0) 8 svInfo rfl Nat.one_pos (by decide) (0 : Int) (ok := fun _ => True) (okp := fun _ => False) rfl (fun _ hk => hk.elim) trivial (by decide) (by decide) (Below.refl _ _) (Nat.le_refl _) ?_
   intro v4_ w4_ hr_ hb_ _ _
   replace HD := HD.made hb_ hr_
   clear hb_ hr_
   obtain ⟨bc, cc, rfl, _, _⟩ := HD.row_form at0 (by show 0 < (List.replicate 4 (0 : Int)).length; rw [List.length_replicate]; decide)
   change Hold w w4_ ((flat (Kd.int .i64) 2 (.slice (some ⟨bc, 0, none⟩) 4 cc) (List.replicate 4 (0 : Int)), _, _) :: _) at HD
   have hlen4 : (List.replicate (Int.toNat 4) (0 : Int)).length = 4 := rfl
   (try rw [hlen4])
   (try simp only [List.length_replicate])
   refine hK.out _ _ trivial (fun _ => ?_)
   clear hK K
   refine norm_ (a' := ?_) ?_ ?_
   rotate_left
   ·show Act.put _ (some 29) _ = _
    simp only [Act.put, List.setIfInBounds_toArray, List.set_cons_zero, List.set_cons_succ, i64_w, i32_w]
    rfl
   refine pu_ (i := 3) (N := some 10) (h := ?_)
   refine done_ (by kernel_rfl) ?_
   replace HS := HD
   clear HD
   replace HS := HS.pick tk8
   replace HS := HS.pick tk8
   replace HS := HS.pick tk8
   replace HS := HS.pick tk3
   replace HS := HS.pick tk4
   replace HS := HS.pick tk8
   replace HS := HS.pick tk8
   replace HS := HS.pick tk8
   replace HS := HS.pick tk8
   go_wp2_with fail
   go_meet
   exact ⟨_, _, bc, cc, _, _, _, _, rfl, rfl, ⟨HS⟩⟩
  ·refine Kd.R_make_step (Kd.int .i64) (w0 := wd3) (World.heap wd3).size 2 (by rfl) rfl 30 _ _ rfl 4 rfl rfl Try.underlying30 (.int .i64 0) 8 svInfo rfl Nat.one_pos (by decide) (0 : Int) (ok := fun _ => True) (okp := fun _ => False) rfl (fun _ hk => hk.elim) trivial (by decide) (by decide) (Below.refl _ _) (Nat.le_refl _) ?_
   intro v4_ w4_ hr_ hb_ _ _
   replace HD := HD.made hb_ hr_
   clear hb_ hr_
   obtain ⟨bc, cc, rfl, _, _⟩ := HD.row_form at0 (by show 0 < (List.replicate 4 (0 : Int)).length; rw [List.length_replicate]; decide)
   change Hold w w4_ ((flat (Kd.int .i64) 2 (.slice (some ⟨bc, 0, none⟩) 4 cc) (List.replicate 4 (0 : Int)), _, _) :: _) at HD
   have hlen4 : (List.replicate (Int.toNat 4) (0 : Int)).length = 4 := rfl
   (try rw [hlen4])
   (try simp only [List.length_replicate])
   refine hK.out _ _ trivial (fun _ => ?_)
   clear hK K
   refine norm_ (a' := ?_) ?_ ?_
   rotate_left
   ·show Act.put _ (some 29) _ = _
    simp only [Act.put, List.setIfInBounds_toArray, List.set_cons_zero, List.set_cons_succ, i64_w, i32_w]
    rfl
   refine one_ (i := 0) (N := some 28) #[true, true, false, false] rfl rfl (by kernel_rfl) (by decide) (fun K hK => ?_)
   refine value_ (w1 := ?_) (v := ?_) (by rfl) rfl ?_ ?_
   rotate_left 2
   ·go_simp
    constructor
    ·rfl
    ·rfl
   replace HD := HD.empty (Kd.int .i64) 2
   refine hK.out _ _ trivial (fun _ => ?_)
   clear hK K
   refine norm_ (a' := ?_) ?_ ?_
   rotate_left
   ·show Act.put _ (some 28) _ = _
    simp only [Act.put, List.setIfInBounds_toArray, List.set_cons_zero, List.set_cons_succ, i64_w, i32_w]
    rfl
   refine pu_ (i := 2) (N := some 9) (h := ?_)
   refine pu_ (i := 3) (N := some 10) (h := ?_)
   refine done_ (by kernel_rfl) ?_
   replace HS := HD
   clear HD
   replace HS := HS.pick tk8
   replace HS := HS.pick tk8
   replace HS := HS.pick tk8
   replace HS := HS.pick tk4
   replace HS := HS.pick tk4
   replace HS := HS.pick tk8
   replace HS := HS.pick tk8
   replace HS := HS.pick tk8
   replace HS := HS.pick tk8
   go_wp2_with fail
   go_meet
   exact ⟨_, _, bc, cc, _, _, _, _, rfl, rfl, ⟨HS⟩⟩
 case rest =>
 obtain ⟨bo, co, bc, cc, la0, ha0, la1, ha1, rfl, rfl, HS3⟩ := hcut
 clear HS
 have HS := HS3.out
 clear HS3
 skip
 have H0 : Aside0 (ImplF w wc [(flat (Kd.int .i64) 2 (.slice bo (startF n).out.length co) ((startF n).out), la0, ha0), (flat (Kd.int .i64) 2 (.slice (some ⟨bc, 0, none⟩) 4 cc) ([(startF n).n0, (startF n).n1, (startF n).n2, (startF n).n3]), la1, ha1), (boxT #[.int .i64 a0, .int .i64 a1, .int .i64 a2, .int .i64 a3] 29, fb, rb), (polT (lruHit n) (lruMiss n) (.agg #[.slice A0 (lruHit n).length c0, .slice A1 (lruMiss n).length c1]), lo4, hi4), (boxT #[.int .i64 0, .int .i64 0, .int .i64 0, .int .i64 0, .int .i64 0, .int .i64 0] 40, rb, rb + 1)] g lo3 n A0 c0 (lruHit n).length A1 c1 (lruMiss n).length (startF n)) := ⟨⟨bk, kc, _, _, none, 0, _, _, fun _ => none, 0, ⟨fun _ => rfl, rfl⟩, HS⟩⟩
 clear HS
 go_wp2_with fail
 go_loopg [9, 32] l.length (fun gg s9 s32 wr => ∃ (kk : Nat) (s : FetchV) (A : Option Addr) (c lo hi : Nat), kk ≤ l.length ∧ l.length - kk ≤ gg ∧ s9 = .slice A s.out.length c ∧ s32 = .int .i64 kk ∧ Aside0 (runF (lruHit n) (lruMiss n) a2 kk ((itemsF a0 a1 l).drop kk) s = fin) ∧ Aside0 (s.c.Ok n ∧ s.Bnd kk) ∧ Aside0 (ImplF w wr [(flat (Kd.int .i64) 2 (.slice A s.out.length c) s.out, lo, hi), (flat (Kd.int .i64) 2 (.slice (some ⟨bc, 0, none⟩) 4 cc) ([s.n0, s.n1, s.n2, s.n3]), la1, ha1), (boxT #[.int .i64 a0, .int .i64 a1, .int .i64 a2, .int .i64 a3] 29, fb, rb), (polT (lruHit n) (lruMiss n) (.agg #[.slice A0 (lruHit n).length c0, .slice A1 (lruMiss n).length c1]), lo4, hi4), (boxT #[.int .i64 0, .int .i64 0, .int .i64 0, .int .i64 0, .int .i64 0, .int .i64 0] 40, rb, rb + 1)] g lo3 n A0 c0 (lruHit n).length A1 c1 (lruMiss n).length s))
 case atStart => exact ⟨0, startF n, _, _, _, _, Nat.zero_le _, Nat.le_refl _, rfl, rfl, ⟨HF.out⟩, ⟨start_okF n⟩, H0⟩
 case round =>
  clear H0 HF EL EE
  obtain ⟨kk, s, A, c, lo, hi, hkk, hg_, rfl, rfl, HRUN, HI, HSS⟩ := hrel
  by_cases hlt : kk < l.length
  ·have hltz : (kk : Int) < (l.length : Int) := by omega
   have hbel : Below w.heap.size w wr := by obtain ⟨_, _, _, _, _, _, _, _, _, _, _, H_⟩ := HSS.out; exact H_.below
   obtain ⟨ad, e, hx0, hx1⟩ := at_T27 (Kd.C_below HT.out hbel) (kk : Int) (by omega) hltz
   subst e
   obtain ⟨x, hx⟩ : ∃ x, x = rd_T27 l (kk : Int) := ⟨_, rfl⟩
   simp only [Int.toNat_natCast] at hx0 hx1
   rw [← hx] at hx0 hx1
   have HX : Aside0 (x = l.getD kk z27) := ⟨hx⟩
   clear hx hbel
   have bk60 : (kk : Int) < 60 := by have := HL60.out; omega
   obtain ⟨line, hline⟩ : ∃ line, x.f1 = line := ⟨_, rfl⟩
   obtain ⟨str_, hstr⟩ : ∃ str_, x.f0 = str_ := ⟨_, rfl⟩
   rw [hline] at hx1
   rw [hstr] at hx0
   have HIT : Aside0 (itemF a0 a1 l kk = (line, guessAt a0 a1 l kk)) := ⟨by unfold itemF; rw [← HX.out, hline]⟩
   have HIO := Aside0.mk (itemF_ok a0 HV.out HPF.out.1.2 hlt)
   rw [HIT.out] at HIO
   clear hline hstr
   obtain ⟨bk2, kc2, lk2, hk2, KP, kp, lp, hp, M, mn, ⟨hM, hmn⟩, HS⟩ := HSS.out
   have HM := Aside0.mk hM
   have HMN := Aside0.mk hmn
   clear hM hmn HSS
   change Hold w wr [(boxT #[.slice A0 (lruHit n).length c0, .slice A1 (lruMiss n).length c1, .slice (some ⟨bk2, 0, none⟩) n kc2, .map (some lo3), .slice KP s.pd.length kp, .int .i64 0, .int .i64 0, .int .i64 0, .int .i64 0, .int .i64 s.is, .int .i64 s.c.us] 103, g, g + 1), (flat (Kd.int .i64) 2 (.slice (some ⟨bk2, 0, none⟩) n kc2) s.c.cont, lk2, hk2), (mapT Try.prog 2 M mn, lo3, lo3 + 1), (flat kPair 108 (.slice KP s.pd.length kp) s.pd, lp, hp), (flat (Kd.int .i64) 2 (.slice A s.out.length c) s.out, lo, hi), (flat (Kd.int .i64) 2 (.slice (some ⟨bc, 0, none⟩) 4 cc) ([s.n0, s.n1, s.n2, s.n3]), la1, ha1), (boxT #[.int .i64 a0, .int .i64 a1, .int .i64 a2, .int .i64 a3] 29, fb, rb), (polT (lruHit n) (lruMiss n) (.agg #[.slice A0 (lruHit n).length c0, .slice A1 (lruMiss n).length c1]), lo4, hi4), (boxT #[.int .i64 0, .int .i64 0, .int .i64 0, .int .i64 0, .int .i64 0, .int .i64 0] 40, rb, rb + 1)] at HS
   replace HS := HS.box #[.int .i64 str_, .int .i64 line] 27
   go_upto_region 7 with fail
   clear hx0 hx1
   generalize wr.alloc (.cells #[.int .i64 str_, .int .i64 line] 27) = w4 at HS ⊢
   generalize wr.heap.size = lb at HS ⊢
   replace HS := HS.pick tk9
   replace HS := HS.pick tk9
   replace HS := HS.pick tk9
   replace HS := HS.pick tk9
   replace HS := HS.pick tk9
   replace HS := HS.pick tk5
   replace HS := HS.pick tk9
   replace HS := HS.pick tk9
   replace HS := HS.pick tk9
   replace HS := HS.pick tk9
   have HSS : Aside0 (ImplF w w4 [(boxT #[.int .i64 str_, .int .i64 line] 27, lb, lb + 1), (flat (Kd.int .i64) 2 (.slice A s.out.length c) s.out, lo, hi), (flat (Kd.int .i64) 2 (.slice (some ⟨bc, 0, none⟩) 4 cc) ([s.n0, s.n1, s.n2, s.n3]), la1, ha1), (boxT #[.int .i64 a0, .int .i64 a1, .int .i64 a2, .int .i64 a3] 29, fb, rb), (polT (lruHit n) (lruMiss n) (.agg #[.slice A0 (lruHit n).length c0, .slice A1 (lruMiss n).length c1]), lo4, hi4), (boxT #[.int .i64 0, .int .i64 0, .int .i64 0, .int .i64 0, .int .i64 0, .int .i64 0] 40, rb, rb + 1)] g lo3 n A0 c0 (lruHit n).length A1 c1 (lruMiss n).length s) := ⟨⟨bk2, kc2, _, _, KP, kp, _, _, M, mn, ⟨HM.out, HMN.out⟩, HS⟩⟩
   clear HS HM HMN
   go_wp2_with fail
   obtain ⟨hA1, hA2⟩ := arrive_okF HLV.out.1 HLV.out.2.1 HI.out.1 HI.out.2 kk
   have HA := Aside0.mk (And.intro hA1 hA2)
   clear hA1 hA2
   refine (iarrive_calls HSS.out ((HRP.out _ at4).1) HC0.out ((HRP.out _ at4).2) HC1.out HLV.out.2.2.1 HN.out HLV.out.1 HLV.out.2.1 HI.out.1 HI.out.2 (by have := HL60.out; omega)).mono ?_
   clear HSS
   rintro e w5 ⟨rfl, HSS⟩
   change ImplF w w5 [(boxT #[.int .i64 str_, .int .i64 line] 27, lb, lb + 1), (flat (Kd.int .i64) 2 (.slice A s.out.length c) s.out, lo, hi), (flat (Kd.int .i64) 2 (.slice (some ⟨bc, 0, none⟩) 4 cc) ([s.n0, s.n1, s.n2, s.n3]), la1, ha1), (boxT #[.int .i64 a0, .int .i64 a1, .int .i64 a2, .int .i64 a3] 29, fb, rb), (polT (lruHit n) (lruMiss n) (.agg #[.slice A0 (lruHit n).length c0, .slice A1 (lruMiss n).length c1]), lo4, hi4), (boxT #[.int .i64 0, .int .i64 0, .int .i64 0, .int .i64 0, .int .i64 0, .int .i64 0] 40, rb, rb + 1)] g lo3 n A0 c0 (lruHit n).length A1 c1 (lruMiss n).length (arriveF (lruHit n) (lruMiss n) kk s) at HSS
   obtain ⟨s1, hs1⟩ : ∃ s1, arriveF (lruHit n) (lruMiss n) kk s = s1 := ⟨_, rfl⟩
   have hn1 : s.out = s1.out ∧ s.n0 = s1.n0 ∧ s.n1 = s1.n1 ∧ s.n2 = s1.n2 ∧ s.n3 = s1.n3 := by rw [← hs1]; exact ⟨rfl, rfl, rfl, rfl, rfl⟩
   rw [hs1] at HSS HA
   have HS1 := Aside0.mk hs1
   rw [hn1.1, hn1.2.1, hn1.2.2.1, hn1.2.2.2.1, hn1.2.2.2.2] at HSS
   rw [hn1.1]
   clear hs1 hn1
   obtain ⟨bk2, kc2, lk2, hk2, KP, kp, lp, hp, M, mn, ⟨hM, hmn⟩, HS⟩ := HSS
   have HM := Aside0.mk hM
   have HMN := Aside0.mk hmn
   clear hM hmn
   change Hold w w5 [(boxT #[.slice A0 (lruHit n).length c0, .slice A1 (lruMiss n).length c1, .slice (some ⟨bk2, 0, none⟩) n kc2, .map (some lo3), .slice KP s1.pd.length kp, .int .i64 0, .int .i64 0, .int .i64 0, .int .i64 0, .int .i64 s1.is, .int .i64 s1.c.us] 103, g, g + 1), (flat (Kd.int .i64) 2 (.slice (some ⟨bk2, 0, none⟩) n kc2) s1.c.cont, lk2, hk2), (mapT Try.prog 2 M mn, lo3, lo3 + 1), (flat kPair 108 (.slice KP s1.pd.length kp) s1.pd, lp, hp), (boxT #[.int .i64 str_, .int .i64 line] 27, lb, lb + 1), (flat (Kd.int .i64) 2 (.slice A s1.out.length c) s1.out, lo, hi), (flat (Kd.int .i64) 2 (.slice (some ⟨bc, 0, none⟩) 4 cc) ([s1.n0, s1.n1, s1.n2, s1.n3]), la1, ha1), (boxT #[.int .i64 a0, .int .i64 a1, .int .i64 a2, .int .i64 a3] 29, fb, rb), (polT (lruHit n) (lruMiss n) (.agg #[.slice A0 (lruHit n).length c0, .slice A1 (lruMiss n).length c1]), lo4, hi4), (boxT #[.int .i64 0, .int .i64 0, .int .i64 0, .int .i64 0, .int .i64 0, .int .i64 0] 40, rb, rb + 1)] at HS
   have q1 : w5.cell? ⟨lb, 1, none⟩ = some (.int .i64 line) := HS.cell at4 1 _ rfl
   have fzq : ∀ j, w5.frozen? ⟨lb, j, none⟩ = false := HS.thaw at4
   go_wp2_with fail
   clear q1 fzq
   have HSS : Aside0 (ImplF w w5 [(boxT #[.int .i64 str_, .int .i64 line] 27, lb, lb + 1), (flat (Kd.int .i64) 2 (.slice A s1.out.length c) s1.out, lo, hi), (flat (Kd.int .i64) 2 (.slice (some ⟨bc, 0, none⟩) 4 cc) ([s1.n0, s1.n1, s1.n2, s1.n3]), la1, ha1), (boxT #[.int .i64 a0, .int .i64 a1, .int .i64 a2, .int .i64 a3] 29, fb, rb), (polT (lruHit n) (lruMiss n) (.agg #[.slice A0 (lruHit n).length c0, .slice A1 (lruMiss n).length c1]), lo4, hi4), (boxT #[.int .i64 0, .int .i64 0, .int .i64 0, .int .i64 0, .int .i64 0, .int .i64 0] 40, rb, rb + 1)] g lo3 n A0 c0 (lruHit n).length A1 c1 (lruMiss n).length s1) := ⟨⟨bk2, kc2, _, _, KP, kp, _, _, M, mn, ⟨HM.out, HMN.out⟩, HS⟩⟩
   clear HS HM HMN
   refine (iload_calls HSS.out ((HRP.out _ at4).1) HC0.out ((HRP.out _ at4).2) HC1.out HLV.out.2.2.1 HN.out HLV.out.1 HLV.out.2.1 HA.out.1 (by have := HA.out.2.all; have := HA.out.2.us; have := HA.out.2.is; omega) (by have := HA.out.2.all; have := HA.out.2.us; have := HA.out.2.is; omega) HIO.out.1).mono ?_
   clear HSS
   rintro e w6 ⟨rfl, HSS⟩
   obtain ⟨s2, hs2⟩ : ∃ s2, { s1 with c := useF (lruHit n) (lruMiss n) line s1.c, pd := pendF s1.c s1.pd line } = s2 := ⟨_, rfl⟩
   rw [hs2] at HSS
   have HS2 := Aside0.mk hs2
   clear hs2
   obtain ⟨kd_, hkd⟩ : ∃ kd_, kindF s1.c s1.pd line = kd_ := ⟨_, rfl⟩
   have hkr := kindF_range s1.c s1.pd line
   rw [hkd] at hkr ⊢
   have HKD := Aside0.mk hkd
   obtain ⟨qk, rfl⟩ : ∃ qk : Nat, kd_ = (qk : Int) := ⟨kd_.toNat, by omega⟩
   have hq4 : (qk : Int) < 4 := by omega
   have hq0 : (0 : Int) ≤ (qk : Int) := Int.natCast_nonneg qk
   clear hkd hkr
   obtain ⟨bk2, kc2, lk2, hk2, KP, kp, lp, hp, M, mn, ⟨hM, hmn⟩, HS⟩ := HSS
   have HM := Aside0.mk hM
   have HMN := Aside0.mk hmn
   clear hM hmn
   change Hold w w6 [(boxT #[.slice A0 (lruHit n).length c0, .slice A1 (lruMiss n).length c1, .slice (some ⟨bk2, 0, none⟩) n kc2, .map (some lo3), .slice KP s2.pd.length kp, .int .i64 0, .int .i64 0, .int .i64 0, .int .i64 0, .int .i64 s2.is, .int .i64 s2.c.us] 103, g, g + 1), (flat (Kd.int .i64) 2 (.slice (some ⟨bk2, 0, none⟩) n kc2) s2.c.cont, lk2, hk2), (mapT Try.prog 2 M mn, lo3, lo3 + 1), (flat kPair 108 (.slice KP s2.pd.length kp) s2.pd, lp, hp), (boxT #[.int .i64 str_, .int .i64 line] 27, lb, lb + 1), (flat (Kd.int .i64) 2 (.slice A s1.out.length c) s1.out, lo, hi), (flat (Kd.int .i64) 2 (.slice (some ⟨bc, 0, none⟩) 4 cc) ([s1.n0, s1.n1, s1.n2, s1.n3]), la1, ha1), (boxT #[.int .i64 a0, .int .i64 a1, .int .i64 a2, .int .i64 a3] 29, fb, rb), (polT (lruHit n) (lruMiss n) (.agg #[.slice A0 (lruHit n).length c0, .slice A1 (lruMiss n).length c1]), lo4, hi4), (boxT #[.int .i64 0, .int .i64 0, .int .i64 0, .int .i64 0, .int .i64 0, .int .i64 0] 40, rb, rb + 1)] at HS
   go_upto_region 10 with ((with_reducible refine gate_builtin (b := .append) (xs := #[.tmp 44, .tmp 46]) rfl ?_); at_builtin; refine Hold.appendI HS rfl (.tmp 44) (.tmp 46) 30 2 rfl Try.underlying30 svInfo (.slice A s1.out.length c) (s1.out) (qk : Int) rfl rfl at5 (by have := HA.out.2.out; omega) ?_; intro A9 c9 lo9 hi9 w7 HQ; replace HS := HQ _ (.there (.there (.there (.there (.there .here))))); clear HQ)
   have ra := HS.cellI at6 (qk : Int) hq0 (by exact hq4)
   rw [Int.toNat_natCast] at ra
   obtain ⟨v, hv⟩ : ∃ v, [s1.n0, s1.n1, s1.n2, s1.n3].getD qk 0 = v := ⟨_, rfl⟩
   rw [hv] at ra
   have ra1 := ra.1
   have ra2 := ra.2
   clear ra
   have hvb : 0 ≤ v ∧ v ≤ 60 := by rw [← hv]; exact counts_rangeF HA.out.2.n0 HA.out.2.n1 HA.out.2.n2 HA.out.2.n3 (by have := HL60.out; omega) (by omega)
   have v0_ := hvb.1
   have v1_ := hvb.2
   have HVV := Aside0.mk hv
   clear hv hvb
   go_upto_region 11 with fail
   clear ra1 ra2 v0_ v1_
   have H5 := HS.setI (qk : Int) (v + 1) ((.there (.there (.there (.there (.there (.there .here)))))))
   rw [Int.toNat_natCast] at H5
   generalize w7.setCell ⟨bc, qk, none⟩ (.int .i64 (v + 1)) = w8 at H5 ⊢
   clear HS
   have HS := H5
   clear H5
   obtain ⟨s3, hs3⟩ : ∃ s3, takeF (lruHit n) (lruMiss n) line s1 = s3 := ⟨_, rfl⟩
   have HS3 := Aside0.mk hs3
   have hcn : [s1.n0, s1.n1, s1.n2, s1.n3].set qk (v + 1) = [s3.n0, s3.n1, s3.n2, s3.n3] := by rw [← HVV.out, ← hs3]; exact counts_setF (by omega) HKD.out
   have hou : s1.out ++ [(qk : Int)] = s3.out := by rw [← hs3, ← HKD.out]; rfl
   have hol : s1.out.length + 1 = s3.out.length := by rw [← hou]; simp
   rw [hcn, hou, hol] at HS
   rw [hol]
   have he2 : s2.c = s3.c ∧ s2.pd = s3.pd ∧ s2.is = s3.is := by rw [← hs3, ← HS2.out]; exact ⟨rfl, rfl, rfl⟩
   rw [he2.1, he2.2.1, he2.2.2] at HS
   rw [he2.1] at HM HMN
   clear hs3 hcn hou hol he2 hq4 hq0
   replace HS := HS.pick tk4
   replace HS := HS.tail
   replace HS := HS.pick tk8
   replace HS := HS.pick tk8
   replace HS := HS.pick tk8
   replace HS := HS.pick tk8
   replace HS := HS.pick tk8
   replace HS := HS.pick tk8
   replace HS := HS.pick tk8
   replace HS := HS.pick tk8
   replace HS := HS.pick tk8
   obtain ⟨hT1, hT2⟩ := take_okF HLV.out.1 HLV.out.2.1 HA.out.1 HA.out.2 HIO.out.1
   rw [HS3.out] at hT1 hT2
   have HTK := Aside0.mk (And.intro hT1 hT2)
   have his : s3.is ≤ 4 * kk := by rw [← HS3.out]; exact HA.out.2.is.2
   have HIS := Aside0.mk his
   clear hT1 hT2 his
   have EG := Aside0.mk (guess_ev a0 a1 a2 a3 l kk HL60.out HV.out HPF.out.1.1 HPF.out.1.2 hlt).2
   obtain ⟨kn, hkn, kw, kx0, kx1, kx2⟩ := take_wF hlt HL60.out HCT.out
   have HKN : Aside0 (kn = (l.take (kk + 1)).length) := ⟨by rw [List.length_take, Nat.min_eq_left hlt]; exact hkn⟩
   clear hkn
   have HD := Hold.drew HS
   refine start_ (n := 8) (S := fun w' => w'.cell? ⟨fb, 0, none⟩ = some (.int .i64 a0) ∧ w'.cell? ⟨fb, 1, none⟩ = some (.int .i64 a1) ∧ w'.cell? ⟨fb, 2, none⟩ = some (.int .i64 a2) ∧ w'.cell? ⟨fb, 3, none⟩ = some (.int .i64 a3)) (ds := []) #[false, false, false, false, false, false, false, false] (by kernel_rfl) rfl rfl ⟨(HD.cell at6 0 _ rfl), (HD.cell at6 1 _ rfl), (HD.cell at6 2 _ rfl), (HD.cell at6 3 _ rfl)⟩ (fun hHeld => ?_)
   generalize w8.drew = wd at HD hHeld ⊢
   refine pu_ (i := 1) (N := some 55) (h := ?_)
   refine pu_ (i := 2) (N := some 56) (h := ?_)
   refine pu_ (i := 3) (N := some 57) (h := ?_)
   refine pu_ (i := 4) (N := some 58) (h := ?_)
   refine pu_ (i := 7) (N := some 61) (h := ?_)
   refine ta_ (i := 0) (N := some 54) (hS := hHeld) (hy := by rintro w' ⟨s0, s1, s2, s3⟩; go_simp; with_reducible rfl) (h := ?_)
   refine one_ (i := 5) (N := some 59) #[true, true, true, true, true, true, false, true] rfl rfl (by kernel_rfl) (by decide) (fun K hK => ?_)
   refine goes_ Try.func69 (by kernel_rfl) rfl #[.agg #[.int .i64 a0, .int .i64 a1, .int .i64 a2, .int .i64 a3], .slice (some ad) kn cL] (by rfl) rfl rfl (by simp only [List.map_toArray, List.map_cons, List.map_nil]; rfl) ?_
   with_reducible refine (show Calls _ _ #[.agg #[.int .i64 a0, .int .i64 a1, .int .i64 a2, .int .i64 a3], .slice (some ad) kn cL] _ _ from HKN.out ▸ impl_Prefetcher_guesses.calls (Ev.num EG.out) a0 a1 a2 a3 (some ad) cL (l.take (kk + 1)) (guessAt a0 a1 l kk) _ (Kd.C_take (Kd.C_below HT.out HD.below) (Nat.succ_le_of_lt hlt)) (Nat.le_trans (List.length_take_le _ _) (Nat.le_trans (Nat.succ_le_of_lt hlt) HCT.out)) (Ev.is EG.out)).mono ?_
   rintro e w9 ⟨v_, rfl, hr, hb⟩
   refine ⟨_, rfl, ?_⟩
   obtain ⟨AG, cg, rfl⟩ := Kd.R_slice hr
   replace HD := HD.made hb hr
   clear hb hr
   have s0_ : w9.cell? ⟨fb, 0, none⟩ = some (.int .i64 a0) := HD.cell at7 0 _ rfl
   have s1_ : w9.cell? ⟨fb, 1, none⟩ = some (.int .i64 a1) := HD.cell at7 1 _ rfl
   have s2_ : w9.cell? ⟨fb, 2, none⟩ = some (.int .i64 a2) := HD.cell at7 2 _ rfl
   have s3_ : w9.cell? ⟨fb, 3, none⟩ = some (.int .i64 a3) := HD.cell at7 3 _ rfl
   refine hK.out _ _ ⟨s0_, s1_, s2_, s3_⟩ (fun hHeld => ?_)
   clear hK K
   refine norm_ (a' := ?_) ?_ ?_
   rotate_left
   ·show Act.put _ (some 59) _ = _
    simp only [Act.put, List.setIfInBounds_toArray, List.set_cons_zero, List.set_cons_succ, i64_w, i32_w]
    rfl
   refine pu_ (i := 6) (N := some 60) (h := ?_)
   refine done_ (by kernel_rfl) ?_
   clear hHeld s0_ s1_ s2_ s3_
   replace HS := HD
   clear HD
   clear kw kx0 kx1 kx2 EG
   obtain ⟨gs, hgs⟩ : ∃ gs, (guessAt a0 a1 l kk) = gs := ⟨_, rfl⟩
   have HGS := Aside0.mk hgs
   rw [hgs] at HS HIO ⊢
   clear hgs
   generalize w9.heap.size = hg at HS
   generalize wd.heap.size = lg at HS
   replace HS := HS.pick tk9
   replace HS := HS.pick tk9
   replace HS := HS.pick tk9
   replace HS := HS.pick tk9
   replace HS := HS.pick tk9
   replace HS := HS.pick tk5
   replace HS := HS.pick tk9
   replace HS := HS.pick tk9
   replace HS := HS.pick tk9
   replace HS := HS.pick tk9
   have H3 : Aside0 (ImplF w w9 [(flat (Kd.int .i64) 2 (.slice AG gs.length cg) gs, lg, hg), (flat (Kd.int .i64) 2 (.slice A9 s3.out.length c9) s3.out, lo9, hi9), (flat (Kd.int .i64) 2 (.slice (some ⟨bc, 0, none⟩) 4 cc) ([s3.n0, s3.n1, s3.n2, s3.n3]), la1, ha1), (boxT #[.int .i64 a0, .int .i64 a1, .int .i64 a2, .int .i64 a3] 29, fb, rb), (polT (lruHit n) (lruMiss n) (.agg #[.slice A0 (lruHit n).length c0, .slice A1 (lruMiss n).length c1]), lo4, hi4), (boxT #[.int .i64 0, .int .i64 0, .int .i64 0, .int .i64 0, .int .i64 0, .int .i64 0] 40, rb, rb + 1)] g lo3 n A0 c0 (lruHit n).length A1 c1 (lruMiss n).length { s3 with pd := (issueF ((kk : Int) + 1 + a2) s3.c.cont (gs.take 0) s3.pd s3.is).1, is := (issueF ((kk : Int) + 1 + a2) s3.c.cont (gs.take 0) s3.pd s3.is).2 }) := ⟨⟨bk2, kc2, _, _, KP, kp, _, _, M, mn, ⟨HM.out, HMN.out⟩, HS⟩⟩
   clear HS HM HMN
   go_wp2_with fail
   go_loopg [61] gs.length (fun gg s61 wq => ∃ q : Nat, q ≤ gs.length ∧ gs.length - q ≤ gg ∧ s61 = .int .i64 q ∧ Aside0 (ImplF w wq [(flat (Kd.int .i64) 2 (.slice AG gs.length cg) gs, lg, hg), (flat (Kd.int .i64) 2 (.slice A9 s3.out.length c9) s3.out, lo9, hi9), (flat (Kd.int .i64) 2 (.slice (some ⟨bc, 0, none⟩) 4 cc) ([s3.n0, s3.n1, s3.n2, s3.n3]), la1, ha1), (boxT #[.int .i64 a0, .int .i64 a1, .int .i64 a2, .int .i64 a3] 29, fb, rb), (polT (lruHit n) (lruMiss n) (.agg #[.slice A0 (lruHit n).length c0, .slice A1 (lruMiss n).length c1]), lo4, hi4), (boxT #[.int .i64 0, .int .i64 0, .int .i64 0, .int .i64 0, .int .i64 0, .int .i64 0] 40, rb, rb + 1)] g lo3 n A0 c0 (lruHit n).length A1 c1 (lruMiss n).length { s3 with pd := (issueF ((kk : Int) + 1 + a2) s3.c.cont (gs.take q) s3.pd s3.is).1, is := (issueF ((kk : Int) + 1 + a2) s3.c.cont (gs.take q) s3.pd s3.is).2 }))
   case atStart => exact ⟨0, Nat.zero_le _, Nat.le_refl _, rfl, H3⟩
   case round =>
    clear H3
    obtain ⟨q, hq, hgq, rfl, HQQ⟩ := hrel
    by_cases hqt : q < gs.length
    ·have hqz : (q : Int) < (gs.length : Int) := by omega
     have hq0 : (0 : Int) ≤ q := Int.natCast_nonneg q
     have ht1 := take_succ gs q 0 hqt
     obtain ⟨y, hy⟩ : ∃ y, gs.getD q 0 = y := ⟨_, rfl⟩
     rw [hy] at ht1
     have HY := Aside0.mk hy
     have hT := issueF_app ((kk : Int) + 1 + a2) s3.c.cont (gs.take q) [y] s3.pd s3.is
     rw [← ht1] at hT
     obtain ⟨l1_, l2_, l3_, l4_⟩ := issue_le ((kk : Int) + 1 + a2) s3.c.cont (gs.take q) s3.pd s3.is (fun z hz => HIO.out.2.1 z (List.mem_of_mem_take hz)) HTK.out.2.lines
     have l5_ : (gs.take q).length = q := by rw [List.length_take]; omega
     generalize issueF ((kk : Int) + 1 + a2) s3.c.cont (gs.take q) s3.pd s3.is = pn at HQQ hT l1_ l2_ l3_ l4_
     obtain ⟨pd, is_⟩ := pn
     have HIS2 : Aside0 (0 ≤ is_ ∧ is_ ≤ 1000 ∧ pd.length ≤ 500) := ⟨by simp only at l1_ l2_ l3_; have := HTK.out.2.is; have := HTK.out.2.all; have := HTK.out.2.us; have := HIO.out.2.2; omega⟩
     have HTT := Aside0.mk hT
     clear hT ht1 hy l1_ l2_ l3_ l4_ l5_
     obtain ⟨s4, hs4⟩ : ∃ s4 : FetchV, { s3 with pd := pd, is := is_ } = s4 := ⟨_, rfl⟩
     rw [hs4] at HQQ
     have HS4 := Aside0.mk hs4
     clear hs4
     have HP4 : Aside0 (s4.pd = pd ∧ s4.is = is_ ∧ s4.c = s3.c) := ⟨by rw [← HS4.out]; exact ⟨rfl, rfl, rfl⟩⟩
     obtain ⟨bk2, kc2, lk2, hk2, KP, kp, lp, hp, M, mn, ⟨hM, hmn⟩, HS⟩ := HQQ.out
     have HM := Aside0.mk hM
     have HMN := Aside0.mk hmn
     clear hM hmn HQQ
     change Hold w wr [(boxT #[.slice A0 (lruHit n).length c0, .slice A1 (lruMiss n).length c1, .slice (some ⟨bk2, 0, none⟩) n kc2, .map (some lo3), .slice KP s4.pd.length kp, .int .i64 0, .int .i64 0, .int .i64 0, .int .i64 0, .int .i64 s4.is, .int .i64 s4.c.us] 103, g, g + 1), (flat (Kd.int .i64) 2 (.slice (some ⟨bk2, 0, none⟩) n kc2) s4.c.cont, lk2, hk2), (mapT Try.prog 2 M mn, lo3, lo3 + 1), (flat kPair 108 (.slice KP s4.pd.length kp) s4.pd, lp, hp), (flat (Kd.int .i64) 2 (.slice AG gs.length cg) gs, lg, hg), (flat (Kd.int .i64) 2 (.slice A9 s3.out.length c9) s3.out, lo9, hi9), (flat (Kd.int .i64) 2 (.slice (some ⟨bc, 0, none⟩) 4 cc) ([s3.n0, s3.n1, s3.n2, s3.n3]), la1, ha1), (boxT #[.int .i64 a0, .int .i64 a1, .int .i64 a2, .int .i64 a3] 29, fb, rb), (polT (lruHit n) (lruMiss n) (.agg #[.slice A0 (lruHit n).length c0, .slice A1 (lruMiss n).length c1]), lo4, hi4), (boxT #[.int .i64 0, .int .i64 0, .int .i64 0, .int .i64 0, .int .i64 0, .int .i64 0] 40, rb, rb + 1)] at HS
     obtain ⟨bg, cg_, e_, _, _⟩ := HS.row_form at4 (by omega)
     injection e_ with e1_ _ e3_
     subst e1_ e3_
     have HCM := Aside0.mk (HS.reads' at1).1
     have E1 := Aside0.mk (implHas_ev s4.c.cont y (by have := HCM.out; have := HN.out; omega))
     obtain ⟨b1, hb1⟩ : ∃ b, hasF s4.c.cont y = b := ⟨_, rfl⟩
     rw [show (s4.c.cont.any fun z => decide (z = y)) = b1 from hb1] at E1
     have HB1 := Aside0.mk hb1
     clear hb1
     have rgq := (HS.cellI at4 (q : Int) hq0 (by exact hqz)).1
     rw [Int.toNat_natCast, HY.out] at rgq
     have q2 : wr.cell? ⟨g, 2, none⟩ = some (.slice (some ⟨bk2, 0, none⟩) n kc2) := HS.cell at0 2 _ rfl
     have fzq : ∀ j, wr.frozen? ⟨g, j, none⟩ = false := HS.thaw at0
     go_upto_region 14 with fail
     go_wp2_with fail
     clear q2 fzq rgq
     refine (show Calls _ _ #[.slice (some ⟨bk2, 0, none⟩) n kc2, .int .i64 y] _ _ from HCM.out ▸ slices_Contains_int64_int64.calls (Ev.num E1.out) _ _ s4.c.cont y b1 _ (HS.reads' at1).2.2 (HS.reads' at1).2.1 (Ev.is E1.out)).mono ?_
     rintro e w11 ⟨rfl, hb⟩
     clear E1
     replace HS := HS.step (by first | exact hb | exact hb.below)
     clear hb
     cases b1
     ·go_wp2_with fail
      replace HS := HS.pick tk9
      replace HS := HS.pick tk9
      replace HS := HS.pick tk9
      replace HS := HS.pick tk9
      replace HS := HS.pick tk9
      replace HS := HS.pick tk9
      replace HS := HS.pick tk8
      replace HS := HS.pick tk8
      replace HS := HS.pick tk9
      replace HS := HS.pick tk9
      refine (iplace_calls HS (line := y)).mono ?_
      clear HS
      rintro e w12 ⟨rfl, HS⟩
      replace HS := HS.pick tk9
      replace HS := HS.pick tk9
      replace HS := HS.pick tk9
      replace HS := HS.pick tk9
      replace HS := HS.pick tk9
      replace HS := HS.pick tk9
      replace HS := HS.pick tk7
      replace HS := HS.pick tk9
      replace HS := HS.pick tk9
      replace HS := HS.pick tk9
      obtain ⟨pq, hpq⟩ : ∃ pq, placeF s4.pd y = pq := ⟨_, rfl⟩
      have HPQ := Aside0.mk hpq
      rw [hpq]
      clear hpq
      by_cases hp0 : pq < 0
      ·go_upto_region 15 with fail
       obtain ⟨wd1, wd2⟩ := due_w bk60 HPF.out.2.1
       have HD := Hold.drew HS
       refine start_ (n := 17) (S := fun w' => w'.cell? ⟨g, 4, none⟩ = some (.slice KP s4.pd.length kp) ∧ w'.cell? ⟨fb, 2, none⟩ = some (.int .i64 a2)) (ds := [16]) #[false, false, false, false, false, false, false, false, false, false, false, false, false, false, false, false, false] (by kernel_rfl) rfl rfl ⟨(HD.cell at0 4 _ rfl), (HD.cell at7 2 _ rfl)⟩ (fun hHeld => ?_)
       generalize w12.drew = wd at HD hHeld ⊢
       refine pu_ (i := 0) (N := some 78) (h := ?_)
       refine pu_ (i := 1) (N := some 79) (h := ?_)
       refine pu_ (i := 2) (N := some 80) (h := ?_)
       refine pu_ (i := 3) (N := some 81) (h := ?_)
       refine pu_ (i := 5) (N := some 83) (h := ?_)
       refine pu_ (i := 6) (N := some 84) (h := ?_)
       refine pu_ (i := 7) (N := some 85) (h := ?_)
       refine pu_ (i := 8) (N := some 86) (h := ?_)
       refine ta_ (i := 4) (N := some 82) (hS := hHeld) (hy := by rintro w' ⟨s0, s1⟩; go_simp; with_reducible rfl) (h := ?_)
       refine ta_ (i := 9) (N := some 87) (hS := hHeld) (hy := by rintro w' ⟨s0, s1⟩; go_simp; with_reducible rfl) (h := ?_)
       refine pu_ (i := 10) (N := some 88) (h := ?_)
       refine pu_ (i := 11) (N := some 89) (h := ?_)
       refine one_ (i := 12) (N := some 90) #[true, true, true, true, true, true, true, true, true, true, true, true, true, false, false, false, false] rfl rfl (by kernel_rfl) (by decide) (fun K hK => ?_)
       refine value_ (w1 := ?_) (v := ?_) (by rfl) rfl ?_ ?_
       rotate_left 2
       ·go_simp
        constructor
        ·rfl
        ·rfl
       have HE_ := HD
       replace HD := HD.alloc (.cells #[.int .i64 y, .int .i64 ((kk : Int) + 1 + a2)] 108)
       have s0_ : (wd.alloc (.cells #[.int .i64 y, .int .i64 ((kk : Int) + 1 + a2)] 108)).cell? ⟨g, 4, none⟩ = some (.slice KP s4.pd.length kp) := HD.cell at0 4 _ rfl
       have s1_ : (wd.alloc (.cells #[.int .i64 y, .int .i64 ((kk : Int) + 1 + a2)] 108)).cell? ⟨fb, 2, none⟩ = some (.int .i64 a2) := HD.cell at7 2 _ rfl
       refine hK.out _ _ ⟨s0_, s1_⟩ (fun hHeld => ?_)
       clear hK K
       refine norm_ (a' := ?_) ?_ ?_
       rotate_left
       ·show Act.put _ (some 90) _ = _
        simp only [Act.put, List.setIfInBounds_toArray, List.set_cons_zero, List.set_cons_succ, i64_w, i32_w]
        rfl
       refine one_ (i := 13) (N := some 91) #[true, true, true, true, true, true, true, true, true, true, true, true, true, true, false, false, false] rfl rfl (by kernel_rfl) (by decide) (fun K hK => ?_)
       clear s0_ s1_
       refine Hold.appendP_step HE_ (by rfl) (.tmp 82) (.tmp 90) 101 108 rfl Try.underlying101 (by kernel_rfl) (.slice KP s4.pd.length kp) s4.pd (y, ((kk : Int) + 1 + a2)) rfl rfl at3 (by rw [HP4.out.1]; have := HIS2.out; omega) ?_
       intro NP npc npl nph w13 HQ
       replace HD := HQ _ (.there (.there (.there .here)))
       clear HQ HE_
       have s0_ : w13.cell? ⟨g, 4, none⟩ = some (.slice KP s4.pd.length kp) := HD.cell at0 4 _ rfl
       have s1_ : w13.cell? ⟨fb, 2, none⟩ = some (.int .i64 a2) := HD.cell at7 2 _ rfl
       have fz_ : ∀ j, w13.frozen? ⟨g, j, none⟩ = false := HD.thaw at0
       refine hK.out _ _ ⟨s0_, s1_⟩ (fun hHeld => ?_)
       clear hK K
       refine norm_ (a' := ?_) ?_ ?_
       rotate_left
       ·show Act.put _ (some 91) _ = _
        simp only [Act.put, List.setIfInBounds_toArray, List.set_cons_zero, List.set_cons_succ, i64_w, i32_w]
        rfl
       refine pu_ (i := 14) (N := some 92) (h := ?_)
       refine pu_ (i := 15) (N := some 93) (h := ?_)
       refine last_ (i := 16) (N := none) #[true, true, true, true, true, true, true, true, true, true, true, true, true, true, true, true, true] rfl rfl (by kernel_rfl) (by decide) (fun K hK => ?_)
       refine skip_ (w1 := ?_) (by rfl) rfl ?_ ?_
       rotate_left
       ·go_simp
        rfl
       refine hK.out _ _ ?_
       clear hK K
       refine done_ (by kernel_rfl) ?_
       clear hHeld s0_ s1_ fz_
       replace HS := HD
       clear HD
       replace HS := HS.setBox 4 (.slice NP (s4.pd.length + 1) npc) .here
       simp only [List.setIfInBounds_toArray, List.set_cons_zero, List.set_cons_succ] at HS
       generalize w13.setCell ⟨g, 4, none⟩ (.slice NP (s4.pd.length + 1) npc) = w13b at HS ⊢
       clear wd1 wd2
       have u1 : 0 ≤ s4.is := by rw [HP4.out.2.1]; exact HIS2.out.1
       have u2 : s4.is ≤ 1000 := by rw [HP4.out.2.1]; exact HIS2.out.2.1
       have q9 : w13b.cell? ⟨g, 9, none⟩ = some (.int .i64 s4.is) := HS.cell at0 9 _ rfl
       have fzq : ∀ j, w13b.frozen? ⟨g, j, none⟩ = false := HS.thaw at0
       go_upto_region 17 with fail
       clear q9 fzq u1 u2
       replace HS := HS.setBox 9 (.int .i64 (s4.is + 1)) .here
       simp only [List.setIfInBounds_toArray, List.set_cons_zero, List.set_cons_succ] at HS
       generalize w13b.setCell ⟨g, 9, none⟩ (.int .i64 (s4.is + 1)) = w15 at HS ⊢
       have hnw : newF s3.c.cont pd y = true := by have h := HP4.out; have h1 := HB1.out; have h2 := place_has s4.pd y; rw [HPQ.out] at h2; rw [h.2.2] at h1; rw [h.1] at h2; unfold newF; rw [h1, ← h2, decide_eq_false (show ¬ (0 : Int) ≤ pq by omega)]; rfl
       have hpl : s4.pd.length + 1 = (pd ++ [(y, ((kk : Int) + 1 + a2))]).length := by rw [HP4.out.1]; simp
       rw [hpl, HP4.out.1, HP4.out.2.1] at HS
       have HE : Aside0 (ImplF w w15 [(flat (Kd.int .i64) 2 (.slice (some ⟨bg, 0, none⟩) gs.length cg) gs, lg, hg), (flat (Kd.int .i64) 2 (.slice A9 s3.out.length c9) s3.out, lo9, hi9), (flat (Kd.int .i64) 2 (.slice (some ⟨bc, 0, none⟩) 4 cc) ([s3.n0, s3.n1, s3.n2, s3.n3]), la1, ha1), (boxT #[.int .i64 a0, .int .i64 a1, .int .i64 a2, .int .i64 a3] 29, fb, rb), (polT (lruHit n) (lruMiss n) (.agg #[.slice A0 (lruHit n).length c0, .slice A1 (lruMiss n).length c1]), lo4, hi4), (boxT #[.int .i64 0, .int .i64 0, .int .i64 0, .int .i64 0, .int .i64 0, .int .i64 0] 40, rb, rb + 1)] g lo3 n A0 c0 (lruHit n).length A1 c1 (lruMiss n).length { s3 with pd := (issueF ((kk : Int) + 1 + a2) s3.c.cont (gs.take (q + 1)) s3.pd s3.is).1, is := (issueF ((kk : Int) + 1 + a2) s3.c.cont (gs.take (q + 1)) s3.pd s3.is).2 }) := ⟨by rw [HTT.out]; simp only [issueF, hnw, if_true]; rw [← HS4.out] at HS HM HMN; exact ⟨bk2, kc2, lk2, hk2, NP, npc, _, _, M, mn, ⟨HM.out, HMN.out⟩, HS⟩⟩
       clear HS hpl
       go_wp2_with fail
       go_roundg (gs.length - (q + 1))
       case measure => omega
       case rel => exact ⟨q + 1, hqt, Nat.le_refl _, by first | rfl | rw [wrap_succ hqt (gsF_len HIO.out.2.2)], HE⟩
      ·have hnw : newF s3.c.cont pd y = false := by have h := HP4.out; have h1 := HB1.out; have h2 := place_has s4.pd y; rw [HPQ.out] at h2; rw [h.2.2] at h1; rw [h.1] at h2; unfold newF; rw [h1, ← h2, decide_eq_true (show (0 : Int) ≤ pq by omega)]; rfl
       have HE : Aside0 (ImplF w w12 [(flat (Kd.int .i64) 2 (.slice (some ⟨bg, 0, none⟩) gs.length cg) gs, lg, hg), (flat (Kd.int .i64) 2 (.slice A9 s3.out.length c9) s3.out, lo9, hi9), (flat (Kd.int .i64) 2 (.slice (some ⟨bc, 0, none⟩) 4 cc) ([s3.n0, s3.n1, s3.n2, s3.n3]), la1, ha1), (boxT #[.int .i64 a0, .int .i64 a1, .int .i64 a2, .int .i64 a3] 29, fb, rb), (polT (lruHit n) (lruMiss n) (.agg #[.slice A0 (lruHit n).length c0, .slice A1 (lruMiss n).length c1]), lo4, hi4), (boxT #[.int .i64 0, .int .i64 0, .int .i64 0, .int .i64 0, .int .i64 0, .int .i64 0] 40, rb, rb + 1)] g lo3 n A0 c0 (lruHit n).length A1 c1 (lruMiss n).length { s3 with pd := (issueF ((kk : Int) + 1 + a2) s3.c.cont (gs.take (q + 1)) s3.pd s3.is).1, is := (issueF ((kk : Int) + 1 + a2) s3.c.cont (gs.take (q + 1)) s3.pd s3.is).2 }) := ⟨by rw [HTT.out]; simp only [issueF, hnw, Bool.false_eq_true, if_false]; rw [HS4.out]; exact ⟨bk2, kc2, lk2, hk2, KP, kp, lp, hp, M, mn, ⟨HM.out, HMN.out⟩, HS⟩⟩
       clear HS
       go_wp2_with fail
       go_roundg (gs.length - (q + 1))
       case measure => omega
       case rel => exact ⟨q + 1, hqt, Nat.le_refl _, by first | rfl | rw [wrap_succ hqt (gsF_len HIO.out.2.2)], HE⟩
     ·have hnw : newF s3.c.cont pd y = false := by have h := HP4.out; have h1 := HB1.out; rw [h.2.2] at h1; unfold newF; rw [h1]; rfl
      have HE : Aside0 (ImplF w w11 [(flat (Kd.int .i64) 2 (.slice (some ⟨bg, 0, none⟩) gs.length cg) gs, lg, hg), (flat (Kd.int .i64) 2 (.slice A9 s3.out.length c9) s3.out, lo9, hi9), (flat (Kd.int .i64) 2 (.slice (some ⟨bc, 0, none⟩) 4 cc) ([s3.n0, s3.n1, s3.n2, s3.n3]), la1, ha1), (boxT #[.int .i64 a0, .int .i64 a1, .int .i64 a2, .int .i64 a3] 29, fb, rb), (polT (lruHit n) (lruMiss n) (.agg #[.slice A0 (lruHit n).length c0, .slice A1 (lruMiss n).length c1]), lo4, hi4), (boxT #[.int .i64 0, .int .i64 0, .int .i64 0, .int .i64 0, .int .i64 0, .int .i64 0] 40, rb, rb + 1)] g lo3 n A0 c0 (lruHit n).length A1 c1 (lruMiss n).length { s3 with pd := (issueF ((kk : Int) + 1 + a2) s3.c.cont (gs.take (q + 1)) s3.pd s3.is).1, is := (issueF ((kk : Int) + 1 + a2) s3.c.cont (gs.take (q + 1)) s3.pd s3.is).2 }) := ⟨by rw [HTT.out]; simp only [issueF, hnw, Bool.false_eq_true, if_false]; rw [HS4.out]; exact ⟨bk2, kc2, lk2, hk2, KP, kp, lp, hp, M, mn, ⟨HM.out, HMN.out⟩, HS⟩⟩
      clear HS
      go_wp2_with fail
      go_roundg (gs.length - (q + 1))
      case measure => omega
      case rel => exact ⟨q + 1, hqt, Nat.le_refl _, by first | rfl | rw [wrap_succ hqt (gsF_len HIO.out.2.2)], HE⟩
    ·obtain rfl : q = gs.length := by omega
     have hqz : ¬ ((gs.length : Nat) : Int) < (gs.length : Int) := by omega
     have HQ2 := HQQ.out
     rw [List.take_length] at HQ2
     change ImplF w wr [(flat (Kd.int .i64) 2 (.slice AG gs.length cg) gs, lg, hg), (flat (Kd.int .i64) 2 (.slice A9 s3.out.length c9) s3.out, lo9, hi9), (flat (Kd.int .i64) 2 (.slice (some ⟨bc, 0, none⟩) 4 cc) ([s3.n0, s3.n1, s3.n2, s3.n3]), la1, ha1), (boxT #[.int .i64 a0, .int .i64 a1, .int .i64 a2, .int .i64 a3] 29, fb, rb), (polT (lruHit n) (lruMiss n) (.agg #[.slice A0 (lruHit n).length c0, .slice A1 (lruMiss n).length c1]), lo4, hi4), (boxT #[.int .i64 0, .int .i64 0, .int .i64 0, .int .i64 0, .int .i64 0, .int .i64 0] 40, rb, rb + 1)] g lo3 n A0 c0 (lruHit n).length A1 c1 (lruMiss n).length (guessF ((kk : Int) + 1 + a2) gs s3) at HQ2
     clear HQQ
     obtain ⟨bk2, kc2, lk2, hk2, KP, kp, lp, hp, M, mn, ⟨hM, hmn⟩, HS⟩ := HQ2
     have HM := Aside0.mk hM
     have HMN := Aside0.mk hmn
     clear hM hmn
     replace HS := HS.pick tk4
     replace HS := HS.tail
     replace HS := HS.pick tk8
     replace HS := HS.pick tk8
     replace HS := HS.pick tk8
     replace HS := HS.pick tk8
     replace HS := HS.pick tk8
     replace HS := HS.pick tk8
     replace HS := HS.pick tk8
     replace HS := HS.pick tk8
     replace HS := HS.pick tk8
     have HZ : Aside0 (ImplF w wr [(flat (Kd.int .i64) 2 (.slice A9 (guessF ((kk : Int) + 1 + a2) gs s3).out.length c9) ((guessF ((kk : Int) + 1 + a2) gs s3).out), lo9, hi9), (flat (Kd.int .i64) 2 (.slice (some ⟨bc, 0, none⟩) 4 cc) ([(guessF ((kk : Int) + 1 + a2) gs s3).n0, (guessF ((kk : Int) + 1 + a2) gs s3).n1, (guessF ((kk : Int) + 1 + a2) gs s3).n2, (guessF ((kk : Int) + 1 + a2) gs s3).n3]), la1, ha1), (boxT #[.int .i64 a0, .int .i64 a1, .int .i64 a2, .int .i64 a3] 29, fb, rb), (polT (lruHit n) (lruMiss n) (.agg #[.slice A0 (lruHit n).length c0, .slice A1 (lruMiss n).length c1]), lo4, hi4), (boxT #[.int .i64 0, .int .i64 0, .int .i64 0, .int .i64 0, .int .i64 0, .int .i64 0] 40, rb, rb + 1)] g lo3 n A0 c0 (lruHit n).length A1 c1 (lruMiss n).length (guessF ((kk : Int) + 1 + a2) gs s3)) := ⟨⟨bk2, kc2, _, _, KP, kp, _, _, M, mn, ⟨HM.out, HMN.out⟩, HS⟩⟩
     clear HS HM HMN
     go_wp2_with fail
     have HONE : Aside0 ((guessF ((kk : Int) + 1 + a2) gs s3) = oneF (lruHit n) (lruMiss n) a2 kk (itemF a0 a1 l kk) s) := ⟨by rw [HIT.out, HGS.out, ← HS3.out, ← HS1.out]; rfl⟩
     have HRN := HRUN.out
     rw [runF_drop _ _ _ a0 a1 l hlt, ← HONE.out] at HRN
     have HRN2 := Aside0.mk HRN
     have HI2 := Aside0.mk (guess_okF HTK.out.1 HTK.out.2 HIS.out ((kk : Int) + 1 + a2) HIO.out.2.1 HIO.out.2.2)
     clear HRN
     go_roundg (l.length - (kk + 1))
     case measure => omega
     case rel => exact ⟨kk + 1, (guessF ((kk : Int) + 1 + a2) gs s3), A9, c9, lo9, hi9, hlt, Nat.le_refl _, rfl, by first | rfl | rw [wrap_succ hlt (by have := HL60.out; omega)], HRN2, HI2, HZ⟩
  ·obtain rfl : kk = l.length := by omega
   have hltz : ¬ ((l.length : Nat) : Int) < (l.length : Int) := by omega
   have hs : s = fin := by have := HRUN.out; rw [List.drop_eq_nil_of_le (by rw [itemsF_len]; omega)] at this; exact this
   subst hs
   obtain ⟨bk2, kc2, lk2, hk2, KP, kp, lp, hp, M, mn, ⟨hM, hmn⟩, HS⟩ := HSS.out
   have HM := Aside0.mk hM
   have HMN := Aside0.mk hmn
   clear hM hmn HSS
   change Hold w wr [(boxT #[.slice A0 (lruHit n).length c0, .slice A1 (lruMiss n).length c1, .slice (some ⟨bk2, 0, none⟩) n kc2, .map (some lo3), .slice KP s.pd.length kp, .int .i64 0, .int .i64 0, .int .i64 0, .int .i64 0, .int .i64 s.is, .int .i64 s.c.us] 103, g, g + 1), (flat (Kd.int .i64) 2 (.slice (some ⟨bk2, 0, none⟩) n kc2) s.c.cont, lk2, hk2), (mapT Try.prog 2 M mn, lo3, lo3 + 1), (flat kPair 108 (.slice KP s.pd.length kp) s.pd, lp, hp), (flat (Kd.int .i64) 2 (.slice A s.out.length c) s.out, lo, hi), (flat (Kd.int .i64) 2 (.slice (some ⟨bc, 0, none⟩) 4 cc) ([s.n0, s.n1, s.n2, s.n3]), la1, ha1), (boxT #[.int .i64 a0, .int .i64 a1, .int .i64 a2, .int .i64 a3] 29, fb, rb), (polT (lruHit n) (lruMiss n) (.agg #[.slice A0 (lruHit n).length c0, .slice A1 (lruMiss n).length c1]), lo4, hi4), (boxT #[.int .i64 0, .int .i64 0, .int .i64 0, .int .i64 0, .int .i64 0, .int .i64 0] 40, rb, rb + 1)] at HS
   have hbb : 0 ≤ s.c.us ∧ s.c.us ≤ 240 ∧ s.c.ms.length ≤ 240 ∧ s.pd.length ≤ 240 := by have := HI.out.2.all; have := HI.out.2.us; have := HI.out.2.is; have := HL60.out; omega
   obtain ⟨z1, z2⟩ := total_w hbb
   have y1 := hbb.1
   have y2 := hbb.2.1
   clear hbb
   have hmn2 := HMN.out
   subst hmn2
   go_upto_region 19 with fail
   have HD := Hold.drew HS
   refine start_ (n := 21) (S := fun w' => w'.cell? ⟨g, 10, none⟩ = some (.int .i64 s.c.us) ∧ w'.cell? ⟨g, 3, none⟩ = some (.map (some lo3)) ∧ w'.cell? ⟨g, 4, none⟩ = some (.slice KP s.pd.length kp)) (ds := [20]) #[false, false, false, false, false, false, false, false, false, false, false, false, false, false, false, false, false, false, false, false, false] (by kernel_rfl) rfl rfl ⟨(HD.cell at0 10 _ rfl), (HD.cell at0 3 _ rfl), (HD.cell at0 4 _ rfl)⟩ (fun hHeld => ?_)
   generalize wr.drew = wd at HD hHeld ⊢
   refine pu_ (i := 0) (N := some 105) (h := ?_)
   refine pu_ (i := 1) (N := some 106) (h := ?_)
   refine pu_ (i := 2) (N := some 107) (h := ?_)
   refine pu_ (i := 3) (N := some 108) (h := ?_)
   refine pu_ (i := 5) (N := some 110) (h := ?_)
   refine pu_ (i := 6) (N := some 111) (h := ?_)
   refine pu_ (i := 7) (N := some 112) (h := ?_)
   refine pu_ (i := 10) (N := some 115) (h := ?_)
   refine pu_ (i := 11) (N := some 116) (h := ?_)
   refine pu_ (i := 12) (N := some 117) (h := ?_)
   refine ta_ (i := 4) (N := some 109) (hS := hHeld) (hy := by rintro w' ⟨s0, s1, s2⟩; go_simp; with_reducible rfl) (h := ?_)
   refine ta_ (i := 8) (N := some 113) (hS := hHeld) (hy := by rintro w' ⟨s0, s1, s2⟩; go_simp; with_reducible rfl) (h := ?_)
   refine ta_ (i := 13) (N := some 118) (hS := hHeld) (hy := by rintro w' ⟨s0, s1, s2⟩; go_simp; with_reducible rfl) (h := ?_)
   refine pu_ (i := 14) (N := some 119) (h := ?_)
   refine one_ (i := 9) (N := some 114) #[true, true, true, true, true, true, true, true, true, true, true, true, true, true, true, false, false, false, false, false, false] rfl rfl (by kernel_rfl) (by decide) (fun K hK => ?_)
   have hlen := fun ty => HD.mlen (t := 100) (e := 4) at2 Try.underlying100 ty
   refine value_ (w1 := wd) (v := .int .i64 (s.c.ms.length : Int)) (by rfl) rfl ?_ ?_
   ·go_simp
   have s0_ : wd.cell? ⟨g, 10, none⟩ = some (.int .i64 s.c.us) := HD.cell at0 10 _ rfl
   have s1_ : wd.cell? ⟨g, 3, none⟩ = some (.map (some lo3)) := HD.cell at0 3 _ rfl
   have s2_ : wd.cell? ⟨g, 4, none⟩ = some (.slice KP s.pd.length kp) := HD.cell at0 4 _ rfl
   have fz_ : ∀ j, wd.frozen? ⟨g, j, none⟩ = false := HD.thaw at0
   refine hK.out _ _ ⟨s0_, s1_, s2_⟩ (fun hHeld => ?_)
   clear hK K
   refine norm_ (a' := ?_) ?_ ?_
   rotate_left
   ·show Act.put _ (some 114) _ = _
    simp only [Act.put, List.setIfInBounds_toArray, List.set_cons_zero, List.set_cons_succ, i64_w, i32_w]
    rfl
   refine pu_ (i := 15) (N := some 120) (h := ?_)
   refine pu_ (i := 16) (N := some 121) (h := ?_)
   refine pu_ (i := 17) (N := some 122) (h := ?_)
   refine pu_ (i := 18) (N := some 123) (h := ?_)
   refine pu_ (i := 19) (N := some 124) (h := ?_)
   refine last_ (i := 20) (N := none) #[true, true, true, true, true, true, true, true, true, true, true, true, true, true, true, true, true, true, true, true, true] rfl rfl (by kernel_rfl) (by decide) (fun K hK => ?_)
   refine skip_ (w1 := ?_) (by rfl) rfl ?_ ?_
   rotate_left
   ·go_simp
    rfl
   refine hK.out _ _ ?_
   clear hK K
   refine done_ (by kernel_rfl) ?_
   clear hHeld s0_ s1_ s2_ fz_
   replace HS := HD
   clear HD
   replace HS := HS.setBox 10 (.int .i64 (s.c.us + ((s.c.ms.length : Int) + (s.pd.length : Int)))) .here
   simp only [List.setIfInBounds_toArray, List.set_cons_zero, List.set_cons_succ] at HS
   generalize wd.setCell ⟨g, 10, none⟩ (.int .i64 (s.c.us + ((s.c.ms.length : Int) + (s.pd.length : Int)))) = wdb at HS ⊢
   clear z1 z2 y1 y2
   go_upto_region 20 with fail
   have HD := Hold.drew HS
   refine start_ (n := 16) (S := fun w' => w'.cell? ⟨bc, 0, none⟩ = some (.int .i64 s.n0) ∧ w'.cell? ⟨bc, 1, none⟩ = some (.int .i64 s.n1)) (ds := [11, 15]) #[false, false, false, false, false, false, false, false, false, false, false, false, false, false, false, false] (by kernel_rfl) rfl rfl ⟨(by have := (HD.cellI at5 (0 : Int) (by decide) (by show (0 : Int) < 4; decide)).1; exact this), (by have := (HD.cellI at5 (1 : Int) (by decide) (by show (1 : Int) < 4; decide)).1; exact this)⟩ (fun hHeld => ?_)
   generalize wdb.drew = wu at HD hHeld ⊢
   have fz_ : ∀ j, wu.frozen? ⟨g, j, none⟩ = false := HD.thaw at0
   have st5_ : wu.cell? ⟨g, 5, none⟩ = some (.int .i64 0) := HD.cell at0 5 _ rfl
   have st6_ : wu.cell? ⟨g, 6, none⟩ = some (.int .i64 0) := HD.cell at0 6 _ rfl
   refine pu_ (i := 0) (N := some 125) (h := ?_)
   refine pu_ (i := 1) (N := some 126) (h := ?_)
   refine pu_ (i := 2) (N := some 127) (h := ?_)
   refine pu_ (i := 3) (N := some 128) (h := ?_)
   refine pu_ (i := 5) (N := some 130) (h := ?_)
   refine pu_ (i := 6) (N := some 131) (h := ?_)
   refine ta_ (i := 4) (N := some 129) (hS := hHeld) (hy := by rintro w' ⟨s0, s1⟩; go_simp; with_reducible rfl) (h := ?_)
   refine ta_ (i := 7) (N := some 132) (hS := hHeld) (hy := by rintro w' ⟨s0, s1⟩; go_simp; with_reducible rfl) (h := ?_)
   refine pu_ (i := 8) (N := some 133) (h := ?_)
   refine pu_ (i := 9) (N := some 134) (h := ?_)
   refine pu_ (i := 10) (N := some 135) (h := ?_)
   refine last_ (i := 11) (N := none) #[true, true, true, true, true, true, true, true, true, true, true, true, false, false, false, false] rfl rfl (by kernel_rfl) (by decide) (fun K hK => ?_)
   refine skip_ (w1 := ?_) (by rfl) rfl ?_ ?_
   rotate_left
   ·go_simp
    rfl
   refine hK.out _ _ ?_
   clear hK K
   refine pu_ (i := 12) (N := some 136) (h := ?_)
   refine pu_ (i := 13) (N := some 137) (h := ?_)
   refine pu_ (i := 14) (N := some 138) (h := ?_)
   refine last_ (i := 15) (N := none) #[true, true, true, true, true, true, true, true, true, true, true, true, true, true, true, true] rfl rfl (by kernel_rfl) (by decide) (fun K hK => ?_)
   refine skip_ (w1 := ?_) (by rfl) rfl ?_ ?_
   rotate_left
   ·go_simp
    rfl
   refine hK.out _ _ ?_
   clear hK K
   refine done_ (by kernel_rfl) ?_
   clear hHeld fz_ st5_ st6_
   replace HS := HD
   clear HD
   replace HS := HS.setBox 5 (.int .i64 s.n0) .here
   replace HS := HS.setBox 6 (.int .i64 s.n1) .here
   simp only [List.setIfInBounds_toArray, List.set_cons_zero, List.set_cons_succ] at HS
   generalize (wu.setCell ⟨g, 5, none⟩ (.int .i64 s.n0)).setCell ⟨g, 6, none⟩ (.int .i64 s.n1) = wub at HS ⊢
   go_upto_region 21 with fail
   have HD := Hold.drew HS
   refine start_ (n := 16) (S := fun w' => w'.cell? ⟨bc, 2, none⟩ = some (.int .i64 s.n2) ∧ w'.cell? ⟨bc, 3, none⟩ = some (.int .i64 s.n3)) (ds := [11, 15]) #[false, false, false, false, false, false, false, false, false, false, false, false, false, false, false, false] (by kernel_rfl) rfl rfl ⟨(by have := (HD.cellI at5 (2 : Int) (by decide) (by show (2 : Int) < 4; decide)).1; exact this), (by have := (HD.cellI at5 (3 : Int) (by decide) (by show (3 : Int) < 4; decide)).1; exact this)⟩ (fun hHeld => ?_)
   generalize wub.drew = wv at HD hHeld ⊢
   have fz_ : ∀ j, wv.frozen? ⟨g, j, none⟩ = false := HD.thaw at0
   have st7_ : wv.cell? ⟨g, 7, none⟩ = some (.int .i64 0) := HD.cell at0 7 _ rfl
   have st8_ : wv.cell? ⟨g, 8, none⟩ = some (.int .i64 0) := HD.cell at0 8 _ rfl
   refine pu_ (i := 0) (N := some 139) (h := ?_)
   refine pu_ (i := 1) (N := some 140) (h := ?_)
   refine pu_ (i := 2) (N := some 141) (h := ?_)
   refine pu_ (i := 3) (N := some 142) (h := ?_)
   refine pu_ (i := 5) (N := some 144) (h := ?_)
   refine pu_ (i := 6) (N := some 145) (h := ?_)
   refine ta_ (i := 4) (N := some 143) (hS := hHeld) (hy := by rintro w' ⟨s0, s1⟩; go_simp; with_reducible rfl) (h := ?_)
   refine ta_ (i := 7) (N := some 146) (hS := hHeld) (hy := by rintro w' ⟨s0, s1⟩; go_simp; with_reducible rfl) (h := ?_)
   refine pu_ (i := 8) (N := some 147) (h := ?_)
   refine pu_ (i := 9) (N := some 148) (h := ?_)
   refine pu_ (i := 10) (N := some 149) (h := ?_)
   refine last_ (i := 11) (N := none) #[true, true, true, true, true, true, true, true, true, true, true, true, false, false, false, false] rfl rfl (by kernel_rfl) (by decide) (fun K hK => ?_)
   refine skip_ (w1 := ?_) (by rfl) rfl ?_ ?_
   rotate_left
   ·go_simp
    rfl
   refine hK.out _ _ ?_
   clear hK K
   refine pu_ (i := 12) (N := some 150) (h := ?_)
   refine pu_ (i := 13) (N := some 151) (h := ?_)
   refine pu_ (i := 14) (N := some 152) (h := ?_)
   refine last_ (i := 15) (N := none) #[true, true, true, true, true, true, true, true, true, true, true, true, true, true, true, true] rfl rfl (by kernel_rfl) (by decide) (fun K hK => ?_)
   refine skip_ (w1 := ?_) (by rfl) rfl ?_ ?_
   rotate_left
   ·go_simp
    rfl
   refine hK.out _ _ ?_
   clear hK K
   refine done_ (by kernel_rfl) ?_
   clear hHeld fz_ st7_ st8_
   replace HS := HD
   clear HD
   replace HS := HS.setBox 7 (.int .i64 s.n2) .here
   replace HS := HS.setBox 8 (.int .i64 s.n3) .here
   simp only [List.setIfInBounds_toArray, List.set_cons_zero, List.set_cons_succ] at HS
   generalize (wv.setCell ⟨g, 7, none⟩ (.int .i64 s.n2)).setCell ⟨g, 8, none⟩ (.int .i64 s.n3) = wvb at HS ⊢
   go_upto_region 22 with fail
   have HD := Hold.drew HS
   refine start_ (n := 7) (S := fun w' => w'.cell? ⟨g, 5, none⟩ = some (.int .i64 s.n0) ∧ w'.cell? ⟨g, 6, none⟩ = some (.int .i64 s.n1) ∧ w'.cell? ⟨g, 7, none⟩ = some (.int .i64 s.n2) ∧ w'.cell? ⟨g, 8, none⟩ = some (.int .i64 s.n3) ∧ w'.cell? ⟨g, 9, none⟩ = some (.int .i64 s.is) ∧ w'.cell? ⟨g, 10, none⟩ = some (.int .i64 (s.c.us + ((s.c.ms.length : Int) + (s.pd.length : Int))))) (ds := [6]) #[false, false, false, false, false, false, false] (by kernel_rfl) rfl rfl ⟨(HD.cell at0 5 _ rfl), (HD.cell at0 6 _ rfl), (HD.cell at0 7 _ rfl), (HD.cell at0 8 _ rfl), (HD.cell at0 9 _ rfl), (HD.cell at0 10 _ rfl)⟩ (fun hHeld => ?_)
   generalize wvb.drew = wz at HD hHeld ⊢
   have fz_ : ∀ j, wz.frozen? ⟨rb, j, none⟩ = false := HD.thaw at8
   have st0_ : wz.cell? ⟨rb, 0, none⟩ = some (.int .i64 0) := HD.cell at8 0 _ rfl
   have st1_ : wz.cell? ⟨rb, 1, none⟩ = some (.int .i64 0) := HD.cell at8 1 _ rfl
   have st2_ : wz.cell? ⟨rb, 2, none⟩ = some (.int .i64 0) := HD.cell at8 2 _ rfl
   have st3_ : wz.cell? ⟨rb, 3, none⟩ = some (.int .i64 0) := HD.cell at8 3 _ rfl
   have st4_ : wz.cell? ⟨rb, 4, none⟩ = some (.int .i64 0) := HD.cell at8 4 _ rfl
   have st5_ : wz.cell? ⟨rb, 5, none⟩ = some (.int .i64 0) := HD.cell at8 5 _ rfl
   refine pu_ (i := 0) (N := some 153) (h := ?_)
   refine pu_ (i := 1) (N := some 154) (h := ?_)
   refine pu_ (i := 2) (N := some 155) (h := ?_)
   refine pu_ (i := 3) (N := some 156) (h := ?_)
   refine pu_ (i := 5) (N := some 4) (h := ?_)
   refine ta_ (i := 4) (N := some 157) (hS := hHeld) (hy := by rintro w' ⟨s0, s1, s2, s3, s4, s5⟩; go_simp; with_reducible rfl) (h := ?_)
   refine last_ (i := 6) (N := none) #[true, true, true, true, true, true, true] rfl rfl (by kernel_rfl) (by decide) (fun K hK => ?_)
   refine skip_ (w1 := ?_) (by rfl) rfl ?_ ?_
   rotate_left
   ·go_simp
    rfl
   refine hK.out _ _ ?_
   clear hK K
   refine done_ (by kernel_rfl) ?_
   clear hHeld fz_ st0_ st1_ st2_ st3_ st4_ st5_
   replace HS := HD
   clear HD
   have H9 := HS
   replace H9 := H9.setBox 0 (.int .i64 s.n0) (.there (.there (.there (.there (.there (.there (.there (.there .here))))))))
   replace H9 := H9.setBox 1 (.int .i64 s.n1) (.there (.there (.there (.there (.there (.there (.there (.there .here))))))))
   replace H9 := H9.setBox 2 (.int .i64 s.n2) (.there (.there (.there (.there (.there (.there (.there (.there .here))))))))
   replace H9 := H9.setBox 3 (.int .i64 s.n3) (.there (.there (.there (.there (.there (.there (.there (.there .here))))))))
   replace H9 := H9.setBox 4 (.int .i64 s.is) (.there (.there (.there (.there (.there (.there (.there (.there .here))))))))
   replace H9 := H9.setBox 5 (.int .i64 (s.c.us + ((s.c.ms.length : Int) + (s.pd.length : Int)))) (.there (.there (.there (.there (.there (.there (.there (.there .here))))))))
   simp only [List.setIfInBounds_toArray, List.set_cons_zero, List.set_cons_succ] at H9
   go_wp2_with fail
   refine bodyPost_ret (results_tc rfl _ _ rb 40 _ (0, 0) _ rfl (H9.blk at8) Try.underlying40 rfl (by kernel_rfl)) rfl ?_
   exact ⟨_, rfl, Hold.one H9 at4, H9.below⟩
def impl_fetched.f (a0_0 : Int) (a0_1 : Int) (a0_2 : Int) (a0_3 : Int) (l1 : List S27) : Option (List Int × Int × Int × Int × Int × Int × Int) := if okFetch a0_0 a0_1 a0_2 a0_3 l1 = true then some (fetchR a0_0 a0_1 a0_2 a0_3 l1) else none
theorem impl_fetched.calls (a0_0 : Int) (a0_1 : Int) (a0_2 : Int) (a0_3 : Int) (A1 : Option Addr) (c1 : Nat) (l1 : List S27) (r1 : List Int) (r2 : Int) (r3 : Int) (r4 : Int) (r5 : Int) (r6 : Int) (r7 : Int) (w : World) (hr1 : Kd.C k27 w A1 l1.length l1) (hc1 : l1.length ≤ c1) (h : impl_fetched.f a0_0 a0_1 a0_2 a0_3 l1 = some (r1, r2, r3, r4, r5, r6, r7)) :
  Calls Try.prog 43 #[.agg #[.int .i64 a0_0, .int .i64 a0_1, .int .i64 a0_2, .int .i64 a0_3], .slice A1 l1.length c1] w fun e w' => ∃ v0_ : Value, e = .returned (.tuple #[v0_, .agg #[.int .i64 r2, .int .i64 r3, .int .i64 r4, .int .i64 r5, .int .i64 r6, .int .i64 r7]]) ∧ Kd.R (Kd.int .i64) 2 w' w.heap.size (fun _ => True) v0_ r1 ∧ Below w.heap.size w w' := by
 unfold impl_fetched.f at h
 split at h
 ·rename_i hh
  obtain ⟨h1, h2, h3⟩ := okFetch_facts hh
  have hp := (pref_facts h1).2.2
  cases h
  exact fetched_calls a0_0 a0_1 a0_2 a0_3 A1 c1 l1 hr1 hc1 h1 h2 h3 (n := a0_3.toNat) (by omega) ⟨by omega, by omega⟩ rfl
 ·cases h
end Go.Proofs.Ytpooojgeonpmnaa.PFnExactAccuracyOf
