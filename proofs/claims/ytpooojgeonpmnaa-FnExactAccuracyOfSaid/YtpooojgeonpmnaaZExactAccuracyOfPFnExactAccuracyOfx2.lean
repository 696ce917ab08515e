import Derived.Test.YtpooojgeonpmnaaZExactAccuracyOfPFnExactAccuracyOfx0
import Derived.Test.YtpooojgeonpmnaaZExactAccuracyOfPFnExactAccuracyOfx1
namespace Go.Proofs.Ytpooojgeonpmnaa.PFnExactAccuracyOf
open Go.RowKit Go.Proofs.YtpooojgeonpmnaaW.PrintWords Go.Proofs.YtpooojgeonpmnaaW.PrintLast Go.Proofs.YtpooojgeonpmnaaW.PrintMore
attribute [local go_sem] max2_int min2_int max_two min_two max_three min_three max_four min_four   -- for this text's walks alone
set_option linter.unusedVariables false
set_option linter.unusedSimpArgs false
theorem cut_at {P : Program} (t e : TypeId) (ht : P.underlying t = some (.slice e)) (hi : (P.info? e).map (·.size) = some 1) (g n c m : Nat) (hm : m ≤ n) :
  ∀ W : World, (Instr.slice t (.slice (some ⟨g, 0, none⟩) n c) (some (.int .i64 (m : Int))) none none).run P W = .ok (.slice (if c = m then some (⟨g, 0, none⟩ : Addr) else (some (⟨g, 0, none⟩ : Addr)).map (·.add m)) (n - m) (c - m)) W := by
 intro W
 obtain ⟨i0, hi0, hsz⟩ := Option.map_eq_some_iff.1 hi
 have hel : P.elem t = e := by simp [Program.elem, ht]
 have hu : P.underlying t = some (.slice (P.elem t)) := by rw [hel]; exact ht
 rw [run_slice_l W t (some ⟨g, 0, none⟩) n c hu .i64 (m : Int) (Int.natCast_nonneg _) (by omega), hel]
 simp [sizeOf, typeInfo, hi0, hsz, sliced, Result.andThen]
set_option maxHeartbeats 1600000 in
/-- slices.Delete(s, i, i+1) on a row of the list. -/
theorem ho_delete {w0 w : World} {R : List (Thing × Nat × Nat)} {g n c lo hi i : Nat} {l : List Int} (h : Hold w0 w ((flat (Kd.int .i64) 2 (.slice (some ⟨g, 0, none⟩) n c) l, lo, hi) :: R)) (hil : i < l.length) (hl : l.length ≤ 1048576) :
  Calls Try.prog 131 #[.slice (some ⟨g, 0, none⟩) n c, .int .i64 i, .int .i64 ((i : Int) + 1)] w fun e w' => e = .returned (.slice (some ⟨g, 0, none⟩) (n - 1) c) ∧ Hold w0 w' ((flat (Kd.int .i64) 2 (.slice (some ⟨g, 0, none⟩) (n - 1) c) (l.eraseIdx i), lo, hi) :: R) := by
 obtain ⟨rfl, hlc, _⟩ := h.reads' at0
 have HC := Aside0.mk hlc
 have HI := Aside0.mk hil
 have HS := h.drew
 clear h
 have h0 : (0 : Int) ≤ i := by omega
 have h1 : (i : Int) + 1 ≤ l.length := by omega
 have h2 : (l.length : Int) ≤ c := by omega
 have hne : decide ((i : Int) = (i : Int) + 1) = false := decide_eq_false (by omega)
 have h3 : ((i : Int) ≤ (i : Int) + 1) = True := eq_true (by omega)
 have h4 : (0 ≤ (i : Int) + 1) = True := eq_true (by omega)
 have hs := HS.sits _ at0
 have hP : (Kd.int .i64).R 2 w.drew lo (In lo hi) (.slice (some ⟨g, 0, none⟩) l.length c) l := hs.1
 have HO := Aside0.mk (Kd.R_lower hP hs.2.1)
 have HB := Aside0.mk HS.below
 have HZ := Aside0.mk HS.below.size
 clear hP hs
 obtain ⟨A1, hA1⟩ : ∃ A1, A1 = if c = i + 1 then some (⟨g, 0, none⟩ : Addr) else (some (⟨g, 0, none⟩ : Addr)).map (·.add (i + 1)) := ⟨_, rfl⟩
 have hcut : ∀ W : World, (Instr.slice 30 (.slice (some ⟨g, 0, none⟩) l.length c) (some (.int .i64 ((i : Int) + 1))) none none).run Try.prog W = .ok (.slice A1 (l.length - (i + 1)) (c - (i + 1))) W := fun W => by
  have := cut_at (P := Try.prog) 30 2 Try.underlying30 (by kernel_rfl) g l.length c (i + 1) (by omega) W
  rw [← hA1] at this
  simpa using this
 have HA := Aside0.mk hA1
 clear hA1
 have h5 : (i ≤ c) = True := eq_true (by omega)
 go_enter Try.func131, Try.ntmps131
 go_wp2_with fail
 refine start_ (n := 8) (S := fun w' => True) (ds := []) #[false, false, false, false, false, false, false, false] (by kernel_rfl) rfl rfl trivial (fun hHeld => ?_)
 generalize w.drew = wd at HS HO HB HZ ⊢
 refine pu_ (i := 0) (N := some 20) (h := ?_)
 refine pu_ (i := 1) (N := some 21) (h := ?_)
 refine pu_ (i := 2) (N := some 22) (h := ?_)
 refine pu_ (i := 3) (N := some 23) (h := ?_)
 refine pu_ (i := 4) (N := some 24) (h := ?_)
 refine pu_ (i := 5) (N := some 25) (h := ?_)
 refine one_ (i := 6) (N := some 26) #[true, true, true, true, true, true, true, false] rfl rfl (by kernel_rfl) (by decide) (fun K hK => ?_)
 refine Kd.R_delete_step (Kd.int .i64) (w0 := w0) w0.heap.size (by rfl) (.tmp 22) (.tmp 25) 30 2 (by rfl) Try.underlying30 (by kernel_rfl) (g := g) (n := l.length) (c := c) (k := i) (xs := l) (ok := In lo hi) rfl rfl ?hA ?hm HO.out HI.out HB.out HZ.out ?_
 case hA => rw [HA.out]; simp only [Kd.int, Kd.scalar, Nat.mul_one]
 case hm => first | rfl | omega
 intro w1 hr1 hb1 hg1
 refine hK.out _ _ trivial (fun hHeld => ?_)
 clear hK K
 refine norm_ (a' := ?_) ?_ ?_
 rotate_left
 ·show Act.put _ (some 26) _ = _
  simp only [Act.put, List.setIfInBounds_toArray, List.set_cons_zero, List.set_cons_succ, i64_w, i32_w]
  rfl
 refine pu_ (i := 7) (N := some 0) (h := ?_)
 refine done_ (by kernel_rfl) ?_
 have HS1 := HS.front (x := (flat (Kd.int .i64) 2 (.slice (some ⟨g, 0, none⟩) l.length c) l, lo, hi)) (y := (flat (Kd.int .i64) 2 (.slice (some ⟨g, 0, none⟩) (l.length - 1) c) (l.eraseIdx i), lo, hi)) hb1 ⟨hg1.size, fun k hk hn => hg1.block k hk (fun e_ => hn (by cases e_; exact HO.out.1 g (by simp [Value.ownBlock])))⟩ (show (Kd.int .i64).R 2 w1 lo (In lo hi) _ _ from Kd.R_raise (d := Kd.int .i64) (b := w0.heap.size) (b' := lo) (fun _ _ _ _ k => k) hr1 (fun k hk => (HO.out.1 k hk).1)) (.inl ⟨rfl, rfl⟩)
 have hroom := R_room hr1 (j := l.length - 1) (by show l.length - 1 < c * 1; have := HC.out; have := HI.out; omega)
 obtain ⟨u_, hu_⟩ := Option.isSome_iff_exists.1 hroom.1
 have hcl := fun ty => Lib.run_clear_slice (P := Try.prog) w1 30 2 ty (.int .i64 0) Try.underlying30 (fun w => by kernel_rfl) rfl rfl g (l.length - 1) 1 (c - (l.length - 1)) (by decide) (fun j hj => by rw [show j = 0 by omega]; exact hroom.1) (fun j hj => by rw [show j = 0 by omega]; exact hroom.2)
 simp only [List.replicate, World.setCells] at hcl
 clear hr1 hb1 hg1 hroom hu_ hHeld
 have hlow : ((l.length - 1 : Nat) : Int) ≤ (l.length : Int) := by omega
 have hpos : l.length - (l.length - 1) = 1 := by have := HI.out; omega
 go_wp2_with fail
 go_ret
 exact ⟨rfl, HS1.slack (by show (l.length - 1) * 1 ≤ l.length - 1; omega) _⟩
theorem wpList_copy_eq {P : Program} {w : World} {ops : Array Oper} {rest : List Oper} {o : Oper} {a : Act} {Q : Exit → Act → World → Prop} (hgd : o.guard = none) (d s : Operand) (t t' : TypeId)
  (ho : o.op = .call { callee := .builtin .copy, args := #[d, s], argTypes := #[t, t'] }) (v u : Value) (hd : a.eval d = v) (hs : a.eval s = u) {v' : Value} {w' : World}
  (hr : (Builtin.copy_ #[t, t'] o.type #[v, u]).run P w = .ok v' w') (h : wpList P ops Q rest (a.put o.dst v') w') : wpList P ops Q (o :: rest) a w := by
 refine wpList_plain hgd fun K hK => ?_
 unfold Oper.wp execOp
 simp only [ho, resolve, invoke, builtin, Sem.run_bind, Sem.run_pure, Result.andThen_ok, List.map_toArray, List.map_cons, List.map_nil, hd, hs, hr]
 exact hK _ _ h
theorem isSome_sets (b : Nat) (vs : List Value) (o : Nat) (w : World) (h : ∀ j, j < vs.length → (w.cell? ⟨b, o + j, none⟩).isSome = true) (k : Nat) (hk : (w.cell? ⟨b, k, none⟩).isSome = true) : ((w.setCells b o vs).cell? ⟨b, k, none⟩).isSome = true := by
 by_cases hin : o ≤ k ∧ k < o + vs.length
 ·have := World.cell?_setCells_in b vs o w h (k - o) (by omega)
  rw [show o + (k - o) = k by omega] at this
  rw [this]; rfl
 ·rw [World.cell?_setCells_out b vs o w ⟨b, k, none⟩ (fun _ _ => by show k < o ∨ o + vs.length ≤ k; omega)]
  exact hk
set_option maxHeartbeats 4000000 in
set_option maxRecDepth 100000 in
theorem insert_shift (g n c q : Nat) (cs : List Value) (x : Int) (w : World) (cur : Array Value) (hn : 0 < n) (hroom : n + 1 ≤ c) (hc63 : c ≤ 9223372036854775807) (hvb : q ≠ g) (hcl : cs.length = n) (h1c : ∀ v ∈ cs, v.oneCell' = true)
  (hg : w.heap[g]? = some (.cells cur 2 (0, 0))) (hsz0 : cur.size = c) (hcur : cur.toList.take n = cs) (hq : w.heap[q]? = some (.cells #[.int .i64 x] 2 (0, 0))) :
  Calls Try.prog 132 #[.slice (some ⟨g, 0, none⟩) n c, .int .i64 0, .slice (some ⟨q, 0, none⟩) 1 1] w fun e w' => e = .returned (.slice (some ⟨g, 0, none⟩) (n + 1) c) ∧ w' = (w.drew.setCells g 1 cs).setCells g 0 [.int .i64 x] := by
 have hcs : ∀ j v, cs[j]? = some v → w.cell? ⟨g, j, none⟩ = some v := fun j v hj => by
  have hjn : j < n := by rw [← hcl]; exact (List.getElem?_eq_some_iff.1 hj).1
  rw [blk_cell hg j, ← Array.getElem?_toList]
  rw [← hcur, List.getElem?_take_of_lt hjn] at hj
  exact hj
 have hsp : ∀ j, j < n + 1 → (w.cell? ⟨g, j, none⟩).isSome = true := fun j hj => by
  rw [blk_cell hg j, Array.getElem?_eq_getElem (by omega)]; rfl
 have hfz : ∀ j, w.frozen? ⟨g, j, none⟩ = false := fun j => blk_frozen hg j
 have hvs : w.cell? ⟨q, 0, none⟩ = some (.int .i64 x) := (blk_cell hq 0).trans rfl
 have hsa : w.shape? q = some (2, 1) := by simp [World.shape?, hq]
 have hsb : w.shape? g = some (2, c) := by simp [World.shape?, hg, hsz0]
 have hz1 : ¬ ((1 : Int) = 0) := by omega
 have hz2 : ¬ ((0 : Int) = (n : Int)) := by omega
 have hsz : (Try.prog.info? 2).map (·.size) = some 1 := by kernel_rfl
 have hov : ∀ lb cb, (callFunc 141 #[.slice (some ⟨q, 0, none⟩) 1 1, .slice (some ⟨g, 1, none⟩) lb cb]).run Try.prog w = .ok (.value (.bool false)) w := fun lb cb => by
  rw [run_callFunc_extern Try.func141 (by kernel_rfl) (by kernel_rfl) (by kernel_rfl) (e := Extern.SlicesOverlaps.overlaps #[30, 30] #[4]) (by kernel_rfl),
   Lib.run_overlaps_apart w 30 4 2 Try.underlying30 1 (fun w => by kernel_rfl) ⟨q, 0, none⟩ ⟨g, 1, none⟩ 1 1 lb cb hvb 2 2 1 c hsa hsb (by omega) (blk_frozen hq 0) (blk_frozen hq 1)]
  rfl
 have hb3 : (0 : Int) ≤ (n : Int) + 1 := by omega
 have hb4 : ¬ (c = 0) := by omega
 have hw1 : wrap64 1 = 1 := by unfold wrap64; omega
 have hb5 : (1 ≤ (n : Int) + 1) = True := eq_true (by omega)
 have hb6 : (0 ≤ (n : Int) + 1) = True := eq_true (by omega)
 have hb2 : ¬ (c = 1) := by omega
 have hcp1 : ∀ ty dc sc, (Builtin.copy_ #[30, 30] ty #[.slice (some ⟨g, 1, none⟩) n dc, .slice (some ⟨g, 0, none⟩) (n + 1) sc]).run Try.prog w.drew = .ok (goInt cs.length) (w.drew.setCells g 1 cs) := fun ty dc sc =>
  run_copy_cells w.drew _ _ ty 2 g 1 n dc ⟨g, 0, none⟩ (n + 1) sc cs Try.underlying30 hsz (by rw [hcl]; simp only [Nat.min_def]; split <;> omega)
   (fun j v hj => by rw [add_plain]; exact hcs j v hj) (fun j hj => hsp _ (by omega)) (fun j hj => hfz _) h1c
 obtain ⟨W1, hW1⟩ : ∃ W1, W1 = w.drew.setCells g 1 cs := ⟨_, rfl⟩
 have hsp1 : ∀ k, k < n + 1 → (W1.cell? ⟨g, k, none⟩).isSome = true := fun k hk => by
  rw [hW1]
  exact isSome_sets g cs 1 w.drew (fun j hj => hsp _ (by omega)) k (hsp k hk)
 have hcp2 : ∀ ty dc, (Builtin.copy_ #[30, 30] ty #[.slice (some ⟨g, 0, none⟩) (n + 1) dc, .slice (some ⟨q, 0, none⟩) 1 1]).run Try.prog W1 = .ok (goInt 1) (W1.setCells g 0 [.int .i64 x]) := fun ty dc =>
  run_copy_cells W1 _ _ ty 2 g 0 (n + 1) dc ⟨q, 0, none⟩ 1 1 [.int .i64 x] Try.underlying30 hsz (by simp only [List.length_singleton, Nat.min_def]; split <;> omega)
   (fun j v hj => by
    have h0 : j = 0 := by have := (List.getElem?_eq_some_iff.1 hj).1; simpa using this
    subst h0
    rw [add_plain, hW1, World.cell?_setCells_out g _ _ _ _ (fun h _ => absurd h hvb)]
    have hv : Value.int .i64 x = v := by simpa using hj
    rw [← hv]
    exact hvs)
   (fun j hj => by rw [Nat.zero_add]; exact hsp1 _ (by simp only [List.length_singleton] at hj; omega)) (fun j hj => by rw [hW1, World.frozen?_setCells]; exact hfz _) (by intro v hv; simp only [List.mem_singleton] at hv; rw [hv]; rfl)
 rw [← hW1] at hcp1
 rw [← hW1]
 clear hW1 hsp1
 have hgoI : goInt cs.length = .int .i64 n := by rw [hcl]; rfl
 go_enter Try.func132, Try.ntmps132
 go_wp2_with (simp only [hov])
 refine start_ (n := 9) (S := fun w' => True) (ds := []) #[false, false, false, false, false, false, false, false, false] (by kernel_rfl) rfl rfl trivial (fun hHeld => ?_)
 refine pu_ (i := 0) (N := some 69) (h := ?_)
 refine pu_ (i := 1) (N := some 70) (h := ?_)
 refine pu_ (i := 2) (N := some 71) (h := ?_)
 refine pu_ (i := 3) (N := some 72) (h := ?_)
 refine pu_ (i := 4) (N := some 73) (h := ?_)
 refine pu_ (i := 5) (N := some 74) (h := ?_)
 refine pu_ (i := 6) (N := some 75) (h := ?_)
 refine pu_ (i := 7) (N := some 76) (h := ?_)
 refine one_ (i := 8) (N := some 77) #[true, true, true, true, true, true, true, true, true] rfl rfl (by kernel_rfl) (by decide) (fun K hK => ?_)
 refine value_ (w1 := ?_) (v := ?_) (by rfl) rfl ?_ ?_
 rotate_left 2
 ·have hc_ := fun ty dc sc => hcp1 ty dc sc
  go_simp
  constructor
  ·rfl
  ·rfl
 refine hK.out _ _ trivial (fun hHeld => ?_)
 clear hK K
 refine norm_ (a' := ?_) ?_ ?_
 rotate_left
 ·show Act.put _ (some 77) _ = _
  simp only [Act.put, List.setIfInBounds_toArray, List.set_cons_zero, List.set_cons_succ, i64_w, i32_w]
  rfl
 refine done_ (by kernel_rfl) ?_
 clear hHeld
 go_wp2_with (at_builtin; refine wpList_copy_eq rfl (.tmp 80) (.tmp 81) 30 30 rfl _ _ rfl rfl (hcp2 _ _) ?_)
 go_ret
 exact ⟨rfl, rfl⟩
theorem ho_insert0 {w0 w : World} {R : List (Thing × Nat × Nat)} {g n c q lo hi : Nat} {l : List Int} {x : Int} (h : Hold w0 w ((flat (Kd.int .i64) 2 (.slice (some ⟨g, 0, none⟩) n c) l, lo, hi) :: R)) (hp : 0 < l.length) (hroom : l.length + 1 ≤ c) (hq : w.heap[q]? = some (.cells #[.int .i64 x] 2 (0, 0))) (hne : q ≠ g) :
  Calls Try.prog 132 #[.slice (some ⟨g, 0, none⟩) n c, .int .i64 0, .slice (some ⟨q, 0, none⟩) 1 1] w fun e w' => e = .returned (.slice (some ⟨g, 0, none⟩) (n + 1) c) ∧ Hold w0 w' ((flat (Kd.int .i64) 2 (.slice (some ⟨g, 0, none⟩) (n + 1) c) (x :: l), lo, hi) :: R) := by
 obtain ⟨rfl, _, _⟩ := h.reads' at0
 obtain ⟨hP, hlo, hlh, hhi⟩ := h.sits _ at0
 have hP' : (Kd.int .i64).R 2 w lo (In lo hi) (.slice (some ⟨g, 0, none⟩) l.length c) l := hP
 have hin := hP'.1 g (by simp [Value.ownBlock])
 have ho := Kd.own_of_R (enc := Value.int .i64) (h1 := fun _ => rfl) hP'
 rcases ho.2 with ⟨hv, _⟩ | ⟨g', c', cur, hv, hb, hh, hnc, hcm, hcs, ht⟩
 ·cases hv
 injection hv with ha _ hc
 injection ha with ha
 injection ha with hg
 subst hg; subst hc
 simp only [Nat.mul_one] at hcs ht
 have hel : (encs (Value.int .i64) l).length = l.length := encs_length l
 refine (insert_shift g l.length c q (encs (Value.int .i64) l) x w cur hp hroom (by unfold maxLen at hcm; omega) hne hel (by intro v hv; simp only [encs, List.mem_map] at hv; obtain ⟨y, _, rfl⟩ := hv; rfl) hh hcs ht hq).mono ?_
 rintro e w' ⟨rfl, rfl⟩
 obtain ⟨cur1, h1, h2, h3⟩ := setCells_row (encs (Value.int .i64) l) 1 w.drew cur hh (by rw [hel]; omega)
 obtain ⟨cur2, mq1, mq2, mq3⟩ := setCells_row [.int .i64 x] 0 (w.drew.setCells g 1 (encs (Value.int .i64) l)) cur1 h1 (by simp; omega)
 obtain ⟨a1, a2, a3, a4⟩ := setCells_same g (encs (Value.int .i64) l) 1 w.drew
 obtain ⟨b1, b2, b3, b4⟩ := setCells_same g [.int .i64 x] 0 (w.drew.setCells g 1 (encs (Value.int .i64) l))
 have hfar : ∀ k, k ≠ g → ((w.drew.setCells g 1 (encs (Value.int .i64) l)).setCells g 0 [.int .i64 x]).heap[k]? = w.heap[k]? := fun k hk => (setCells_far _ _ k hk).trans (setCells_far _ _ k hk)
 refine ⟨rfl, h.front (x := (flat (Kd.int .i64) 2 (.slice (some ⟨g, 0, none⟩) l.length c) l, lo, hi)) (y := (flat (Kd.int .i64) 2 (.slice (some ⟨g, 0, none⟩) (l.length + 1) c) (x :: l), lo, hi)) ?_ ⟨by rw [b4, a4]; exact Nat.le_refl _, fun k _ hn => hfar k (fun e => hn (by rw [e]; exact hin))⟩ ?_ (.inl ⟨rfl, rfl⟩)⟩
 ·refine ⟨b1.trans (a1.trans h.below.os), b2.trans (a2.trans h.below.tape), b3.trans (a3.trans h.below.output), by rw [b4, a4]; exact h.below.size, fun k hk => ?_⟩
  have h9 : w0.heap.size ≤ lo := hlo
  rw [hfar k (by have := hin.1; omega)]
  exact h.below.block k hk
 ·show (Kd.int .i64).R 2 _ lo (In lo hi) _ _
  refine Kd.R_of_own (enc := Value.int .i64) (h1 := fun _ => rfl) ⟨by simp [encs], .inr ⟨g, c, cur2, by simp, hin.1, mq1, by simp; omega, hcm, by rw [mq2, h2, hcs]; simp, ?_⟩⟩ (fun k hk => ?_)
  ·rw [mq3, h3]
   apply List.ext_getElem?
   intro j
   simp only [List.length_cons, Nat.mul_one, List.take_zero, List.nil_append, List.length_singleton, Nat.zero_add]
   rw [List.getElem?_take]
   split
   ·rename_i hj
    cases j with
    | zero => rfl
    | succ j =>
     simp only [List.length_nil, Nat.zero_add]
     have hl1 : (cur.toList.take 1).length = 1 := by rw [List.length_take, Array.length_toList]; omega
     rw [List.cons_append, List.nil_append, List.getElem?_cons_succ, List.getElem?_drop, List.append_assoc, List.getElem?_append_right (by rw [hl1]; omega), hl1, show 1 + j - 1 = j by omega, List.getElem?_append_left (by rw [hel]; omega)]
     simp [encs]
   ·rename_i hj
    rw [List.getElem?_eq_none (by simp [encs]; omega)]
  ·have : g = k := by simpa [Value.ownBlock] using hk
   exact this ▸ hin
set_option maxHeartbeats 1600000 in
theorem ho_insert_nil {w0 w : World} {R : List (Thing × Nat × Nat)} {g c q lo hi : Nat} {x : Int} (h : Hold w0 w ((flat (Kd.int .i64) 2 (.slice (some ⟨g, 0, none⟩) 0 c) [], lo, hi) :: R)) (hq : w.heap[q]? = some (.cells #[.int .i64 x] 2 (0, 0))) :
  Calls Try.prog 132 #[.slice (some ⟨g, 0, none⟩) 0 c, .int .i64 0, .slice (some ⟨q, 0, none⟩) 1 1] w fun e w' => ∃ A cb lo' hi', e = .returned (.slice A 1 cb) ∧ Hold w0 w' ((flat (Kd.int .i64) 2 (.slice A 1 cb) [x], lo', hi') :: R) := by
 obtain ⟨hP, hlo, hlh, hhi⟩ := h.sits _ at0
 have hP' : (Kd.int .i64).R 2 w lo (In lo hi) (.slice (some ⟨g, 0, none⟩) 0 c) [] := hP
 have HO := Aside0.mk (Kd.R_mono (Kd.R_lower hP' hlo) (ok' := fun _ => True) (fun _ _ => trivial))
 have HB := Aside0.mk h.below
 have HH := Aside0.mk h
 have HR : Aside0 (ReadsRow ((Kd.int .i64).K w) 1 w (some ⟨q, 0, none⟩) 1 [x]) := ⟨rfl, by omega, fun _ => ⟨_, rfl, fun j p hj => by
  have h0 : j = 0 := by have := (List.getElem?_eq_some_iff.1 hj).1; simpa using this
  subst h0
  have hp : x = p := by simpa using hj
  subst hp
  refine ⟨[.int .i64 x], rfl, rfl, fun i u hu => ?_⟩
  have h1 : i = 0 := by have := (List.getElem?_eq_some_iff.1 hu).1; simpa using this
  subst h1
  have hu' : Value.int .i64 x = u := by simpa using hu
  rw [← hu']
  exact (blk_cell hq 0).trans rfl⟩⟩
 clear h hP hP' hlo hlh hhi
 go_enter Try.func132, Try.ntmps132
 go_wp2_with (at_builtin; refine Kd.R_append_rows (Kd.int .i64) (w0 := w0) w0.heap.size rfl (.tmp 23) (.tmp 24) 30 2 (.int .i64 0) 8 rfl Try.underlying30 svInfo rfl (by decide) (by decide) (.slice (some ⟨g, 0, none⟩) 0 c) [] [x] (some ⟨q, 0, none⟩) 1 1 (fun _ => True) (fun _ => False) rfl rfl HO.out HR.out (fun _ _ k => k) (fun _ k => k.elim) (fun _ _ => trivial) HB.out HB.out.size (by simp) ?_; intro v1 w1 hr1 hb1 hg1 hat1; obtain ⟨A, cb, hv⟩ := Kd.R_slice hr1; rw [show ([] ++ [x] : List Int).length = 1 from rfl] at hv; subst hv; have HX := Aside0.mk (HH.out.grew (d := Kd.int .i64) rfl (fun _ _ _ _ _ _ k => k) at0 hg1 hr1 hat1); clear hr1 hb1 hg1 hat1)
 go_ret
 obtain ⟨lo', hi', HQ⟩ := HX.out
 exact ⟨A, cb, lo', hi', rfl, HQ _ .here⟩
theorem lruAsc_ev (n : Nat) (h : n ≤ 1048576) : Ev (fun k => impl_ascending.f k (n : Int)) ((List.range n).map fun (j : Nat) => (j : Int)) := by
 unfold impl_ascending.f
 have key : ∀ d i, i + d = n → Ev (fun k => impl_ascending.l0 k ((List.range i).map fun (j : Nat) => (j : Int)) (n : Int) (i : Int)) ((List.range n).map fun (j : Nat) => (j : Int)) := by
  intro d
  induction d with
  | zero =>
   intro i hi
   obtain rfl : i = n := by omega
   refine Ev.step (f := fun _ => some ((List.range i).map fun (j : Nat) => (j : Int))) (fun k => ?_) (Ev.now _)
   simp only [impl_ascending.l0]
   rw [if_neg (by omega)]
  | succ d ih =>
   intro i hi
   have e : ((List.range i).map fun (j : Nat) => (j : Int)) ++ [(i : Int)] = (List.range (i + 1)).map fun (j : Nat) => (j : Int) := by simp [List.range_succ]
   have e2 : wrap64 ((i : Int) + 1) = ((i + 1 : Nat) : Int) := by unfold wrap64; omega
   refine Ev.step (fun k => ?_) (ih (i + 1) (by omega))
   simp only [impl_ascending.l0]
   rw [if_pos (by omega), if_pos (by simp; omega), e, e2]
 exact key n 0 (by omega)
def asc (n : Nat) : List Int := (List.range n).map fun (j : Nat) => (j : Int)
theorem asc_len (n : Nat) : (asc n).length = n := by simp [asc]
theorem asc_ev' (n : Nat) (h : n ≤ 1048576) : Ev (fun k => impl_ascending.f k (n : Int)) (asc n) := lruAsc_ev n h
def movedV (n i : Nat) : List Int := (i : Int) :: (asc n).eraseIdx i
set_option maxHeartbeats 800000 in
theorem ho_moved {w : World} {n i : Nat} (hn : n ≤ 1048576) (hi : i < n) :
  Calls Try.prog 102 #[.int .i64 n, .int .i64 i, .int .i64 0] w fun e w' => ∃ A c, e = .returned (.slice A n c) ∧ ∃ lo hi, Hold w w' [(flat (Kd.int .i64) 2 (.slice A n c) (movedV n i), lo, hi)] := by
 have HE := Aside0.mk (asc_ev' n hn)
 have HI := Aside0.mk hi
 have HN := Aside0.mk hn
 have b1 : (i : Int) + 1 ≤ 1048576 := by omega
 have b2 : (0 : Int) ≤ i := by omega
 have b3 : wrap64 ((i : Int) + 1) = (i : Int) + 1 := by exact wrap_id (by omega) (by omega)
 clear hn hi
 go_enter Try.func102, Try.ntmps102
 go_wp2_with fail
 refine (impl_ascending.calls HE.out.num (n : Int) _ _ HE.out.is).mono ?_
 rintro e w1 ⟨v, rfl, hr, hb⟩
 have HS := (Hold.start w).made hb hr
 obtain ⟨g, c, rfl, hg1, hg2⟩ := HS.row_form at0 (by rw [asc_len]; have := HI.out; omega)
 have HC := Aside0.mk (HS.reads' at0).2.1
 have HG := Aside0.mk (And.intro hg1 hg2)
 clear hg1 hg2
 rw [asc_len] at HS HC ⊢
 clear hb hr
 go_wp2_with fail
 refine (ho_delete HS (by rw [asc_len]; exact HI.out) (by rw [asc_len]; exact HN.out)).mono ?_
 rintro e w2 ⟨rfl, HT⟩
 replace HS := HT
 clear HT
 go_wp2_with fail
 have HB := HS.box #[.int .i64 (i : Int)] 2
 have hlt : g < w2.heap.size := Nat.lt_of_lt_of_le HG.out.2 (HS.sits _ at0).2.2.2
 rcases Nat.lt_or_ge 1 n with h2 | h2
 ·refine (ho_insert0 (x := (i : Int)) (HB.pick tk1) ?_ ?_ (HB.blk at0) (by omega)).mono ?_
  ·rw [List.length_eraseIdx, asc_len, if_pos HI.out]; omega
  ·rw [List.length_eraseIdx, asc_len, if_pos HI.out]; have := HC.out; omega
  rintro e w3 ⟨rfl, HT⟩
  replace HS := HT.sub (List.Sublist.cons_cons _ (List.nil_sublist _))
  rw [show n - 1 + 1 = n by omega] at HS ⊢
  clear HT HB
  have HF := Aside0.mk HS
  clear HS
  go_wp2_with fail
  go_ret
  exact ⟨_, _, rfl, _, _, HF.out⟩
 ·have hn1 : n = 1 := by have := HI.out; omega
  subst hn1
  have hi0 : i = 0 := by have := HI.out; omega
  subst hi0
  refine (ho_insert_nil (x := ((0 : Nat) : Int)) (HB.pick tk1) (HB.blk at0)).mono ?_
  rintro e w3 ⟨A, cb, lo', hi', rfl, HT⟩
  replace HS := HT.sub (List.Sublist.cons_cons _ (List.nil_sublist _))
  clear HT HB
  have HF := Aside0.mk HS
  clear HS
  go_wp2_with fail
  go_ret
  exact ⟨_, _, rfl, _, _, HF.out⟩
section
variable {P : Program} {ops : Array Oper} {rest : List Oper} {o : Oper} {a : Act} {Q : Exit → Act → World → Prop} {Kc : Act → World → Prop}
theorem goesF_ {oi : Oper} {N : Option Tmp} {w : World} {K : Act → World → Prop} {cl : FuncId} {x : Operand} {lb : Array Value} {xs_ : Array Operand} {ts : Array TypeId} (eg : Enters P cl) (args : Array Value)
  (hw : Region.wanted oi (yielded ops a.tmps) = true) (hN : oi.dst = N) (hop : oi.op = .call { callee := .value x, args := xs_, argTypes := ts }) (hx : a.eval x = .func (.func cl) #[] lb) (hargs : xs_.map a.eval = args)
  (h : Calls P cl (args ++ lb) w fun e w' => ∃ v, e = .returned v ∧ K (a.put N v) w') : if Region.wanted oi (yielded ops a.tmps) = true then Oper.wp P oi a w K Q else K (a.put N undef) w := by
 refine call_ cl (args ++ lb) hw hN ?_ h
 have he := eg (args ++ lb) w
 unfold execOp
 simp [hop, resolve, Deferred.ofValue, invoke, hx, hargs, he]
/-- Things made by a call, beside what is held. -/
theorem Hold.join {w0 W W' : World} {L R : List (Thing × Nat × Nat)} (h : Hold w0 W R) (h2 : Hold W W' L) : Hold w0 W' (L ++ R) := by
 have h3 := h.step h2.below
 refine ⟨h3.below, fun x hx => ?_, List.pairwise_append.2 ⟨h2.off, h3.off, fun x hx y hy => .inr ?_⟩⟩
 ·rcases List.mem_append.1 hx with hx | hx
  ·obtain ⟨a1, a2, a3, a4⟩ := h2.sits x hx
   exact ⟨a1, Nat.le_trans h.below.size a2, a3, a4⟩
  ·exact h3.sits x hx
 ·exact Nat.le_trans (h.sits y hy).2.2.2 (h2.sits x hx).2.1
/-- append(v, row): v a nest whose blocks lie above all others but the row's. -/
theorem Hold.nestStep {α : Type} {d : Kd α} {w0 W : World} {R : List (Thing × Nat × Nat)} {E ES lo hi rlo rhi : Nat} {v rv : Value} {xs : List (List α)} {p : List α}
  (h : Hold w0 W ((flat d E rv p, rlo, rhi) :: (nest (Kd.slice E d) ES v xs, lo, hi) :: R)) (hR : ∀ x ∈ R, x.2.2 ≤ lo) (hr0 : lo ≤ rlo)
  (hw : Region.wanted o (yielded ops a.tmps) = true) (s x : Operand) (t : TypeId)
  (ho : o.op = .call { callee := .builtin .append, args := #[s, x], argTypes := #[t, t] })
  (ht : P.underlying t = some (.slice ES)) (hinfo : (P.info? ES).map (fun i => (i.zero, i.size, i.bytes)) = some (some (.slice none 0 0), 1, 24))
  (hs : a.eval s = v) (hx : a.eval x = .slice (some ⟨W.heap.size, 0, none⟩) 1 1) (hl : xs.length ≤ 1048576)
  (k : ∀ A c w1 hi', W.heap.size ≤ w1.heap.size → Hold w0 w1 ((nest (Kd.slice E d) ES (.slice A (xs.length + 1) c) (xs ++ [p]), lo, hi') :: R) → Kc (a.put o.dst (.slice A (xs.length + 1) c)) w1) :
  if Region.wanted o (yielded ops a.tmps) = true then Oper.wp P o a (W.alloc (.cells #[rv] ES)) Kc Q else Kc (a.put o.dst undef) (W.alloc (.cells #[rv] ES)) := by
 obtain ⟨hP, p1, p2, p3⟩ := h.sits _ at0
 obtain ⟨hN, n1, n2, n3⟩ := h.sits _ at1
 have hP' : d.R E W rlo (In rlo rhi) rv p := hP
 have hN' : Kd.S (Kd.slice E d) ES W lo (In lo hi) v xs := hN
 have hoff : Off (flat d E rv p, rlo, rhi) (nest (Kd.slice E d) ES v xs, lo, hi) := (List.pairwise_cons.1 h.off).1 _ at0
 simp only at p1 p2 p3 n1 n2 n3
 have hap : ∀ k, In rlo rhi k → ¬ In lo hi k := fun k h1 h2 => by
  rcases hoff with q | q
  ·have : rhi ≤ lo := q; have := h1.2; have := h2.1; omega
  ·have : hi ≤ rlo := q; have := h1.1; have := h2.2; omega
 refine Kd.S_append_step (Kd.slice E d) (w0 := W) lo hw s x t ES (.slice none 0 0) 24 ho ht hinfo rfl Nat.one_pos (by decide) v xs p [rv] (fun k => lo ≤ k) (In rlo rhi) hs hx (Kd.M_row (Kd.R_lower hP' hr0)) (fun k hk => ⟨Nat.le_trans hr0 hk.1, fun e => hap k hk ((Kd.S_R hN').1 k e.symm)⟩) (fun k hk => by omega) (Kd.S_mono hN' (fun k hk => ⟨hk.1, fun hk2 => hap k hk2 hk⟩)) (Below.refl _ _) (by omega) (by omega) ?_
 intro v1 w1 hr1 hb _ _
 obtain ⟨A, c, hv⟩ := Kd.S_slice hr1
 rw [List.length_append, List.length_singleton] at hv
 subst hv
 have hsz := hb.size
 refine k A c w1 w1.heap.size hsz ⟨h.below.trans (hb.mono (Nat.le_trans n1 (Nat.le_refl _))), fun y hy => ?_, List.Pairwise.cons (fun y hy => .inr (hR y hy)) h.tail.tail.off⟩
 rcases List.mem_cons.1 hy with rfl | hy
 ·exact ⟨Kd.S_mono (Kd.S_bound hr1) (fun k hk => ⟨hk.1, hk.2.2.1⟩), n1, by simp only; omega, Nat.le_refl _⟩
 ·obtain ⟨a1, a2, a3, a4⟩ := h.tail.tail.sits y hy
  exact ⟨y.1.move a1 (fun k _ hk hlt => hb.block k (by have := hR y hy; omega)), a2, a3, Nat.le_trans a4 hsz⟩
end
theorem isWays_ok {n : Nat} (h1 : 1 ≤ n) (hn : n ≤ 6) : impl_isWays.f (n : Int) = some true := by
 unfold impl_isWays.f impl_inRange.f
 rw [if_pos (by omega), Option.bind_some, decide_eq_true (by omega)]
theorem cell_kept {w W : World} {g j : Nat} {v : Value} (hb : Below w.heap.size w W) (h : w.cell? ⟨g, j, none⟩ = some v) : W.cell? ⟨g, j, none⟩ = some v := by
 have hlt : g < w.heap.size := by
  rcases Nat.lt_or_ge g w.heap.size with h1 | h1
  ·exact h1
  ·have h2 : w.heap[g]? = none := Array.getElem?_eq_none h1
   simp [World.cell?, h2] at h
 simpa [World.cell?, hb.block g hlt] using h
theorem lru1_calls {w : World} {n i g : Nat} (hg : w.cell? ⟨g, 0, none⟩ = some (.int .i64 n)) (hn : n ≤ 1048576) (hi : i < n) :
  Calls Try.prog 101 (#[.int .i64 i] ++ #[.pointer (some ⟨g, 0, none⟩)]) w fun e w' => ∃ A c, e = .returned (.slice A n c) ∧ ∃ lo hi, Hold w w' [(flat (Kd.int .i64) 2 (.slice A n c) (movedV n i), lo, hi)] := by
 show Calls Try.prog 101 #[.int .i64 i, .pointer (some ⟨g, 0, none⟩)] w _
 have HN := Aside0.mk hn
 have HI := Aside0.mk hi
 clear hn hi
 go_enter Try.func101, Try.ntmps101
 go_wp2_with fail
 refine (ho_moved HN.out HI.out).mono ?_
 rintro e w1 ⟨A, c, rfl, lo, hi, H⟩
 have HF := Aside0.mk H
 clear H
 go_wp2_with fail
 go_ret
 exact ⟨A, c, rfl, lo, hi, HF.out⟩
theorem lru2_calls {w : World} {n g : Nat} (hg : w.cell? ⟨g, 0, none⟩ = some (.int .i64 n)) (hn : n ≤ 1048576) (hi : n - 1 < n) :
  Calls Try.prog 103 (#[.pointer (some ⟨g, 0, none⟩)]) w fun e w' => ∃ A c, e = .returned (.slice A n c) ∧ ∃ lo hi, Hold w w' [(flat (Kd.int .i64) 2 (.slice A n c) (movedV n (n - 1)), lo, hi)] := by
 show Calls Try.prog 103 #[.pointer (some ⟨g, 0, none⟩)] w _
 have HN := Aside0.mk hn
 have HI := Aside0.mk hi
 have b1 : wrap64 ((n : Int) - 1) = ((n - 1 : Nat) : Int) := by rw [wrap_id (by omega) (by omega)]; omega
 clear hn hi
 go_enter Try.func103, Try.ntmps103
 go_wp2_with fail
 refine (ho_moved HN.out HI.out).mono ?_
 rintro e w1 ⟨A, c, rfl, lo, hi, H⟩
 have HF := Aside0.mk H
 clear H
 go_wp2_with fail
 go_ret
 exact ⟨A, c, rfl, lo, hi, HF.out⟩
set_option maxHeartbeats 1600000 in
set_option maxRecDepth 100000 in
theorem policyOf_lru {w : World} {n g : Nat} (hg : w.cell? ⟨g, 0, none⟩ = some (.int .i64 n)) (h1 : 1 ≤ n) (hn : n ≤ 6) :
  Calls Try.prog 100 #[.int .i64 n, .func (.func 101) #[] #[.pointer (some ⟨g, 0, none⟩)], .func (.func 103) #[] #[.pointer (some ⟨g, 0, none⟩)]] w fun e w' => ∃ A c B b, e = .returned (.tuple #[.agg #[.slice A n c, .slice B n b], .bool true]) ∧ ∃ lo hi lo' hi', Hold w w' [(flat (Kd.int .i64) 2 (.slice B n b) (movedV n (n - 1)), lo', hi'), (nest (Kd.slice 2 (Kd.int .i64)) 30 (.slice A n c) ((List.range n).map (movedV n)), lo, hi)] := by
 have HN := Aside0.mk hn
 have H1 := Aside0.mk h1
 have HG := Aside0.mk hg
 have HW : Aside0 (impl_isWays.f (n : Int) = some true) := ⟨isWays_ok h1 hn⟩
 clear hg
 have HS := (Hold.start w).box #[.slice none 0 0, .slice none 0 0] 95
 go_enter Try.func100, Try.ntmps100
 go_wp2_with fail
 refine (impl_isWays.calls (n : Int) true _ HW.out).mono ?_
 rintro e w1 ⟨rfl, hb⟩
 replace HS := HS.step (by first | exact hb | exact hb.below)
 clear hb
 go_wp2_with fail
 have hn0 := (HS.sits _ at0).2.2.2
 simp only at hn0
 have hne : ¬ w.heap.size = w1.heap.size := by omega
 have hne2 : ¬ w1.heap.size = w.heap.size := by omega
 clear hn0
 replace HS := HS.box #[.slice none 0 0, .slice none 0 0] 95
 have h8 := (HS.sits _ at0).2.2.2
 have h6 := (HS.sits _ at1).2.2.2
 generalize w1.alloc (.cells #[.slice none 0 0, .slice none 0 0] 95) = w2 at HS h8 h6 ⊢
 generalize w1.heap.size = b8 at HS h8 hne hne2 ⊢
 generalize w.heap.size = b6 at HS h6 hne hne2 ⊢
 simp only at h8 h6
 replace HS := HS.add (T := nest (Kd.slice 2 (Kd.int .i64)) 30 (.slice none 0 0) []) (Below.refl _ _) (Kd.S_nil _ _ _ _ _)
 generalize hlo : w2.heap.size = lo at HS h8 h6
 have H8 := Aside0.mk h8
 have H6 := Aside0.mk h6
 clear h8 h6 hlo
 have HL : Aside0 (Hold w w2 _) := ⟨HS⟩
 clear HS
 go_loopg [16] n (fun gg s16 wr => ∃ (kk : Nat) (A : Option Addr) (c hi : Nat), kk ≤ n ∧ n - kk ≤ gg ∧ s16 = .int .i64 kk ∧ Aside0 (Hold w wr [(nest (Kd.slice 2 (Kd.int .i64)) 30 (.slice A kk c) ((List.range kk).map (movedV n)), lo, hi), (boxT #[.slice A kk c, .slice none 0 0] 95, b8, b8 + 1), (boxT #[.slice none 0 0, .slice none 0 0] 95, b6, b6 + 1)]))
 case atStart => exact ⟨0, none, 0, _, Nat.zero_le _, by omega, rfl, HL⟩
 case round =>
  clear HL HW
  obtain ⟨kk, A, c, hi, hkk, hg_, rfl, HSS⟩ := hrel
  have HS := HSS.out
  clear HSS
  by_cases hlt : kk < n
  ·have HLT := Aside0.mk hlt
   have hltz : (kk : Int) < (n : Int) := by omega
   go_wp2_with fail
   have HD := Hold.drew HS
   refine start_ (n := 9) (S := fun w' => w'.cell? ⟨b8, 0, none⟩ = some (.slice A kk c)) (ds := [8]) #[false, false, false, false, false, false, false, false, false] (by kernel_rfl) rfl rfl ((HD.cell at1 0 _ rfl)) (fun hHeld => ?_)
   generalize wr.drew = wd at HD hHeld ⊢
   refine pu_ (i := 0) (N := some 19) (h := ?_)
   refine pu_ (i := 2) (N := some 21) (h := ?_)
   refine pu_ (i := 3) (N := some 22) (h := ?_)
   refine ta_ (i := 1) (N := some 20) (hS := hHeld) (hy := by intro w' s0; go_simp; with_reducible rfl) (h := ?_)
   refine one_ (i := 4) (N := some 23) #[true, true, true, true, true, false, false, false, false] rfl rfl (by kernel_rfl) (by decide) (fun K hK => ?_)
   refine goesF_ (cl := 101) (lb := #[.pointer (some ⟨g, 0, none⟩)]) (enters_of Try.func101 (by kernel_rfl) rfl) #[.int .i64 kk] (by rfl) rfl rfl rfl (by simp only [List.map_toArray, List.map_cons, List.map_nil]; rfl) ?_
   refine (lru1_calls (cell_kept HD.below HG.out) (by have := HN.out; omega) HLT.out).mono ?_
   rintro e w4 ⟨B, cb, rfl, rl, rh, HX⟩
   refine ⟨_, rfl, ?_⟩
   have HRL := Aside0.mk (Nat.le_trans (Nat.le_trans (HD.sits _ at0).2.2.1 (HD.sits _ at0).2.2.2) (HX.sits _ at0).2.1)
   replace HD := Hold.join HD HX
   clear HX
   simp only [List.cons_append, List.nil_append] at HD HRL
   have s0_ : w4.cell? ⟨b8, 0, none⟩ = some (.slice A kk c) := HD.cell at2 0 _ rfl
   refine hK.out _ _ (s0_) (fun hHeld => ?_)
   clear hK K
   refine norm_ (a' := ?_) ?_ ?_
   rotate_left
   ·show Act.put _ (some 23) _ = _
    simp only [Act.put, List.setIfInBounds_toArray, List.set_cons_zero, List.set_cons_succ, i64_w, i32_w]
    rfl
   refine one_ (i := 5) (N := some 24) #[true, true, true, true, true, true, false, false, false] rfl rfl (by kernel_rfl) (by decide) (fun K hK => ?_)
   clear s0_
   refine value_ (w1 := ?_) (v := ?_) (by rfl) rfl ?_ ?_
   rotate_left 2
   ·go_simp
    constructor
    ·rfl
    ·rfl
   have HE := HD
   replace HD := HD.box #[.slice B n cb] 30
   have s0_ : (w4.alloc (.cells #[.slice B n cb] 30)).cell? ⟨b8, 0, none⟩ = some (.slice A kk c) := HD.cell at3 0 _ rfl
   refine hK.out _ _ (s0_) (fun hHeld => ?_)
   clear hK K
   refine norm_ (a' := ?_) ?_ ?_
   rotate_left
   ·show Act.put _ (some 24) _ = _
    simp only [Act.put, List.setIfInBounds_toArray, List.set_cons_zero, List.set_cons_succ, i64_w, i32_w]
    rfl
   refine one_ (i := 6) (N := some 25) #[true, true, true, true, true, true, true, false, false] rfl rfl (by kernel_rfl) (by decide) (fun K hK => ?_)
   clear s0_
   refine Hold.nestStep HE (List.forall_mem_cons.2 ⟨H8.out, List.forall_mem_cons.2 ⟨H6.out, fun _ h_ => absurd h_ List.not_mem_nil⟩⟩) HRL.out (by rfl) (.tmp 20) (.tmp 24) 93 rfl Try.underlying93 (by first | rfl | kernel_rfl) rfl rfl (by rw [List.length_map, List.length_range]; have := HN.out; have := HLT.out; omega) ?_
   intro A2 c2 w5 hi2 _ HQ
   replace HD := HQ
   clear HE HQ
   simp only [List.length_map, List.length_range] at HD ⊢
   have s0_ : w5.cell? ⟨b8, 0, none⟩ = some (.slice A kk c) := HD.cell at1 0 _ rfl
   have fz_ : ∀ j, w5.frozen? ⟨b8, j, none⟩ = false := HD.thaw at1
   refine hK.out _ _ (s0_) (fun hHeld => ?_)
   clear hK K
   refine norm_ (a' := ?_) ?_ ?_
   rotate_left
   ·show Act.put _ (some 25) _ = _
    simp only [Act.put, List.setIfInBounds_toArray, List.set_cons_zero, List.set_cons_succ, i64_w, i32_w]
    rfl
   refine pu_ (i := 7) (N := some 26) (h := ?_)
   refine last_ (i := 8) (N := none) #[true, true, true, true, true, true, true, true, true] rfl rfl (by kernel_rfl) (by decide) (fun K hK => ?_)
   refine skip_ (w1 := ?_) (by rfl) rfl ?_ ?_
   rotate_left
   ·go_simp
    rfl
   refine hK.out _ _ ?_
   clear hK K
   refine done_ (by kernel_rfl) ?_
   clear hHeld s0_ fz_
   replace HS := HD
   clear HD
   replace HS := HS.setBox 0 (.slice A2 (kk + 1) c2) (.there .here)
   simp only [List.setIfInBounds_toArray, List.set_cons_zero, List.set_cons_succ] at HS
   generalize w5.setCell ⟨b8, 0, none⟩ (.slice A2 (kk + 1) c2) = w5b at HS ⊢
   have HF := Aside0.mk HS
   clear HS
   go_wp2_with fail
   go_roundg (n - (kk + 1))
   case measure => omega
   case rel => exact ⟨kk + 1, A2, c2, hi2, by omega, by omega, by first | rfl | (rw [wrap_succ hlt (by have := HN.out; omega)]), ⟨by rw [List.range_succ, List.map_append]; exact HF.out⟩⟩
  ·obtain rfl : kk = n := by omega
   have hltz : ¬ ((kk : Nat) : Int) < (kk : Int) := by omega
   go_wp2_with fail
   refine (lru2_calls (cell_kept HS.below HG.out) (by have := HN.out; omega) (by have := H1.out; omega)).mono ?_
   rintro e w6 ⟨B, b, rfl, rl, rh, HX⟩
   replace HS := Hold.join HS HX
   clear HX
   simp only [List.cons_append, List.nil_append] at HS
   have y0 : w6.cell? ⟨b8, 0, none⟩ = some (.slice A kk c) := HS.cell at2 0 _ rfl
   have y1 : w6.cell? ⟨b8, 1, none⟩ = some (.slice none 0 0) := HS.cell at2 1 _ rfl
   have fzy : ∀ j, w6.frozen? ⟨b8, j, none⟩ = false := HS.thaw at2
   have z0 : w6.cell? ⟨b6, 0, none⟩ = some (.slice none 0 0) := HS.cell at3 0 _ rfl
   have z1 : w6.cell? ⟨b6, 1, none⟩ = some (.slice none 0 0) := HS.cell at3 1 _ rfl
   have fzz : ∀ j, w6.frozen? ⟨b6, j, none⟩ = false := HS.thaw at3
   go_wp2_with fail
   have H9 := ((HS.setBox 1 (.slice B kk b) (.there (.there .here))).setBox 0 (.slice A kk c) (.there (.there (.there .here)))).setBox 1 (.slice B kk b) (.there (.there (.there .here)))
   simp only [List.setIfInBounds_toArray, List.set_cons_zero, List.set_cons_succ] at H9
   refine bodyPost_ret (results_ct rfl _ _ b6 95 _ (0, 0) _ rfl (H9.blk at3) Try.underlying95 rfl (by kernel_rfl)) rfl ?_
   exact ⟨A, c, B, b, rfl, lo, hi, rl, rh, H9.sub (List.Sublist.cons_cons _ (List.Sublist.cons_cons _ (List.nil_sublist _)))⟩
set_option maxHeartbeats 1600000 in
theorem lru_calls {w : World} {n : Nat} (h1 : 1 ≤ n) (hn : n ≤ 6) :
  Calls Try.prog 65 #[.int .i64 n] w fun e w' => ∃ v0_ v1_ : Value, e = .returned (.tuple #[.agg #[v0_, v1_], .bool true]) ∧ Kd.S (Kd.slice 2 (Kd.int .i64)) 30 w' w.heap.size (fun k_ => some k_ ≠ (v1_ : Value).ownBlock) v0_ ((List.range n).map (movedV n)) ∧ Kd.R (Kd.int .i64) 2 w' w.heap.size (fun _ => True) v1_ (movedV n (n - 1)) ∧ Below w.heap.size w w' := by
 have HN := Aside0.mk (And.intro h1 hn)
 clear h1 hn
 have HS := ((Hold.start w).box #[.int .i64 n] 2).box #[.slice none 0 0, .slice none 0 0] 95
 simp only [World.size_alloc] at HS
 have x0 := HS.cell at1 0 _ rfl
 go_enter Try.func65, Try.ntmps65
 go_wp2_with fail
 refine (policyOf_lru x0 HN.out.1 HN.out.2).mono ?_
 rintro e w1 ⟨A, c, B, b, rfl, lo, hi, lo', hi', HX⟩
 replace HS := Hold.join HS HX
 clear HX x0
 simp only [List.cons_append, List.nil_append] at HS
 have z0 := HS.cell at2 0 _ rfl
 have z1 := HS.cell at2 1 _ rfl
 have fz := HS.thaw at2
 go_wp2_with fail
 have H9 := (HS.setBox 0 (.slice A n c) (.there (.there .here))).setBox 1 (.slice B n b) (.there (.there .here))
 simp only [List.setIfInBounds_toArray, List.set_cons_zero, List.set_cons_succ] at H9
 refine bodyPost_ret (results_ct rfl _ _ (w.heap.size + 1) 95 _ (0, 0) _ rfl (H9.blk at2) Try.underlying95 rfl (by kernel_rfl)) rfl ?_
 obtain ⟨hP, p1, _, _⟩ := H9.sits _ at0
 obtain ⟨hN, n1, _, _⟩ := H9.sits _ at1
 have hoff : Off _ _ := (List.pairwise_cons.1 H9.off).1 _ at0
 have hP' : Kd.R (Kd.int .i64) 2 _ lo' (In lo' hi') (.slice B n b) (movedV n (n - 1)) := hP
 have hN' : Kd.S (Kd.slice 2 (Kd.int .i64)) 30 _ lo (In lo hi) (.slice A n c) ((List.range n).map (movedV n)) := hN
 have hap : ∀ k, In lo' hi' k → ¬ In lo hi k := fun k h1 h2 => by
  rcases hoff with q | q
  ·have : hi' ≤ lo := q; have := h1.2; have := h2.1; omega
  ·have : hi ≤ lo' := q; have := h1.1; have := h2.2; omega
 exact ⟨_, _, rfl, Kd.S_mono (Kd.S_lower hN' n1) (fun k hk e => hap k (hP'.1 k e.symm) hk), Kd.R_mono (Kd.R_lower hP' p1) (fun _ _ => trivial), H9.below⟩
def impl_LruPolicy.f (a0 : Int) : Option (List (List Int) × List Int × Bool) := if 1 ≤ a0 ∧ a0 ≤ 6 then some ((List.range a0.toNat).map (movedV a0.toNat), movedV a0.toNat (a0.toNat - 1), true) else none
theorem impl_LruPolicy.calls (a0 : Int) (r1 : List (List Int)) (r2 : List Int) (r3 : Bool) (w : World) (h : impl_LruPolicy.f a0 = some (r1, r2, r3)) :
  Calls Try.prog 65 #[.int .i64 a0] w fun e w' => ∃ v0_ v1_ : Value, e = .returned (.tuple #[.agg #[v0_, v1_], .bool r3]) ∧ Kd.S (Kd.slice 2 (Kd.int .i64)) 30 w' w.heap.size (fun k_ => some k_ ≠ (v1_ : Value).ownBlock) v0_ r1 ∧ Kd.R (Kd.int .i64) 2 w' w.heap.size (fun _ => True) v1_ r2 ∧ Below w.heap.size w w' := by
 unfold impl_LruPolicy.f at h
 split at h
 ·rename_i hh
  obtain ⟨n, rfl⟩ : ∃ n : Nat, a0 = (n : Int) := ⟨a0.toNat, by omega⟩
  cases h
  exact lru_calls (by omega) (by omega)
 ·cases h
def slices_Index_int64_int64.l0 : Nat → List Int → Int → Int → Int → Option (Int)
 | 0, _, _, _, _ => none
 | k + 1, x0, x1, x7, x8 => if x8 < x7 then (if 0 ≤ x8 then (if x8 < (x0.length : Int) then (if x1 = (rd x0 x8) then (some x8) else (slices_Index_int64_int64.l0 k x0 x1 x7 (wrap64 (x8 + 1)))) else (none)) else (none)) else (some (-1))
def slices_Index_int64_int64.f (k : Nat) (l0 : List Int) (a1 : Int) : Option (Int) := slices_Index_int64_int64.l0 k l0 a1 (l0.length : Int) 0
theorem slices_Index_int64_int64.mono_l : ∀ k, (∀ y0 y1 y2 y3, LeO (slices_Index_int64_int64.l0 k y0 y1 y2 y3) (slices_Index_int64_int64.l0 (k + 1) y0 y1 y2 y3))
 | 0 => fun _ _ _ _ r h => by simp [slices_Index_int64_int64.l0] at h
 | k + 1 => by
  have ih0 := slices_Index_int64_int64.mono_l k
  ·intro y0 y1 y2 y3
   unfold slices_Index_int64_int64.l0
   repeat' first
   | (with_reducible exact ih0 _ _ _ _)
   | (with_reducible exact LeO.refl _)
   | (with_reducible exact LeO.none _)
   | (with_reducible refine LeO.ite ?_ ?_)
   | (with_reducible refine LeO.bind ?_ (fun _ => ?_))
   | exact ih0 _ _ _ _
   | exact LeO.none _
   | refine LeO.ite ?_ ?_
   | refine LeO.bind ?_ (fun _ => ?_)
theorem slices_Index_int64_int64.mono : ∀ a0 a1 k, LeO (slices_Index_int64_int64.f k a0 a1) (slices_Index_int64_int64.f (k + 1) a0 a1) := by
 intro a0 a1 k
 have ih0 := slices_Index_int64_int64.mono_l k
 unfold slices_Index_int64_int64.f
 repeat' first
   | (with_reducible exact ih0 _ _ _ _)
   | (with_reducible exact LeO.refl _)
   | (with_reducible exact LeO.none _)
   | (with_reducible refine LeO.ite ?_ ?_)
   | (with_reducible refine LeO.bind ?_ (fun _ => ?_))
   | exact ih0 _ _ _ _
   | exact LeO.none _
   | refine LeO.ite ?_ ?_
   | refine LeO.bind ?_ (fun _ => ?_)
set_option maxHeartbeats 8000000 in
set_option maxRecDepth 100000 in
theorem slices_Index_int64_int64.calls (k : Nat) (A0 : Option Addr) (c0 : Nat) (l0 : List Int) (a1 : Int) (r : Int) (w : World) (hr0 : Kd.C (Kd.int .i64) w A0 l0.length l0) (hc0 : l0.length ≤ c0) (h : slices_Index_int64_int64.f k l0 a1 = some r) :
  Calls Try.prog 111 #[.slice A0 l0.length c0, .int .i64 a1] w fun e w' => e = .returned (.int .i64 r) ∧ Drawn0 w w' := by
 have HR0 := Aside0.mk hr0
 have HC0 := Aside0.mk hc0
 clear hr0 hc0
 have H : (slices_Index_int64_int64.l0 k l0 a1 (l0.length : Int) 0) = some r := h
 clear h
 have H' := Aside0.mk H
 clear H
 go_enter Try.func111, Try.ntmps111
 go_wp2
 go_loopg [8] k (fun kq v8 w' => ∃ (x8_1 : Int), v8 = .int .i64 x8_1 ∧ Aside0 (slices_Index_int64_int64.l0 kq l0 a1 (l0.length : Int) x8_1 = some r) ∧ Aside0 (kq ≤ k) ∧ Drawn0 w w')
 case atStart => exact ⟨(0), (by first | rfl | (simp; done) | (simp [*]; done)), H', ⟨Nat.le_refl _⟩, by repeat (first | exact Drawn0.refl _ | apply Drawn0.step)⟩
 case round =>
  clear H'
  try clear c1
  try clear p2
  obtain ⟨x8_1, rfl, HA, HK1, ⟨m1, rfl⟩⟩ := hrel
  cases gk with
  | zero => exact absurd HA.out (by simp [slices_Index_int64_int64.l0])
  | succ k1 =>
   have H := HA.out
   clear HA
   simp only [slices_Index_int64_int64.l0] at H
   by_cases c3 : x8_1 < (l0.length : Int)
   ·rw [if_pos c3] at H
    have c3b0 : decide (x8_1 < (l0.length : Int)) = true := decide_eq_true c3
    clear c3
    by_cases c4 : 0 ≤ x8_1
    ·rw [if_pos c4] at H
     have c4b0 : decide (0 ≤ x8_1) = true := decide_eq_true c4
     clear c4
     by_cases c5 : x8_1 < (l0.length : Int)
     ·rw [if_pos c5] at H
      have c5b0 : decide (x8_1 < (l0.length : Int)) = true := decide_eq_true c5
      clear c5
      by_cases c6 : a1 = (rd l0 x8_1)
      ·rw [if_pos c6] at H
       have c6b0 : (a1 == (rd l0 x8_1)) = true := beq_iff_eq.mpr c6
       have c6b1 : (a1 != (rd l0 x8_1)) = false := bne_eq_false_iff_eq.mpr c6
       clear c6
       obtain rfl := Option.some.inj H
       have p132 : 0 ≤ (x8_1 : Int) := of_decide_eq_true (by first | (with_reducible assumption) | assumption)
       have q132 : x8_1 < (l0.length : Int) := of_decide_eq_true (by first | (with_reducible assumption) | assumption)
       obtain ⟨ad132, e132, hx132_0⟩ := Kd.at_int HR0.out x8_1 p132 q132
       cases e132
       replace p132 := eq_true p132
       replace q132 := eq_true q132
       go_wp2
       go_ret
       exact ⟨by first | rfl | (simp; done) | (simp [*]; done), by repeat (first | exact Drawn0.refl _ | apply Drawn0.step)⟩
      ·rw [if_neg c6] at H
       have c6b0 : (a1 == (rd l0 x8_1)) = false := beq_eq_false_iff_ne.mpr c6
       have c6b1 : (a1 != (rd l0 x8_1)) = true := bne_iff_ne.mpr c6
       have H' := Aside0.mk H
       clear H
       have p132 : 0 ≤ (x8_1 : Int) := of_decide_eq_true (by first | (with_reducible assumption) | assumption)
       have q132 : x8_1 < (l0.length : Int) := of_decide_eq_true (by first | (with_reducible assumption) | assumption)
       obtain ⟨ad132, e132, hx132_0⟩ := Kd.at_int HR0.out x8_1 p132 q132
       cases e132
       replace p132 := eq_true p132
       replace q132 := eq_true q132
       go_wp2
       go_roundg k1
       case measure => have := HK1.out; omega
       case rel => exact ⟨(wrap64 (x8_1 + 1)), (by first | rfl | (simp; done) | (simp [*]; done)), H', ⟨by have := HK1.out; omega⟩, by repeat (first | exact Drawn0.refl _ | apply Drawn0.step)⟩
     ·rw [if_neg c5] at H
      exact absurd H (by simp)
    ·rw [if_neg c4] at H
     exact absurd H (by simp)
   ·rw [if_neg c3] at H
    have c3b0 : decide (x8_1 < (l0.length : Int)) = false := decide_eq_false c3
    clear c3
    obtain rfl := Option.some.inj H
    go_wp2
    go_ret
    exact ⟨by first | rfl | (simp; done) | (simp [*]; done), by repeat (first | exact Drawn0.refl _ | apply Drawn0.step)⟩
def slices_Contains_int64_int64.f (k : Nat) (l0 : List Int) (a1 : Int) : Option (Bool) := (slices_Index_int64_int64.f k l0 a1).bind fun t133 => (some (decide (t133 ≥ 0)))
theorem slices_Contains_int64_int64.mono : ∀ a0 a1 k, LeO (slices_Contains_int64_int64.f k a0 a1) (slices_Contains_int64_int64.f (k + 1) a0 a1) := by
 intro a0 a1 k
 unfold slices_Contains_int64_int64.f
 repeat' first
   | (with_reducible exact slices_Index_int64_int64.mono _ _ _)
   | (with_reducible exact LeO.refl _)
   | (with_reducible exact LeO.none _)
   | (with_reducible refine LeO.ite ?_ ?_)
   | (with_reducible refine LeO.bind ?_ (fun _ => ?_))
   | exact slices_Index_int64_int64.mono _ _ _
   | exact LeO.none _
   | refine LeO.ite ?_ ?_
   | refine LeO.bind ?_ (fun _ => ?_)
set_option maxHeartbeats 8000000 in
set_option maxRecDepth 100000 in
theorem slices_Contains_int64_int64.calls (k : Nat) (A0 : Option Addr) (c0 : Nat) (l0 : List Int) (a1 : Int) (r : Bool) (w : World) (hr0 : Kd.C (Kd.int .i64) w A0 l0.length l0) (hc0 : l0.length ≤ c0) (h : slices_Contains_int64_int64.f k l0 a1 = some r) :
  Calls Try.prog 70 #[.slice A0 l0.length c0, .int .i64 a1] w fun e w' => e = .returned (.bool r) ∧ Drawn0 w w' := by
 have HR0 := Aside0.mk hr0
 have HC0 := Aside0.mk hc0
 clear hr0 hc0
 have H : ((slices_Index_int64_int64.f k l0 a1).bind fun t133 => (some (decide (t133 ≥ 0)))) = some r := h
 clear h
 replace H := Option.bind_eq_some_iff.mp H
 obtain ⟨t133, A30, H⟩ := H
 replace H : (some (decide (t133 ≥ 0))) = some r := H
 have A3 := Aside0.mk A30
 clear A30
 obtain rfl := Option.some.inj H
 go_enter Try.func70, Try.ntmps70
 go_wp2_with (first | ((with_reducible refine gate_callee (f := 111) rfl ?_); refine goesL_ (some 7) rfl rfl Try.func111 (by kernel_rfl) rfl #[.slice A0 l0.length c0, .int .i64 a1] rfl (by (try simp only [List.map_toArray, List.map_cons, List.map_nil]); first | done | rfl | (simp only [List.length_drop, List.length_take]; rfl)) ?_; (with_reducible refine (slices_Index_int64_int64.calls k _ _ l0 a1 t133 _ ?side1 ?side2 A3.out).mono ?_); (case side1 => repeat (first | exact HR0.out | (with_reducible refine Kd.C_alloc ?_ _) | (with_reducible refine Kd.C_drewN ?_ _) | (with_reducible refine Kd.C_drew ?_))); (case side2 => exact HC0.out); rintro e w' ⟨rfl, ⟨nd, rfl⟩⟩; refine ⟨_, rfl, ?_⟩))
 go_ret
 exact ⟨by first | rfl | (simp; done) | (simp [*]; done), by repeat (first | exact Drawn0.refl _ | apply Drawn0.step)⟩
end Go.Proofs.Ytpooojgeonpmnaa.PFnExactAccuracyOf
