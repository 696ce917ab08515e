import Derived.Test.YtdkpdpdaggnmhaaZReadsPFnReadsx0
import Derived.Test.YtdkpdpdaggnmhaaZReadsPFnReadsx4
import Derived.Test.YtdkpdpdaggnmhaaZReadsPFnReadsx5
import Derived.Test.YtdkpdpdaggnmhaaZReadsPFnReadsx6
import Derived.Test.YtdkpdpdaggnmhaaZReadsPFnReadsx7
namespace Go.Proofs.Ytdkpdpdaggnmhaa.PFnReads
open Go.RowKit Go.Proofs.YtdkpdpdaggnmhaaW.PrintWords Go.Proofs.YtdkpdpdaggnmhaaW.PrintLast Go.Proofs.YtdkpdpdaggnmhaaW.PrintMore
attribute [local go_sem] max2_int min2_int max_two min_two max_three min_three max_four min_four   -- for this text's walks alone
set_option linter.unusedVariables false
set_option linter.unusedSimpArgs false
theorem getD_mem {α : Type} (l : List α) (i : Nat) (z : α) (h : i < l.length) : l.getD i z ∈ l := by
  rw [getD_lt l i z h]; exact List.getElem_mem h
theorem rising_range : ∀ (s : List Int) (a : Int), s.Pairwise (· < ·) → (∀ x ∈ s, a ≤ x ∧ x ≤ a + s.length - 1) → s = (List.range s.length).map fun (j : Nat) => a + (j : Int)
  | [], _, _, _ => rfl
  | x :: t, a, hp, hb => by
    rw [List.pairwise_cons] at hp
    have hx := hb x List.mem_cons_self
    have ht : t = (List.range t.length).map fun (j : Nat) => (a + 1) + (j : Int) := by
      refine rising_range t (a + 1) hp.2 (fun y hy => ?_)
      have h1 := hp.1 y hy
      have h2 := hb y (List.mem_cons_of_mem _ hy)
      rw [List.length_cons] at h2
      omega
    have e : x = a := by
      by_cases h0 : t.length = 0
      · rw [List.length_cons] at hx; omega
      · have hm : (a + 1) ∈ t := by
          rw [ht]
          exact List.mem_map.2 ⟨0, by simp only [List.mem_range, List.length_map, List.length_range]; omega, by simp⟩
        have := hp.1 _ hm
        omega
    subst e
    rw [List.length_cons, List.range_succ_eq_map, List.map_cons, List.map_map]
    congr 1
    · simp
    · conv => lhs; rw [ht]
      refine List.map_congr_left (fun j _ => ?_)
      simp only [Function.comp_apply]
      omega
theorem orderB_iff (l : List Int) (n : Int) : orderB l n = true ↔ (l.length : Int) = n ∧ (∀ x ∈ l, 0 ≤ x ∧ x ≤ n - 1) ∧ l.Nodup := by
  unfold orderB
  rw [Bool.and_eq_true, decide_eq_true_eq, decide_eq_true_eq]
  constructor
  · rintro ⟨h1, h2⟩
    have hp := sortI_perm l
    refine ⟨h1, fun x hx => ?_, ?_⟩
    · have hx' := hp.mem_iff.2 hx
      rw [h2] at hx'
      obtain ⟨j, hj, rfl⟩ := List.mem_map.1 hx'
      rw [List.mem_range] at hj
      omega
    · refine hp.nodup_iff.1 ?_
      rw [h2]
      unfold List.Nodup
      rw [List.pairwise_map]
      exact List.Pairwise.imp (fun h => by omega) (List.pairwise_lt_range (n := l.length))
  · rintro ⟨h1, h2, h3⟩
    refine ⟨h1, ?_⟩
    have hp := sortI_perm l
    have hn : (sortI l).Nodup := hp.nodup_iff.2 h3
    have hlt : (sortI l).Pairwise (· < ·) := by
      have a := (sortI_le l)
      exact (List.Pairwise.and a hn).imp (fun h => by omega)
    have := rising_range (sortI l) 0 hlt (fun x hx => by
      have := h2 x (hp.mem_iff.1 hx)
      rw [sortI_length]; omega)
    rw [this, sortI_length]
    refine List.map_congr_left (fun j _ => ?_)
    omega
theorem valid_facts {h : List (List Int)} {m : List Int} (hv : validB h m = true) : 1 ≤ m.length ∧ m.length ≤ 6 ∧ h.length = m.length ∧ orderB m (m.length : Int) = true ∧ ∀ y ∈ h, orderB y (m.length : Int) = true := by
  unfold validB at hv
  simp only [Bool.and_eq_true, decide_eq_true_eq] at hv
  obtain ⟨⟨a, b⟩, c, d, e⟩ := hv
  refine ⟨a, b, by omega, d, fun y hy => ?_⟩
  cases hb : orderB y (m.length : Int)
  · have : (h.any fun y => !orderB y (m.length : Int)) = true := List.any_eq_true.2 ⟨y, hy, by rw [hb]; rfl⟩
    rw [this] at e; cases e
  · rfl
theorem age_lt (c : List Int) (a : Int) : ageOf c a = -1 ∨ 0 ≤ ageOf c a ∧ ageOf c a < c.length := by
  have := xIdx_ge (fun y => decide (y = a)) c 0
  unfold ageOf
  omega
theorem ord_order {h : List (List Int)} {m : List Int} (hv : validB h m = true) (c : List Int) (hc : c.length = m.length) (a : Int) : orderB (stepOrd h m c a) (c.length : Int) = true := by
  obtain ⟨h1, h2, h3, h4, h5⟩ := valid_facts hv
  unfold stepOrd
  rw [hc]
  split
  · refine h5 _ (getD_mem h _ [] ?_)
    have := age_lt c a
    omega
  · exact h4
theorem okStep_valid {h : List (List Int)} {m : List Int} (hv : validB h m = true) (c : List Int) (hc : c.length = m.length) (a : Int) : okStep h m c a = true := by
  obtain ⟨h1, h2, h3, h4, h5⟩ := valid_facts hv
  obtain ⟨o1, o2, o3⟩ := (orderB_iff _ _).1 (ord_order hv c hc a)
  have := age_lt c a
  unfold okStep
  simp only [Bool.and_eq_true, decide_eq_true_eq, List.all_eq_true]
  refine ⟨⟨by omega, by omega⟩, by omega, by omega, fun x hx => ?_⟩
  have := o2 x hx
  omega
theorem stepV_length {h : List (List Int)} {m : List Int} (hv : validB h m = true) (c : List Int) (hc : c.length = m.length) (a : Int) : (stepV h m c a).1.length = m.length := by
  obtain ⟨o1, o2, o3⟩ := (orderB_iff _ _).1 (ord_order hv c hc a)
  unfold stepV
  rw [List.length_map]
  omega
def copyN (ws cs : List Int) (b : Nat) : Nat → List Int
  | 0 => ws
  | k + 1 => (copyN ws cs b k).set (b + k) (cs.getD (b + k) 0)
theorem copyN_length (ws cs : List Int) (b : Nat) : ∀ k, (copyN ws cs b k).length = ws.length
  | 0 => rfl
  | k + 1 => by rw [copyN, List.length_set]; exact copyN_length ws cs b k
def outV (ws cs : List Int) (ds : List Bool) (line : Int) : Int × List Int × List Bool := if line < 0 then (0, ws, ds) else if ds.getD line.toNat false = true then (4, copyN ws cs (line.toNat * 4) 4, ds.set line.toNat false) else (0, ws, ds)
/-- A cache's run as both programs tell it: flat words, copies, dirty lines; what is cached; what was read; the traffic. -/
structure CacheV where
  ws : List Int
  cs : List Int
  ds : List Bool
  cont : List Int
  rd : List Int
  h : Int
  m : Int
  i : Int
  o : Int
def fillC (hit : List (List Int)) (miss : List Int) (line : Nat) (s : CacheV) : CacheV :=
  { s with ws := (outV s.ws s.cs s.ds (s.cont.getD (s.cont.length - 1) 0)).2.1, ds := (outV s.ws s.cs s.ds (s.cont.getD (s.cont.length - 1) 0)).2.2, cs := copyN s.cs (outV s.ws s.cs s.ds (s.cont.getD (s.cont.length - 1) 0)).2.1 (line * 4) 4, o := s.o + (outV s.ws s.cs s.ds (s.cont.getD (s.cont.length - 1) 0)).1, i := s.i + 4, cont := (stepV hit miss s.cont line).1 }
def enterC (hit : List (List Int)) (miss : List Int) (line : Nat) (s : CacheV) : CacheV :=
  if (s.cont.any fun y => decide (y = (line : Int))) = true then { s with h := s.h + 1, cont := (stepV hit miss s.cont line).1 } else fillC hit miss line { s with m := s.m + 1 }
def writeC (back : Bool) (k a : Nat) (s : CacheV) : CacheV :=
  if back = true then { s with cs := s.cs.set a ((k : Int) + 1), ds := s.ds.set (a / 4) true } else { s with cs := s.cs.set a ((k : Int) + 1), ws := s.ws.set a ((k : Int) + 1), o := s.o + 1 }
/-- The access number k: kind 1 writes. -/
def accessC (hit : List (List Int)) (miss : List Int) (back alloc : Bool) (k : Nat) (kind : Int) (a : Nat) (s : CacheV) : CacheV :=
  if (s.cont.any fun y => decide (y = ((a / 4 : Nat) : Int))) = false ∧ kind = 1 ∧ alloc = false then { s with m := s.m + 1, ws := s.ws.set a ((k : Int) + 1), o := s.o + 1 }
  else if kind = 1 then writeC back k a (enterC hit miss (a / 4) s)
  else { enterC hit miss (a / 4) s with rd := (enterC hit miss (a / 4) s).rd ++ [(enterC hit miss (a / 4) s).cs.getD a 0] }
def runC (hit : List (List Int)) (miss : List Int) (back alloc : Bool) : Nat → List (Int × Nat) → CacheV → CacheV
  | _, [], s => s
  | k, (q, a) :: t, s => runC hit miss back alloc (k + 1) t (accessC hit miss back alloc k q a s)
def startC (n : Nat) : CacheV := ⟨List.replicate 64 0, List.replicate 64 0, List.replicate 16 false, List.replicate n (-1), [], 0, 0, 0, 0⟩
/-- What is true of a run all along: so many words and lines, entries of lines, a few of everything. -/
structure CacheV.Ok (n : Nat) (s : CacheV) : Prop where
  ws : s.ws.length = 64
  cs : s.cs.length = 64
  ds : s.ds.length = 16
  cont : s.cont.length = n
  lines : ∀ x ∈ s.cont, -1 ≤ x ∧ x < 16
theorem outV_length (ws cs : List Int) (ds : List Bool) (l : Int) : (outV ws cs ds l).2.1.length = ws.length ∧ (outV ws cs ds l).2.2.length = ds.length ∧ 0 ≤ (outV ws cs ds l).1 ∧ (outV ws cs ds l).1 ≤ 4 := by
  unfold outV
  split
  · exact ⟨rfl, rfl, by simp, by simp⟩
  · split
    · exact ⟨copyN_length _ _ _ _, List.length_set, by simp, by simp⟩
    · exact ⟨rfl, rfl, by simp, by simp⟩
theorem start_ok (n : Nat) : (startC n).Ok n := ⟨by simp [startC], by simp [startC], by simp [startC], by simp [startC], fun x hx => by
  have : x = -1 := List.eq_of_mem_replicate hx
  omega⟩
theorem stepV_mem {hit : List (List Int)} {miss c : List Int} {x : Int} (hok : okStep hit miss c x = true) : ∀ y ∈ (stepV hit miss c x).1, y = x ∨ y ∈ c := by
  intro y hy
  simp only [okStep, Bool.and_eq_true, decide_eq_true_eq, List.all_eq_true] at hok
  obtain ⟨⟨h1, h2⟩, h3, h4, h5⟩ := hok
  simp only [stepV, List.mem_map] at hy
  obtain ⟨j, hj, rfl⟩ := hy
  obtain ⟨j0, j1⟩ := h5 j hj
  have hm : rd (stepOld c x) j ∈ stepOld c x := by
    show (stepOld c x).getD j.toNat 0 ∈ stepOld c x
    rw [getD_lt _ _ _ (by rw [stepOld_length]; omega)]
    exact List.getElem_mem _
  unfold stepOld at hm ⊢
  split at hm
  · rename_i hh
    rw [if_pos hh]
    exact .inr hm
  · rename_i hh
    rw [if_neg hh]
    exact (List.mem_or_eq_of_mem_set hm).symm
section
variable {hit : List (List Int)} {miss : List Int} {n : Nat} (hok : ∀ (c : List Int) (x : Int), c.length = n → okStep hit miss c x = true) (hlen : ∀ (c : List Int) (x : Int), c.length = n → (stepV hit miss c x).1.length = n)
include hok hlen
omit hlen in
theorem step_lines {c : List Int} (hc : c.length = n) (hl : ∀ x ∈ c, -1 ≤ x ∧ x < 16) (x : Nat) (hx : x < 16) : ∀ y ∈ (stepV hit miss c (x : Int)).1, -1 ≤ y ∧ y < 16 := by
  intro y hy
  rcases stepV_mem (hok c x hc) y hy with rfl | h
  · omega
  · exact hl y h
theorem fillC_ok {s : CacheV} (h : s.Ok n) {line : Nat} (hx : line < 16) : (fillC hit miss line s).Ok n := by
  obtain ⟨o1, o2, _⟩ := outV_length s.ws s.cs s.ds (s.cont.getD (s.cont.length - 1) 0)
  exact ⟨o1.trans h.ws, (copyN_length _ _ _ _).trans h.cs, o2.trans h.ds, hlen _ _ h.cont, step_lines hok h.cont h.lines line hx⟩
theorem enterC_ok {s : CacheV} (h : s.Ok n) {line : Nat} (hx : line < 16) : (enterC hit miss line s).Ok n := by
  unfold enterC
  split
  · exact ⟨h.ws, h.cs, h.ds, hlen _ _ h.cont, step_lines hok h.cont h.lines line hx⟩
  · exact fillC_ok hok hlen (s := { s with m := s.m + 1 }) ⟨h.ws, h.cs, h.ds, h.cont, h.lines⟩ hx
omit hok hlen in
theorem writeC_ok {s : CacheV} (h : s.Ok n) (back : Bool) (k a : Nat) : (writeC back k a s).Ok n := by
  unfold writeC
  split
  · exact ⟨h.ws, List.length_set.trans h.cs, List.length_set.trans h.ds, h.cont, h.lines⟩
  · exact ⟨List.length_set.trans h.ws, List.length_set.trans h.cs, h.ds, h.cont, h.lines⟩
theorem accessC_ok {s : CacheV} (h : s.Ok n) (back alloc : Bool) (k : Nat) (kind : Int) {a : Nat} (ha : a < 64) : (accessC hit miss back alloc k kind a s).Ok n := by
  have he := enterC_ok hok hlen h (show a / 4 < 16 by omega)
  unfold accessC
  split
  · exact ⟨List.length_set.trans h.ws, h.cs, h.ds, h.cont, h.lines⟩
  · split
    · exact writeC_ok he back k a
    · exact ⟨he.ws, he.cs, he.ds, he.cont, he.lines⟩
end
/-- What one access adds to the traffic. -/
structure Few (s s' : CacheV) : Prop where
  h : s.h ≤ s'.h ∧ s'.h ≤ s.h + 1
  m : s.m ≤ s'.m ∧ s'.m ≤ s.m + 1
  i : s.i ≤ s'.i ∧ s'.i ≤ s.i + 4
  o : s.o ≤ s'.o ∧ s'.o ≤ s.o + 4
theorem enterC_few (hit : List (List Int)) (miss : List Int) (line : Nat) (s : CacheV) : Few s (enterC hit miss line s) := by
  unfold enterC
  split
  · exact ⟨⟨by show s.h ≤ s.h + 1; omega, Int.le_refl _⟩, ⟨Int.le_refl _, by show s.m ≤ s.m + 1; omega⟩, ⟨Int.le_refl _, by show s.i ≤ s.i + 4; omega⟩, ⟨Int.le_refl _, by show s.o ≤ s.o + 4; omega⟩⟩
  · obtain ⟨_, _, o3, o4⟩ := outV_length s.ws s.cs s.ds (s.cont.getD (s.cont.length - 1) 0)
    refine ⟨⟨Int.le_refl _, by show s.h ≤ s.h + 1; omega⟩, ⟨by show s.m ≤ s.m + 1; omega, Int.le_refl _⟩, ⟨by show s.i ≤ s.i + 4; omega, Int.le_refl _⟩, ⟨?_, ?_⟩⟩
    · show s.o ≤ s.o + (outV s.ws s.cs s.ds (s.cont.getD (s.cont.length - 1) 0)).1
      omega
    · show s.o + (outV s.ws s.cs s.ds (s.cont.getD (s.cont.length - 1) 0)).1 ≤ s.o + 4
      omega
theorem accessC_few (hit : List (List Int)) (miss : List Int) (back alloc : Bool) (k : Nat) (kind : Int) (a : Nat) (s : CacheV) :
    (s.h ≤ (accessC hit miss back alloc k kind a s).h ∧ (accessC hit miss back alloc k kind a s).h ≤ s.h + 1) ∧ (s.m ≤ (accessC hit miss back alloc k kind a s).m ∧ (accessC hit miss back alloc k kind a s).m ≤ s.m + 1) ∧ (s.i ≤ (accessC hit miss back alloc k kind a s).i ∧ (accessC hit miss back alloc k kind a s).i ≤ s.i + 4) ∧ (s.o ≤ (accessC hit miss back alloc k kind a s).o ∧ (accessC hit miss back alloc k kind a s).o ≤ s.o + 5) := by
  obtain ⟨h1, h2, h3, h4⟩ := enterC_few hit miss (a / 4) s
  unfold accessC
  split
  · exact ⟨⟨Int.le_refl _, by show s.h ≤ s.h + 1; omega⟩, ⟨by show s.m ≤ s.m + 1; omega, Int.le_refl _⟩, ⟨Int.le_refl _, by show s.i ≤ s.i + 4; omega⟩, ⟨by show s.o ≤ s.o + 1; omega, by show s.o + 1 ≤ s.o + 5; omega⟩⟩
  · split
    · unfold writeC
      split
      · exact ⟨h1, h2, h3, h4.1, by show (enterC hit miss (a / 4) s).o ≤ s.o + 5; omega⟩
      · exact ⟨h1, h2, h3, by show s.o ≤ (enterC hit miss (a / 4) s).o + 1; omega, by show (enterC hit miss (a / 4) s).o + 1 ≤ s.o + 5; omega⟩
    · exact ⟨h1, h2, h3, h4.1, by show (enterC hit miss (a / 4) s).o ≤ s.o + 5; omega⟩
/-- What a run has reckoned behind k accesses. -/
structure CacheV.Bnd (k : Nat) (s : CacheV) : Prop where
  h : 0 ≤ s.h ∧ s.h ≤ 5 * k
  m : 0 ≤ s.m ∧ s.m ≤ 5 * k
  i : 0 ≤ s.i ∧ s.i ≤ 5 * k
  o : 0 ≤ s.o ∧ s.o ≤ 5 * k
  rd : s.rd.length ≤ k
theorem start_bnd (n : Nat) : (startC n).Bnd 0 := ⟨by simp [startC], by simp [startC], by simp [startC], by simp [startC], by simp [startC]⟩
theorem enterC_rd (hit : List (List Int)) (miss : List Int) (line : Nat) (s : CacheV) : (enterC hit miss line s).rd = s.rd := by
  unfold enterC
  split <;> rfl
theorem access_bnd (hit : List (List Int)) (miss : List Int) (back alloc : Bool) (k : Nat) (kind : Int) (a : Nat) {s : CacheV} (h : s.Bnd k) : (accessC hit miss back alloc k kind a s).Bnd (k + 1) := by
  obtain ⟨f1, f2, f3, f4⟩ := accessC_few hit miss back alloc k kind a s
  obtain ⟨h1, h2, h3, h4, h5⟩ := h
  refine ⟨by omega, by omega, by omega, by omega, ?_⟩
  have hr := enterC_rd hit miss (a / 4) s
  unfold accessC
  split
  · show s.rd.length ≤ k + 1
    omega
  · split
    · unfold writeC
      split
      · show (enterC hit miss (a / 4) s).rd.length ≤ k + 1
        rw [hr]; omega
      · show (enterC hit miss (a / 4) s).rd.length ≤ k + 1
        rw [hr]; omega
    · show ((enterC hit miss (a / 4) s).rd ++ [_]).length ≤ k + 1
      rw [hr, List.length_append, List.length_singleton]; omega
def flushC (cs : List Int) : List Int → Int → List Int → List Bool → Int × List Int × List Bool
  | [], f, ws, ds => (f, ws, ds)
  | x :: r, f, ws, ds => flushC cs r (f + (outV ws cs ds x).1) (outV ws cs ds x).2.1 (outV ws cs ds x).2.2
theorem flush_step (cs : List Int) (l : List Int) (k : Nat) (hk : k < l.length) (f : Int) (ws : List Int) (ds : List Bool) : flushC cs (l.drop k) f ws ds = flushC cs (l.drop (k + 1)) (f + (outV ws cs ds (l.getD k 0)).1) (outV ws cs ds (l.getD k 0)).2.1 (outV ws cs ds (l.getD k 0)).2.2 := by
  rw [List.drop_eq_getElem_cons hk, getD_lt l k 0 hk]
  rfl
/-- An access as a kind and a place. -/
def pairA (x : S37) : Int × Nat := (x.f0, x.f1.toNat)
theorem runC_drop (hit : List (List Int)) (miss : List Int) (back alloc : Bool) {t : List S37} {k : Nat} (h : k < t.length) {x : S37} (hx : x = rd_T37 t (k : Int)) {a : Nat} (ha : x.f1 = (a : Int)) (s : CacheV) :
    runC hit miss back alloc k ((t.drop k).map pairA) s = runC hit miss back alloc (k + 1) ((t.drop (k + 1)).map pairA) (accessC hit miss back alloc k x.f0 a s) := by
  have e : t.drop k = x :: t.drop (k + 1) := by
    rw [List.drop_eq_getElem_cons h, hx]
    congr 1
    show _ = t.getD ((k : Int)).toNat _
    rw [Int.toNat_natCast, getD_lt t k _ h]
  rw [e, List.map_cons]
  show runC hit miss back alloc (k + 1) _ (accessC hit miss back alloc k x.f0 x.f1.toNat s) = _
  rw [ha, Int.toNat_natCast]
section
variable {hit : List (List Int)} {miss : List Int} {back alloc : Bool} {k a n : Nat} {q : Int} {s : CacheV}
theorem enter_hit (h : (s.cont.any fun y => decide (y = (n : Int))) = true) : enterC hit miss n s = { s with h := s.h + 1, cont := (stepV hit miss s.cont n).1 } := by
  unfold enterC
  rw [if_pos h]
theorem enter_miss (h : (s.cont.any fun y => decide (y = (n : Int))) = false) : enterC hit miss n s = fillC hit miss n { s with m := s.m + 1 } := by
  unfold enterC
  rw [if_neg (by rw [h]; exact Bool.false_ne_true)]
theorem acc_around (hn : n = a / 4) (h : (s.cont.any fun y => decide (y = (n : Int))) = false) (hq : (q == 1) = true) (ha : alloc = false) : accessC hit miss back alloc k q a s = { s with m := s.m + 1, ws := s.ws.set a ((k : Int) + 1), o := s.o + 1 } := by
  subst hn
  unfold accessC
  rw [if_pos ⟨h, eq_of_beq hq, ha⟩]
theorem acc_read (hn : n = a / 4) (hq : (q == 1) = false) {s2 : CacheV} (hs : s2 = enterC hit miss n s) : accessC hit miss back alloc k q a s = { s2 with rd := s2.rd ++ [s2.cs.getD a 0] } := by
  subst hn hs
  have hq' : q ≠ 1 := fun e => by rw [e] at hq; exact absurd hq (by decide)
  unfold accessC
  rw [if_neg (fun e => hq' e.2.1), if_neg hq']
theorem acc_write (hn : n = a / 4) (hq : (q == 1) = true) (h : (s.cont.any fun y => decide (y = (n : Int))) = true ∨ alloc = true) {s2 : CacheV} (hs : s2 = enterC hit miss n s) : accessC hit miss back alloc k q a s = writeC back k a s2 := by
  subst hn hs
  unfold accessC
  rw [if_neg ?_, if_pos (eq_of_beq hq)]
  rintro ⟨e1, _, e2⟩
  rcases h with h | h
  · rw [h] at e1; cases e1
  · rw [h] at e2; cases e2
end
def traceB (t : List S37) : Bool := decide (t.length ≤ 60) && !(t.any xpAccess)
theorem trace_facts {t : List S37} (h : traceB t = true) : t.length ≤ 60 ∧ ∀ x ∈ t, ∃ a : Nat, x.f1 = (a : Int) ∧ a < 64 ∧ (x.f0 = 0 ∨ x.f0 = 1) := by
  unfold traceB at h
  rw [Bool.and_eq_true, decide_eq_true_eq] at h
  refine ⟨h.1, fun x hx => ?_⟩
  have h2 := h.2
  cases hp : xpAccess x with
  | true =>
    have : t.any xpAccess = true := List.any_eq_true.2 ⟨x, hx, hp⟩
    rw [this] at h2; cases h2
  | false =>
    unfold xpAccess at hp
    simp only [Bool.or_eq_false_iff, Bool.not_eq_false', Bool.and_eq_true, decide_eq_true_eq] at hp
    exact ⟨x.f1.toNat, by omega, by omega, by omega⟩
/-- The sizes of a policy are no more than a million. -/
def polLen (h : List (List Int)) (m : List Int) : Prop := h.length ≤ 1048576 ∧ (∀ x ∈ h, x.length ≤ 1048576) ∧ m.length ≤ 1048576
instance (h : List (List Int)) (m : List Int) : Decidable (polLen h m) := by unfold polLen; infer_instance
/-- The run of a cache, whole; what puts out behind it; what each question answers. -/
def cacheEnd (l0 : List (List Int)) (l1 : List Int) (back al : Bool) (t : List S37) : CacheV := runC l0 l1 back al 0 (t.map pairA) (startC l1.length)
def flushE (s : CacheV) : Int × List Int × List Bool := flushC s.cs s.cont 0 s.ws s.ds
def cacheOk (l0 : List (List Int)) (l1 : List Int) (t : List S37) : Bool := validB l0 l1 && traceB t
def readsV (l0 : List (List Int)) (l1 : List Int) (back al : Bool) (t : List S37) : List Int × Bool := if cacheOk l0 l1 t = true then ((cacheEnd l0 l1 back al t).rd, true) else ([], false)
def memoryV (l0 : List (List Int)) (l1 : List Int) (back al : Bool) (t : List S37) : List Int × Bool := if cacheOk l0 l1 t = true then ((flushE (cacheEnd l0 l1 back al t)).2.1, true) else ([], false)
end Go.Proofs.Ytdkpdpdaggnmhaa.PFnReads
