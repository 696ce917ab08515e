-- Printed by this session's own program (wip/tools/xprint.py) over the kit's print; not trusted: Lean checks it.
import Derived.Test.YtibdelappoefeaaPFnExactPairsOfx0
import Derived.Test.YtibdelappoefeaaPFnExactPairsOfx1
import Derived.Test.YtibdelappoefeaaPFnExactPairsOfx2
import Derived.Test.YtibdelappoefeaaPFnExactPairsOfx3
import Derived.Test.YtibdelappoefeaaPFnExactPairsOfx4
namespace Go.Proofs.Ytibdelappoefeaa.PFnExactPairsOf
open Go.RowKit Go.Proofs.YtibdelappoefeaaW.PrintWords Go.Proofs.YtibdelappoefeaaW.PrintLast Go.Proofs.YtibdelappoefeaaW.PrintMore
attribute [local go_sem] max2_int min2_int max_two min_two max_three min_three max_four min_four   -- for this text's walks alone
set_option linter.unusedVariables false
set_option linter.unusedSimpArgs false

/-! ### laws_FnExactPairsOf: function 12 -/
theorem in_impl (a b c : Int) : impl_inRange.f a b c = some (decide (b ≤ a) && decide (a ≤ c)) := by
  unfold impl_inRange.f
  by_cases h : b ≤ a <;> simp [h]
theorem in_spec (a b c : Int) : spec_l00In.f a b c = some (decide (b ≤ a) && decide (a ≤ c)) := by
  unfold spec_l00In.f
  by_cases h : b ≤ a <;> simp [h]
def okLoad (x : S81) : Bool := (decide (0 ≤ x.f0) && decide (x.f0 ≤ 3)) && (decide (0 ≤ x.f1) && decide (x.f1 ≤ 63))
theorem xpLoad_not (x : S81) : xpLoad x = !okLoad x := by
  unfold xpLoad okLoad
  cases decide (0 ≤ x.f0) <;> cases decide (x.f0 ≤ 3) <;> cases decide (0 ≤ x.f1) <;> cases decide (x.f1 ≤ 63) <;> rfl
theorem specLoads0_ev (l : List (S81)) (h : l.length ≤ 1048576) : Ev (fun k => spec_l09Loads.f k l) (decide (l.length ≤ 60) && !(l.any xpLoad)) := by
  unfold spec_l09Loads.f
  have key : ∀ i, i ≤ l.length → Ev (fun k => spec_l09Loads.l0 k l (i : Int)) (decide (l.length ≤ 60) && !((l.drop i).any xpLoad)) := by
    intro i hi
    obtain ⟨d, hd⟩ : ∃ d, l.length - i = d := ⟨_, rfl⟩
    induction d generalizing i with
    | zero =>
      obtain rfl : i = l.length := by omega
      refine Ev.succ ?_
      simp only [spec_l09Loads.l0]
      refine Ev.neg (by omega) (Ev.some ?_)
      simp
      omega
    | succ d ih =>
      refine Ev.succ ?_
      simp only [spec_l09Loads.l0, spec_l09Stream.f, spec_l03Address.f, in_spec, Option.bind_some]
      refine Ev.pos (by omega) (Ev.pos (by omega) ?_)
      have hc := drop_cons l i z81 (by omega)
      have hrd : rd_T81 l (i : Int) = l.getD i z81 := rfl
      rw [hrd]
      generalize l.getD i z81 = x at *
      rw [hc, List.any_cons, xpLoad_not]
      cases ha : (decide (0 ≤ x.f0) && decide (x.f0 ≤ 3)) with
      | false => exact Ev.neg (by simp) (Ev.some (by simp [okLoad, ha]))
      | true =>
        refine Ev.pos rfl ?_
        cases hb : (decide (0 ≤ x.f1) && decide (x.f1 ≤ 63)) with
        | false => exact Ev.neg (by simp) (Ev.some (by simp [okLoad, ha, hb]))
        | true =>
          refine Ev.pos rfl ?_
          rw [wrap_succ (show i < l.length by omega) (by omega)]
          have := ih (i + 1) (by omega) (by omega)
          simpa [okLoad, ha, hb] using this
  have := key 0 (Nat.zero_le _)
  simpa using this
/-- n rising numbers from a on. -/
def cnt (a : Int) (n : Nat) : List Int := (List.range n).map fun (j : Nat) => a + (j : Int)
theorem cnt_length (a : Int) (n : Nat) : (cnt a n).length = n := by simp [cnt]
theorem cnt_succ (a : Int) (n : Nat) : cnt a (n + 1) = cnt a n ++ [a + (n : Int)] := by simp [cnt, List.range_succ]
theorem cnt_getD (a : Int) (n i : Nat) (h : i < n) : (cnt a n).getD i 0 = a + (i : Int) := by
  simp [cnt, List.getD_eq_getElem?_getD, h]
theorem set_mark {α : Type} (A l : List α) (i : Nat) (v : α) (h : i = A.length) (hi : i < l.length) : (A ++ l.drop i).set i v = (A ++ [v]) ++ l.drop (i + 1) := by
  subst h
  rw [List.set_append_right _ _ (Nat.le_refl _), Nat.sub_self, List.drop_eq_getElem_cons hi, List.set_cons_zero]
  simp
def sumLen {α : Type} (l : List (List α)) : Nat := (l.map List.length).sum
theorem sumLen_cons {α : Type} (x : List α) (l : List (List α)) : sumLen (x :: l) = x.length + sumLen l := by simp [sumLen]
theorem sumLen_mem {α : Type} {l : List (List α)} {x : List α} (h : x ∈ l) : x.length ≤ sumLen l := by
  induction l with
  | nil => simp at h
  | cons y l ih =>
    rw [sumLen_cons]
    rcases List.mem_cons.1 h with rfl | h
    · omega
    · have := ih h; omega
theorem getD_mem {α : Type} (l : List α) (i : Nat) (z : α) (h : i < l.length) : l.getD i z ∈ l := by
  rw [getD_lt l i z h]; exact List.getElem_mem h
theorem sumLen_le {α : Type} (l : List (List α)) (m : Nat) (h : ∀ x ∈ l, x.length ≤ m) : sumLen l ≤ l.length * m := by
  induction l with
  | nil => simp [sumLen]
  | cons y l ih =>
    rw [sumLen_cons, List.length_cons, Nat.succ_mul]
    have h1 := h y List.mem_cons_self
    have h2 := ih (fun x hx => h x (List.mem_cons_of_mem _ hx))
    omega
theorem szLoadS_f (l : List S148) (a : Int) (h0 : 0 ≤ a) (h1 : a ≤ 1048576) (hl : l.length ≤ 9223372036854775807) : laws_szLoadS.f l a = some (if a < l.length then -1 else a - l.length) := by
  unfold laws_szLoadS.f
  rw [wrap_id (by omega) (by omega)]
  by_cases h : a < l.length
  · rw [if_pos (by omega), if_pos h]
  · rw [if_neg (by omega), if_neg h]
def cvLoad (x : S148) : S81 := ⟨x.f0, x.f1⟩
theorem toLoadS_ev (l : List S148) (h : l.length ≤ 1048576) : Ev (fun k => laws_toLoadS.f k l) (l.map cvLoad) := by
  unfold laws_toLoadS.f
  refine Ev.pos (by omega) (Ev.pos (by omega) ?_)
  refine Ev.upto (F := fun k s i => laws_toLoadS.l0 k l s i) (n := l.length) (r := l.map cvLoad) (fun i s => s = (l.take i).map cvLoad ++ List.replicate (l.length - i) z81) ?_ ?_ 0 (Nat.zero_le _) _ (by simp)
  · intro i s hi hs ih
    have hsl : s.length = l.length := by rw [hs]; simp; omega
    refine Ev.succ ?_
    simp only [laws_toLoadS.l0]
    refine Ev.pos (by omega) (Ev.pos (by omega) (Ev.bindc (a := ((rd_T148 l (i : Int)).f0, (rd_T148 l (i : Int)).f1)) rfl (Ev.pos (by omega) ?_)))
    rw [wrap_succ hi (by omega)]
    refine ih _ ?_
    rw [hs, Int.toNat_natCast]
    exact fill_next cvLoad l z81 z148 i hi _ rfl
  · intro s hs
    refine Ev.succ ?_
    simp only [laws_toLoadS.l0]
    exact Ev.neg (by omega) (Ev.some (by rw [hs]; simp))
theorem eqLoadS_ev (l : List S81) (h : l.length ≤ 1048576) : Ev (fun k => laws_eqLoadS.f k l l) true := by
  unfold laws_eqLoadS.f
  refine Ev.pos rfl ?_
  refine Ev.upto (F := fun k (_ : Unit) i => laws_eqLoadS.l0 k l l i) (n := l.length) (r := true) (fun _ _ => True) ?_ ?_ 0 (Nat.zero_le _) () trivial
  · intro i s hi _ ih
    refine Ev.succ ?_
    simp only [laws_eqLoadS.l0]
    refine Ev.pos (by omega) (Ev.pos (by omega) (Ev.pos (by omega) (Ev.bindc (a := true) (by simp [laws_eqLoad.f]) (Ev.pos rfl ?_))))
    rw [wrap_succ hi (by omega)]
    exact ih () trivial
  · intro s _
    refine Ev.succ ?_
    simp only [laws_eqLoadS.l0]
    exact Ev.neg (by omega) (Ev.some rfl)
theorem markLoadS_ev (l : List S81) (a : Int) (h : l.length ≤ 1048576) (h0 : 0 ≤ a) (h1 : a ≤ 1000000000000) : ∃ l' : List S81, Ev (fun k => laws_markLoadS.f k l a) (a + 2 * (l.length : Int), l') := by
  unfold laws_markLoadS.f
  have key : ∀ d i (y0 : List S81), l.length - i = d → i ≤ l.length → y0.length = l.length → ∃ l' : List S81, Ev (fun k => laws_markLoadS.l0 k y0 (a + 2 * (i : Int)) (i : Int)) (a + 2 * (l.length : Int), l') := by
    intro d
    induction d with
    | zero =>
      intro i s hd hi hs
      refine ⟨s, Ev.succ ?_⟩
      simp only [laws_markLoadS.l0]
      exact Ev.neg (by omega) (Ev.some (by rw [show i = l.length by omega]))
    | succ d ih =>
      intro i y0 hd hi hs
      let y1 := y0.set (i : Int).toNat (⟨a + 2 * (i : Int), (rd_T81 y0 (i : Int)).f1⟩ : S81)
      let y2 := y1.set (i : Int).toNat (⟨(rd_T81 y1 (i : Int)).f0, a + 2 * (i : Int) + 1⟩ : S81)
      obtain ⟨l', hl'⟩ := ih (i + 1) y2 (by omega) (by omega) (by simp only [y1, y2, List.length_set]; exact hs)
      refine ⟨l', Ev.succ ?_⟩
      simp only [laws_markLoadS.l0, Option.bind_some]
      refine Ev.pos (by omega) (Ev.pos (by omega) ?_)
      rw [wrap_succ (show i < l.length by omega) (by omega), wrap_id (x := a + 2 * (i : Int) + 1) (by omega) (by omega), wrap_id (x := a + 2 * (i : Int) + 1 + 1) (by omega) (by omega)]
      rw [show a + 2 * (i : Int) + 1 + 1 = a + 2 * ((i + 1 : Nat) : Int) by omega]
      exact hl'
  obtain ⟨l', hl'⟩ := key l.length 0 l (by omega) (by omega) rfl
  refine ⟨l', ?_⟩
  simpa using hl'
theorem eqInt64S_ev (l : List Int) (h : l.length ≤ 1048576) : Ev (fun k => laws_eqInt64S.f k l l) true := by
  unfold laws_eqInt64S.f
  refine Ev.pos rfl ?_
  refine Ev.upto (F := fun k (_ : Unit) i => laws_eqInt64S.l0 k l l i) (n := l.length) (r := true) (fun _ _ => True) ?_ ?_ 0 (Nat.zero_le _) () trivial
  · intro i s hi _ ih
    refine Ev.succ ?_
    simp only [laws_eqInt64S.l0]
    refine Ev.pos (by omega) (Ev.pos (by omega) (Ev.pos (by omega) (Ev.pos (by simp) ?_)))
    rw [wrap_succ hi (by omega)]
    exact ih () trivial
  · intro s _
    refine Ev.succ ?_
    simp only [laws_eqInt64S.l0]
    exact Ev.neg (by omega) (Ev.some rfl)
theorem eqInt64SS_ev (l : List (List Int)) (h : l.length ≤ 1048576) (hi : ∀ x ∈ l, x.length ≤ 1048576) : Ev (fun k => laws_eqInt64SS.f k l l) true := by
  unfold laws_eqInt64SS.f
  refine Ev.pos rfl ?_
  refine Ev.upto (F := fun k (_ : Unit) i => laws_eqInt64SS.l0 k l l i) (n := l.length) (r := true) (fun _ _ => True) ?_ ?_ 0 (Nat.zero_le _) () trivial
  · intro i s hi' _ ih
    refine Ev.succ ?_
    simp only [laws_eqInt64SS.l0]
    refine Ev.pos (by omega) (Ev.pos (by omega) (Ev.pos (by omega) (Ev.bind (eqInt64S_ev (l.getD i []) (hi _ (getD_mem l i [] hi'))) (Ev.pos rfl ?_))))
    rw [wrap_succ hi' (by omega)]
    exact ih () trivial
  · intro s _
    refine Ev.succ ?_
    simp only [laws_eqInt64SS.l0]
    exact Ev.neg (by omega) (Ev.some rfl)
theorem markInt64S_ev (l : List Int) (a : Int) (h : l.length ≤ 1048576) (h0 : 0 ≤ a) (h1 : a ≤ 1000000000000) : Ev (fun k => laws_markInt64S.f k l a) (a + (l.length : Int), cnt a l.length) := by
  unfold laws_markInt64S.f
  refine Ev.upto (F := fun k (s : List Int × Int) i => laws_markInt64S.l0 k s.1 s.2 i) (n := l.length) (r := (a + (l.length : Int), cnt a l.length)) (fun i s => s = (cnt a i ++ l.drop i, a + (i : Int))) ?_ ?_ 0 (Nat.zero_le _) (l, a) (by simp [cnt])
  · intro i s hi hs ih
    have hsl : (cnt a i ++ l.drop i).length = l.length := by simp [cnt_length]; omega
    refine Ev.succ ?_
    simp only [laws_markInt64S.l0, hs]
    refine Ev.pos (by omega) (Ev.pos (by omega) ?_)
    rw [wrap_succ hi (by omega), wrap_id (x := a + (i : Int) + 1) (by omega) (by omega)]
    refine ih (_, _) ?_
    rw [Int.toNat_natCast, set_mark _ _ _ _ (cnt_length a i).symm hi, cnt_succ]
    simp only [Prod.mk.injEq, true_and]
    omega
  · intro s hs
    have hsl : (cnt a l.length ++ l.drop l.length).length = l.length := by simp [cnt_length]
    refine Ev.succ ?_
    simp only [laws_markInt64S.l0, hs]
    exact Ev.neg (by omega) (Ev.some (by simp))
/-- The marks of a list of lists: numbers that rise from list to list. -/
def mkSS : List (List Int) → Int → List (List Int)
  | [], _ => []
  | x :: l, a => cnt a x.length :: mkSS l (a + (x.length : Int))
theorem mkSS_length (l : List (List Int)) : ∀ a, (mkSS l a).length = l.length := by
  induction l with
  | nil => intro a; rfl
  | cons x l ih => intro a; simp [mkSS, ih]
theorem mkSS_append (l m : List (List Int)) : ∀ a, mkSS (l ++ m) a = mkSS l a ++ mkSS m (a + (sumLen l : Int)) := by
  induction l with
  | nil => intro a; simp [mkSS, sumLen]
  | cons x l ih =>
    intro a
    have e : a + (x.length : Int) + (sumLen l : Int) = a + ((x.length + sumLen l : Nat) : Int) := by omega
    simp only [List.cons_append, mkSS, ih, sumLen_cons, e]
theorem sumLen_append {α : Type} (l m : List (List α)) : sumLen (l ++ m) = sumLen l + sumLen m := by simp [sumLen]
theorem mkSS_sum (l : List (List Int)) : ∀ a, sumLen (mkSS l a) = sumLen l := by
  induction l with
  | nil => intro a; rfl
  | cons x l ih => intro a; simp only [mkSS, sumLen_cons, ih, cnt_length]
theorem sumLen_take_le {α : Type} (l : List (List α)) (i : Nat) : sumLen (l.take i) ≤ sumLen l := by
  have h := sumLen_append (l.take i) (l.drop i)
  rw [List.take_append_drop] at h
  omega
set_option maxHeartbeats 800000 in
theorem markInt64SS_calls (v : Value) (l0 : List (List Int)) (a : Int) (lo hi : Nat) (w0 w : World) (hB : Below w0.heap.size w0 w) (hlo : w0.heap.size ≤ lo) (h0 : (nest (Kd.slice 2 (Kd.int .i64)) 25 v l0).P w lo hi)
    (hl : l0.length ≤ 1048576) (hr : ∀ x ∈ l0, x.length ≤ 1048576) (hs : sumLen l0 ≤ 1000000) (ha : 0 ≤ a) (ha1 : a ≤ 1000000) :
    Calls Try.prog 38 #[v, .int .i64 a] w fun e w' => e = .returned (.int .i64 (a + (sumLen l0 : Int))) ∧ (nest (Kd.slice 2 (Kd.int .i64)) 25 v (mkSS l0 a)).P w' lo hi ∧ Below w0.heap.size w0 w' ∧ Kept w w' (In lo hi) := by
  obtain ⟨A0, c0, rfl, hc0, _⟩ := nest_reads h0
  have HS0 := Aside0.mk h0
  have HB0 := Aside0.mk hB
  clear h0 hB
  go_enter Try.func38, Try.ntmps38
  go_wp2
  go_loopg [1, 5] l0.length (fun gg s1 s5 wr => ∃ kk : Nat, kk ≤ l0.length ∧ l0.length - kk ≤ gg ∧ s1 = .int .i64 (a + (sumLen (l0.take kk) : Int)) ∧ s5 = .int .i64 kk ∧ Aside0 (Below w0.heap.size w0 wr) ∧ Aside0 (Kept w wr (In lo hi)) ∧ Aside0 ((nest (Kd.slice 2 (Kd.int .i64)) 25 (.slice A0 l0.length c0) (mkSS (l0.take kk) a ++ l0.drop kk)).P wr lo hi))
  case atStart => exact ⟨0, Nat.zero_le _, by omega, by simp [sumLen], rfl, HB0, ⟨Kept.refl _ _⟩, by simpa [mkSS] using HS0⟩
  case round =>
    obtain ⟨kk, hkk, hg, rfl, rfl, BW, KW, SW⟩ := hrel
    by_cases hlt : kk < l0.length
    · have hltz : (kk : Int) < (l0.length : Int) := by omega
      have hlen : (mkSS (l0.take kk) a ++ l0.drop kk).length = l0.length := by simp [mkSS_length]; omega
      obtain ⟨A1, c1, e1, hc1, hC⟩ := nest_reads SW.out
      rw [hlen] at e1 hC
      injection e1 with e1 _ e2
      subst e1 e2
      have hrow : (mkSS (l0.take kk) a ++ l0.drop kk).getD kk [] = l0.getD kk [] := by
        rw [List.getD_eq_getElem?_getD, List.getElem?_append_right (by simp [mkSS_length]; omega)]
        simp [mkSS_length, Nat.min_eq_left (Nat.le_of_lt hlt), List.getD_eq_getElem?_getD]
      obtain ⟨ad, A1, c1, e, hx0, hle, hC1⟩ := at_row hC kk hlt
      subst e
      obtain ⟨g, rfl⟩ := Kd.R_head (Kd.S_R SW.out)
      obtain ⟨oki, c, hcl, hM, hcc, hoki, hH⟩ := Kd.S_lend SW.out [] (kk : Int) (by omega) hltz
      obtain ⟨vi, rfl, hRi⟩ := hM
      rw [Int.toNat_natCast] at hRi hcc
      have hcell := hcc 0 vi rfl
      have hvi : vi = .slice A1 ((mkSS (l0.take kk) a ++ l0.drop kk).getD kk []).length c1 := by
        have hx1 := hx0
        rw [add_plain] at hx1
        simp only [Kd.slice, Nat.mul_one, Nat.add_zero] at hcell
        rw [hcell] at hx1
        exact Option.some.inj hx1
      subst hvi
      rw [hrow] at hRi hx0
      rw [add_plain] at hx0
      obtain ⟨y, hy⟩ : ∃ y, y = l0.getD kk [] := ⟨_, rfl⟩
      rw [← hy] at hRi hx0
      have hyl : y.length ≤ 1048576 := by rw [hy]; exact hr _ (getD_mem l0 kk [] hlt)
      have htk : l0.take (kk + 1) = l0.take kk ++ [y] := by rw [take_succ l0 kk [] hlt, hy]
      have hsm : sumLen (l0.take (kk + 1)) = sumLen (l0.take kk) + y.length := by rw [htk, sumLen_append]; simp [sumLen]
      have hsb := sumLen_take_le l0 (kk + 1)
      obtain ⟨q, hq⟩ := (markInt64S_ev y (a + (sumLen (l0.take kk) : Int)) hyl (by omega) (by omega))
      have HM := Aside0.mk (hq q (Nat.le_refl _))
      have HR := Aside0.mk hRi
      have HH := Aside0.mk hH
      have HY := Aside0.mk hy
      have HO := Aside0.mk hoki
      clear hq hRi hH hy hoki hC1 hle hC
      go_wp2_with (go_at_call 111; refine (laws_markInt64S.calls q oki (.slice A1 y.length c1) y _ _ _ w0 _ BW.out (Kd.R_lower HR.out hlo) HM.out).mono ?_; rintro e w' ⟨rfl, hr', hb', hk'⟩)
      go_roundg (l0.length - (kk + 1))
      case measure => omega
      case rel =>
        refine ⟨kk + 1, by omega, by omega, by rw [hsm]; go_num, by go_num, ⟨hb'⟩, ⟨KW.out.then_ hk' (fun k hk => .inl (HO.out k hk).1)⟩, ⟨?_⟩⟩
        have hM' : (Kd.slice 2 (Kd.int .i64)).M w' lo oki (cnt (a + (sumLen (l0.take kk) : Int)) y.length) [.slice A1 ((mkSS (l0.take kk) a ++ l0.drop kk).getD kk []).length c1] := by
          refine ⟨_, rfl, ?_⟩
          rw [hrow, ← HY.out]
          exact Kd.R_reok rfl (Kd.R_raise (d := Kd.int .i64) (b := w0.heap.size) (b' := lo) (fun _ _ _ _ h => h) hr' (fun k hk => ((HO.out k (HR.out.1 k hk)).1).1)) (fun k hk => HR.out.1 k hk)
        have := Kd.H_back (Kd.H_kept HH.out hk' (fun k _ hn hs => hn hs)) hM' (fun k hk => hk)
        rw [Int.toNat_natCast, set_mark _ _ _ _ (by simp [mkSS_length]; omega) hlt] at this
        show Kd.S _ _ _ _ _ _ _
        rw [htk, mkSS_append]
        simpa [mkSS] using this
    · have hltz : ¬ (kk : Int) < (l0.length : Int) := by omega
      obtain rfl : kk = l0.length := by omega
      go_wp2
      go_ret
      refine ⟨by simp, ?_, BW.out, KW.out⟩
      simpa using SW.out
theorem heldInt64S_ev (n : Nat) (a : Int) (h : n ≤ 1048576) (h0 : 0 ≤ a) (h1 : a ≤ 1000000000000) : Ev (fun k => laws_heldInt64S.f k (cnt a n) a) (a + (n : Int)) := by
  unfold laws_heldInt64S.f
  have hl := cnt_length a n
  refine Ev.upto (F := fun k (s : Int) i => laws_heldInt64S.l0 k (cnt a n) s i) (n := n) (r := a + (n : Int)) (fun i s => s = a + (i : Int)) ?_ ?_ 0 (Nat.zero_le _) a (by simp)
  · intro i s hi hs ih
    refine Ev.succ ?_
    simp only [laws_heldInt64S.l0, hs]
    have hr : rd (cnt a n) (i : Int) = a + (i : Int) := by unfold rd; rw [Int.toNat_natCast, cnt_getD _ _ _ hi]
    refine Ev.pos (by omega) (Ev.pos (by omega) (Ev.pos hr ?_))
    rw [wrap_succ hi (by omega), wrap_id (x := a + (i : Int) + 1) (by omega) (by omega)]
    exact ih _ (by omega)
  · intro s hs
    refine Ev.succ ?_
    simp only [laws_heldInt64S.l0, hs]
    exact Ev.neg (by omega) (Ev.some rfl)
theorem heldInt64SS_ev (l : List (List Int)) (a : Int) (h : l.length ≤ 1048576) (hr : ∀ x ∈ l, x.length ≤ 1048576) (hs : sumLen l ≤ 1000000) (h0 : 0 ≤ a) (h1 : a ≤ 1000000) : Ev (fun k => laws_heldInt64SS.f k (mkSS l a) a) (a + (sumLen l : Int)) := by
  unfold laws_heldInt64SS.f
  have hl := mkSS_length l a
  refine Ev.upto (F := fun k (s : Int) i => laws_heldInt64SS.l0 k (mkSS l a) s i) (n := l.length) (r := a + (sumLen l : Int)) (fun i s => s = a + (sumLen (l.take i) : Int)) ?_ ?_ 0 (Nat.zero_le _) a (by simp [sumLen])
  · intro i s hi hs' ih
    have htk : l.take (i + 1) = l.take i ++ [l.getD i []] := take_succ l i [] hi
    have hsm : sumLen (l.take (i + 1)) = sumLen (l.take i) + (l.getD i []).length := by rw [htk, sumLen_append]; simp [sumLen]
    have hsb := sumLen_take_le l (i + 1)
    have hrow : (mkSS l a).getD i [] = cnt (a + (sumLen (l.take i) : Int)) (l.getD i []).length := by
      have e : l = l.take i ++ l.getD i [] :: l.drop (i + 1) := by rw [← drop_cons l i [] hi, List.take_append_drop]
      have e2 : mkSS l a = mkSS (l.take i) a ++ cnt (a + (sumLen (l.take i) : Int)) (l.getD i []).length :: mkSS (l.drop (i + 1)) (a + (sumLen (l.take i) : Int) + ((l.getD i []).length : Int)) := by
        conv => lhs; rw [e]
        rw [mkSS_append]
        rfl
      rw [e2, List.getD_eq_getElem?_getD, List.getElem?_append_right (by simp [mkSS_length]; omega)]
      simp [mkSS_length, Nat.min_eq_left (Nat.le_of_lt hi)]
    refine Ev.succ ?_
    simp only [laws_heldInt64SS.l0, hs']
    have hh := heldInt64S_ev (l.getD i []).length (a + (sumLen (l.take i) : Int)) (hr _ (getD_mem l i [] hi)) (by omega) (by omega)
    rw [← hrow] at hh
    refine Ev.pos (by omega) (Ev.pos (by omega) (Ev.bind hh (Ev.neg (by omega) ?_)))
    rw [wrap_succ hi (by omega)]
    exact ih _ (by omega)
  · intro s hs'
    refine Ev.succ ?_
    simp only [laws_heldInt64SS.l0, hs']
    exact Ev.neg (by omega) (Ev.some (by simp))
/-- The lines of a stream. -/
def linesL (l : List (S81)) (s : Int) : List Int := (l.filter fun x => decide (x.f0 = s)).map fun x => x.f1
theorem linesL_length (l : List (S81)) (s : Int) : (linesL l s).length ≤ l.length := by
  unfold linesL; rw [List.length_map]; exact List.length_filter_le _ _
theorem linesL_cons (x : S81) (l : List (S81)) (s : Int) : linesL (x :: l) s = if x.f0 = s then x.f1 :: linesL l s else linesL l s := by
  unfold linesL
  rw [List.filter_cons]
  by_cases h : x.f0 = s <;> simp [h]
theorem implLines_ev (l : List (S81)) (s : Int) (h : l.length ≤ 1048576) : Ev (fun k => impl_linesOf.f k l s) (linesL l s) := by
  unfold impl_linesOf.f
  have key : ∀ d i (acc : List Int), l.length - i = d → i ≤ l.length → acc.length ≤ i → Ev (fun k => impl_linesOf.l0 k s acc l (l.length : Int) (i : Int)) (acc ++ linesL (l.drop i) s) := by
    intro d
    induction d with
    | zero =>
      intro i acc hd hi ha
      refine Ev.succ ?_
      simp only [impl_linesOf.l0]
      refine Ev.neg (by omega) (Ev.some ?_)
      rw [List.drop_eq_nil_of_le (by omega)]
      simp [linesL]
    | succ d ih =>
      intro i acc hd hi ha
      refine Ev.succ ?_
      simp only [impl_linesOf.l0]
      refine Ev.pos (by omega) (Ev.pos (by omega) (Ev.pos (by omega) ?_))
      have hrd : rd_T81 l (i : Int) = l.getD i z81 := rfl
      rw [drop_cons l i z81 (by omega), linesL_cons, hrd, wrap_succ (show i < l.length by omega) (by omega)]
      by_cases hs : (l.getD i z81).f0 = s
      · refine Ev.pos hs (Ev.pos (by omega) ?_)
        rw [if_pos hs]
        have := ih (i + 1) (acc ++ [(l.getD i z81).f1]) (by omega) (by omega) (by simp; omega)
        simpa using this
      · refine Ev.neg hs ?_
        rw [if_neg hs]
        exact ih (i + 1) acc (by omega) (by omega) (by omega)
  have := key l.length 0 [] (by omega) (by omega) (by simp)
  simpa using this
theorem specLines_ev (l : List (S81)) (n : Nat) (s : Int) (h : l.length ≤ 1048576) (hn : n ≤ l.length) : Ev (fun k => spec_l09Of.f k l (n : Int) s) (linesL (l.take n) s) := by
  unfold spec_l09Of.f
  have key : ∀ d i (acc : List Int), n - i = d → i ≤ n → acc.length ≤ i → Ev (fun k => spec_l09Of.l0 k l (n : Int) s acc (i : Int)) (acc ++ linesL ((l.take n).drop i) s) := by
    intro d
    induction d with
    | zero =>
      intro i acc hd hi ha
      refine Ev.succ ?_
      simp only [spec_l09Of.l0]
      refine Ev.neg (by omega) (Ev.some ?_)
      rw [List.drop_eq_nil_of_le (by rw [List.length_take]; omega)]
      simp [linesL]
    | succ d ih =>
      intro i acc hd hi ha
      refine Ev.succ ?_
      simp only [spec_l09Of.l0]
      refine Ev.pos (by omega) (Ev.pos (by omega) (Ev.pos (by omega) ?_))
      have hrd : rd_T81 l (i : Int) = l.getD i z81 := rfl
      have hg : (l.take n).getD i z81 = l.getD i z81 := by
        rw [List.getD_eq_getElem?_getD, List.getD_eq_getElem?_getD, List.getElem?_take_of_lt (by omega)]
      rw [drop_cons (l.take n) i z81 (by rw [List.length_take]; omega), linesL_cons, hg, hrd, wrap_succ (show i < l.length by omega) (by omega)]
      by_cases hs : (l.getD i z81).f0 = s
      · refine Ev.pos hs (Ev.pos (by omega) ?_)
        rw [if_pos hs]
        have := ih (i + 1) (acc ++ [(l.getD i z81).f1]) (by omega) (by omega) (by simp; omega)
        simpa using this
      · refine Ev.neg hs ?_
        rw [if_neg hs]
        exact ih (i + 1) acc (by omega) (by omega) (by omega)
  have := key n 0 [] (by omega) (by omega) (by simp)
  simpa using this
/-- The line that followed the latest place before n of a line; -1 if there is none. -/
def follUp (l : List Int) (x : Int) : Nat → Int
  | 0 => -1
  | n + 1 => if rd l (n : Int) = x then rd l ((n + 1 : Nat) : Int) else follUp l x n
def follV (l : List Int) (x : Int) : Int := follUp l x (l.length - 1)
theorem specFoll_ev (l : List Int) (x : Int) (h : l.length ≤ 1048576) : Ev (fun k => spec_l09Follower.f k l x) (follV l x) := by
  unfold spec_l09Follower.f follV
  have key : ∀ n, n + 1 ≤ l.length → Ev (fun k => spec_l09Follower.l0 k l x ((n : Int) - 1)) (follUp l x n) := by
    intro n
    induction n with
    | zero =>
      intro _
      refine Ev.succ ?_
      simp only [spec_l09Follower.l0]
      exact Ev.neg (by omega) (Ev.some rfl)
    | succ n ih =>
      intro hn
      have e0 : ((n + 1 : Nat) : Int) - 1 = (n : Int) := by omega
      rw [e0]
      refine Ev.succ ?_
      simp only [spec_l09Follower.l0]
      refine Ev.pos (by omega) (Ev.pos (by omega) (Ev.pos (by omega) ?_))
      have e1 : wrap64 ((n : Int) + 1) = ((n + 1 : Nat) : Int) := wrap_succ (Nat.lt_succ_self n) (by omega)
      have e2 : wrap64 ((n : Int) - 1) = (n : Int) - 1 := wrap_id (by omega) (by omega)
      rw [e1, e2]
      unfold follUp
      by_cases hx : rd l (n : Int) = x
      · rw [if_pos hx]
        exact Ev.pos hx (Ev.pos (by omega) (Ev.pos (by omega) (Ev.some rfl)))
      · rw [if_neg hx]
        exact Ev.neg hx (ih (by omega))
  rcases Nat.eq_zero_or_pos l.length with h0 | h0
  · rw [wrap_id (by omega) (by omega), h0]
    refine Ev.succ ?_
    simp only [spec_l09Follower.l0]
    exact Ev.neg (by omega) (Ev.some rfl)
  · have := key (l.length - 1) (by omega)
    rw [wrap_id (by omega) (by omega)]
    rw [show (l.length : Int) - 2 = ((l.length - 1 : Nat) : Int) - 1 by omega]
    exact this
theorem foll_l0 (l : List Int) (x : Int) : ∀ k i, impl_follower.l0 k l x i = spec_l09Follower.l0 k l x i := by
  intro k
  induction k with
  | zero => intro i; rfl
  | succ k ih => intro i; simp only [impl_follower.l0, spec_l09Follower.l0, ih]
theorem implFoll_ev (l : List Int) (x : Int) (h : l.length ≤ 1048576) : Ev (fun k => impl_follower.f k l x) (follV l x) :=
  Ev.congr (fun k => show impl_follower.f k l x = spec_l09Follower.f k l x from foll_l0 l x k _) (specFoll_ev l x h)
def pairsOf (t s : List Int) : List (List Int) := (s.filter fun x => decide (follV t x ≥ 0)).map fun x => [x, follV t x]
theorem pairsOf_snoc (t s : List Int) (x : Int) : pairsOf t (s ++ [x]) = pairsOf t s ++ (if follV t x ≥ 0 then [[x, follV t x]] else []) := by
  unfold pairsOf
  rw [List.filter_append, List.map_append]
  congr 1
  by_cases h : follV t x ≥ 0 <;> simp [h]
theorem pairsOf_length (t s : List Int) : (pairsOf t s).length ≤ s.length := by
  unfold pairsOf
  rw [List.length_map]
  exact List.length_filter_le _ _
theorem implPairs_l0 (t S : List Int) (ht : t.length ≤ 1048576) (hs : S.length ≤ 1048576) : Ev (fun k => impl_PairsOf.l0 k t [] S (S.length : Int) 0) (pairsOf t S, true) := by
  refine Ev.upto (F := fun k (s : List (List Int)) i => impl_PairsOf.l0 k t s S (S.length : Int) i) (n := S.length) (r := (pairsOf t S, true)) (fun i s => s = pairsOf t (S.take i)) ?_ ?_ 0 (Nat.zero_le _) [] (by simp [pairsOf])
  · intro i s hi hs' ih
    have hsl : s.length ≤ i := by rw [hs']; exact Nat.le_trans (pairsOf_length _ _) (List.length_take_le _ _)
    have e : pairsOf t (S.take (i + 1)) = s ++ (if follV t (S.getD i 0) ≥ 0 then [[S.getD i 0, follV t (S.getD i 0)]] else []) := by
      rw [take_succ S i 0 hi, pairsOf_snoc, hs']
    refine Ev.succ ?_
    simp only [impl_PairsOf.l0]
    rw [wrap_succ hi (by omega)]
    refine Ev.pos (by omega) (Ev.pos (by omega) (Ev.pos (by omega) (Ev.bind (implFoll_ev t _ ht) ?_)))
    have er : rd S (i : Int) = S.getD i 0 := rfl
    rw [er]
    by_cases hp : follV t (S.getD i 0) ≥ 0
    · exact Ev.pos hp (Ev.pos (by omega) (ih _ (by rw [e, if_pos hp])))
    · exact Ev.neg hp (ih _ (by rw [e, if_neg hp, List.append_nil]))
  · intro s hs'
    refine Ev.succ ?_
    simp only [impl_PairsOf.l0]
    exact Ev.neg (by omega) (Ev.some (by rw [hs', List.take_length]))
def pairsR (l : List (S81)) (s : Int) : List (List Int) × Bool := if ((decide (l.length ≤ 60) && !(l.any xpLoad)) && (decide (0 ≤ s) && decide (s ≤ 3))) = true then (pairsOf (linesL l s) (setI (linesL l s)), true) else ([], false)
theorem implPairs_ev (l : List (S81)) (s : Int) (h : l.length ≤ 1048576) : Ev (fun k => impl_PairsOf.f k l s) (pairsR l s) := by
  unfold impl_PairsOf.f impl_ValidLoads.f impl_isStream.f pairsR
  rw [in_impl]
  cases hv : (decide (l.length ≤ 60) && !(l.any xpLoad)) with
  | false => exact Ev.bindc (a := false) rfl (Ev.neg (by simp) (Ev.succ (by simp only [impl_PairsOf.j0]; exact Ev.pos (by simp) (Ev.some (by simp)))))
  | true =>
    cases hs : (decide (0 ≤ s) && decide (s ≤ 3)) with
    | false => exact Ev.bindc (a := true) rfl (Ev.pos rfl (Ev.bindc (a := false) rfl (Ev.succ (by simp only [impl_PairsOf.j0]; exact Ev.pos (by simp) (Ev.some (by simp))))))
    | true =>
      have hl : (linesL l s).length ≤ 1048576 := Nat.le_trans (linesL_length _ _) h
      refine Ev.bindc (a := true) rfl (Ev.pos rfl (Ev.bindc (a := true) rfl (Ev.succ ?_)))
      simp only [impl_PairsOf.j0]
      refine Ev.neg (by simp) (Ev.bind (implLines_ev l s h) (Ev.bindc (a := setI (linesL l s)) (by unfold impl_setOf.f; rw [if_pos hl]) ?_))
      rw [if_pos (by rfl)]
      exact implPairs_l0 _ _ hl (Nat.le_trans (setI_le _) hl)
theorem mem_pairs_hit (t : List Int) (x : Int) : ∀ n, n ≤ t.length → follUp t x n ≥ 0 → x ∈ t := by
  intro n
  induction n with
  | zero => intro _ h; unfold follUp at h; omega
  | succ n ih =>
    intro hn h
    unfold follUp at h
    by_cases hx : rd t (n : Int) = x
    · rw [← hx]
      have e : rd t (n : Int) = t.getD n 0 := rfl
      rw [e, getD_lt t n 0 (by omega)]
      exact List.getElem_mem _
    · rw [if_neg hx] at h
      exact ih (by omega) h
theorem follV_mem (t : List Int) (x : Int) (h : follV t x ≥ 0) : x ∈ t := mem_pairs_hit t x _ (Nat.sub_le _ _) h
/-- The numbers 0 to n - 1. -/
def upTo (n : Nat) : List Int := (List.range n).map fun (j : Nat) => (j : Int)
theorem upTo_succ (n : Nat) : upTo (n + 1) = upTo n ++ [(n : Int)] := by simp [upTo, List.range_succ]
theorem upTo_length (n : Nat) : (upTo n).length = n := by simp [upTo]
theorem upTo_lt (n : Nat) : (upTo n).Pairwise (· < ·) := by
  unfold upTo
  rw [List.pairwise_map]
  exact List.Pairwise.imp (fun h => by omega) (List.pairwise_lt_range (n := n))
theorem pairs_same (t : List Int) (ht : ∀ x ∈ t, 0 ≤ x ∧ x ≤ 63) : pairsOf t (upTo 64) = pairsOf t (setI t) := by
  unfold pairsOf
  congr 1
  refine rising_ext (List.Pairwise.filter _ (upTo_lt 64)) (List.Pairwise.filter _ (setI_lt t)) (fun x => ?_)
  rw [List.mem_filter, List.mem_filter, mem_setI]
  constructor
  · rintro ⟨_, h⟩
    exact ⟨follV_mem t x (of_decide_eq_true h), h⟩
  · rintro ⟨hx, h⟩
    have := ht x hx
    refine ⟨List.mem_map.2 ⟨x.toNat, List.mem_range.2 (by omega), by omega⟩, h⟩
theorem specPairs_l0 (t : List Int) (ht : t.length ≤ 1048576) : Ev (fun k => spec_PairsOf.l0 k t [] 0) (pairsOf t (upTo 64), true) := by
  refine Ev.upto (F := fun k (s : List (List Int)) i => spec_PairsOf.l0 k t s i) (n := 64) (r := (pairsOf t (upTo 64), true)) (fun i s => s = pairsOf t (upTo i)) ?_ ?_ 0 (Nat.zero_le _) [] (by simp [pairsOf, upTo])
  · intro i s hi hs ih
    have hsl : s.length ≤ i := by rw [hs]; exact Nat.le_trans (pairsOf_length _ _) (by rw [upTo_length]; exact Nat.le_refl _)
    have e : pairsOf t (upTo (i + 1)) = s ++ (if follV t (i : Int) ≥ 0 then [[(i : Int), follV t (i : Int)]] else []) := by
      rw [upTo_succ, pairsOf_snoc, hs]
    refine Ev.succ ?_
    simp only [spec_PairsOf.l0]
    rw [wrap_succ hi (by omega)]
    refine Ev.pos (by omega) (Ev.bind (specFoll_ev t _ ht) ?_)
    by_cases hp : follV t (i : Int) ≥ 0
    · exact Ev.pos hp (Ev.pos (by omega) (ih _ (by rw [e, if_pos hp])))
    · exact Ev.neg hp (ih _ (by rw [e, if_neg hp, List.append_nil]))
  · intro s hs
    refine Ev.succ ?_
    simp only [spec_PairsOf.l0]
    exact Ev.neg (by omega) (Ev.some (by rw [hs]))
theorem specStream_f (a : Int) : spec_l09Stream.f a = some (decide (0 ≤ a) && decide (a ≤ 3)) := by
  unfold spec_l09Stream.f
  rw [in_spec]
  rfl
theorem okLoads_at (l : List (S81)) (hv : (l.any xpLoad) = false) (x : S81) (hx : x ∈ l) : 0 ≤ x.f1 ∧ x.f1 ≤ 63 := by
  have h := List.any_eq_false.1 hv x hx
  unfold xpLoad at h
  simp only [Bool.or_eq_true, Bool.not_eq_true', Bool.and_eq_false_iff, decide_eq_false_iff_not] at h
  omega
theorem linesL_ok (l : List (S81)) (s : Int) (h : ∀ x ∈ l, 0 ≤ x.f1 ∧ x.f1 ≤ 63) : ∀ y ∈ linesL l s, 0 ≤ y ∧ y ≤ 63 := by
  intro y hy
  unfold linesL at hy
  obtain ⟨x, hx, rfl⟩ := List.mem_map.1 hy
  exact h x (List.mem_filter.1 hx).1
theorem specPairs_ev (l : List (S81)) (s : Int) (h : l.length ≤ 1048576) : Ev (fun k => spec_PairsOf.f k l s) (pairsR l s) := by
  unfold spec_PairsOf.f pairsR
  cases hv : (decide (l.length ≤ 60) && !(l.any xpLoad)) with
  | false => exact Ev.bind (specLoads0_ev l h) (Ev.neg (by rw [hv]; simp) (Ev.succ (by simp only [spec_PairsOf.j0]; exact Ev.pos (by simp) (Ev.some (by simp)))))
  | true =>
    cases hs : (decide (0 ≤ s) && decide (s ≤ 3)) with
    | false => exact Ev.bind (specLoads0_ev l h) (Ev.pos hv (Ev.bindc ((specStream_f s).trans (congrArg some hs)) (Ev.succ (by simp only [spec_PairsOf.j0]; exact Ev.pos (by simp) (Ev.some (by simp))))))
    | true =>
      have hl : (linesL l s).length ≤ 1048576 := Nat.le_trans (linesL_length _ _) h
      refine Ev.bind (specLoads0_ev l h) (Ev.pos hv (Ev.bindc ((specStream_f s).trans (congrArg some hs)) (Ev.succ ?_)))
      simp only [spec_PairsOf.j0]
      have e := specLines_ev l l.length s h (Nat.le_refl _)
      rw [List.take_length] at e
      refine Ev.neg (by simp) (Ev.bind e ?_)
      rw [if_pos (by rfl)]
      have hany : (l.any xpLoad) = false := by
        rw [Bool.and_eq_true, Bool.not_eq_true'] at hv
        exact hv.2
      rw [← pairs_same (linesL l s) (linesL_ok l s (okLoads_at l hany))]
      exact specPairs_l0 _ hl
theorem pairsR_length (l : List (S81)) (s : Int) : (pairsR l s).1.length ≤ 60 ∧ ∀ x ∈ (pairsR l s).1, x.length ≤ 2 := by
  unfold pairsR
  split
  · rename_i hc
    rw [Bool.and_eq_true, Bool.and_eq_true] at hc
    have hl := of_decide_eq_true hc.1.1
    refine ⟨Nat.le_trans (pairsOf_length _ _) (Nat.le_trans (setI_le _) (Nat.le_trans (linesL_length _ _) hl)), fun x hx => ?_⟩
    unfold pairsOf at hx
    obtain ⟨y, _, rfl⟩ := List.mem_map.1 hx
    simp
  · exact ⟨by simp, fun x hx => by simp at hx⟩
theorem st_szLoadS {w0 W : World} {L : List (Thing × Nat × Nat)} {A : Option Addr} {c : Nat} {l : List S148} {a r : Int} (h : St w0 W L) (hr : Kd.C k148 w0 A l.length l) (hc : l.length ≤ c) (he : laws_szLoadS.f l a = some r) :
    Calls Try.prog 30 #[.slice A l.length c, .int .i64 a] W fun e w' => e = .returned (.int .i64 r) ∧ St w0 w' L := by
  refine (laws_szLoadS.calls A c l a r W (Kd.C_below hr h.below) hc he).mono ?_
  rintro e w' ⟨rfl, hb⟩
  exact ⟨rfl, by first | exact h.step hb | exact h.step hb.below⟩
theorem st_toLoadS {w0 W : World} {L : List (Thing × Nat × Nat)} {A : Option Addr} {c : Nat} {l : List S148} {r : List S81} (h : St w0 W L) (hr : Kd.C k148 w0 A l.length l) (hc : l.length ≤ c) (he : Ev (fun k => laws_toLoadS.f k l) r) :
    Calls Try.prog 33 #[.slice A l.length c] W fun e w' => ∃ v lo hi, e = .returned v ∧ St w0 w' ((flat k81 81 v r, lo, hi) :: L) := by
  obtain ⟨k, hk⟩ := he
  refine (laws_toLoadS.calls k A c l r W (Kd.C_below hr h.below) hc (hk k (Nat.le_refl _))).mono ?_
  rintro e w' ⟨v, rfl, hr', hb⟩
  exact ⟨v, _, _, rfl, h.add hb (flat_new hr')⟩
theorem st_eqLoadS {w0 W : World} {L : List (Thing × Nat × Nat)} {v1 v2 : Value} {l : List S81} {lo1 hi1 lo2 hi2 : Nat} {b : Bool} (h : St w0 W L) (h1 : (flat k81 81 v1 l, lo1, hi1) ∈ L) (h2 : (flat k81 81 v2 l, lo2, hi2) ∈ L) (he : Ev (fun k => laws_eqLoadS.f k l l) b) :
    Calls Try.prog 36 #[v1, v2] W fun e w' => e = .returned (.bool b) ∧ St w0 w' L := by
  obtain ⟨A1, c1, rfl, hc1, hC1⟩ := flat_reads (h.get h1).1
  obtain ⟨A2, c2, rfl, hc2, hC2⟩ := flat_reads (h.get h2).1
  obtain ⟨k, hk⟩ := he
  refine (laws_eqLoadS.calls k A1 c1 l A2 c2 l b W hC1 hc1 hC2 hc2 (hk k (Nat.le_refl _))).mono ?_
  rintro e w' ⟨rfl, hb⟩
  exact ⟨rfl, by first | exact h.step hb | exact h.step hb.below⟩
theorem st_markLoadS {w0 W : World} {L L' : List (Thing × Nat × Nat)} {v : Value} {l l' : List S81} {a r : Int} {lo hi : Nat} (h : St w0 W L) (u : Upd (flat k81 81 v l) (flat k81 81 v l') lo hi L L') (he : Ev (fun k => laws_markLoadS.f k l a) (r, l')) :
    Calls Try.prog 37 #[v, .int .i64 a] W fun e w' => e = .returned (.int .i64 r) ∧ St w0 w' L' := by
  obtain ⟨hp, hlo, _, _⟩ := h.get u.mem
  obtain ⟨k, hk⟩ := he
  refine (laws_markLoadS.calls k (fun k_ => some k_ = v.ownBlock) v l a r l' w0 W h.below (Kd.R_lower (Kd.R_tight rfl hp) hlo) (hk k (Nat.le_refl _))).mono ?_
  rintro e w' ⟨rfl, hr', hb, hk'⟩
  exact ⟨rfl, h.upd u hb (hk'.mono (fun k e => hp.1 k e.symm)) (flat_marked (b := w0.heap.size) rfl (fun _ _ _ _ h => h) hp hr')⟩
theorem st_eqInt64S {w0 W : World} {L : List (Thing × Nat × Nat)} {v1 v2 : Value} {l : List Int} {lo1 hi1 lo2 hi2 : Nat} {b : Bool} (h : St w0 W L) (h1 : (flat (Kd.int .i64) 2 v1 l, lo1, hi1) ∈ L) (h2 : (flat (Kd.int .i64) 2 v2 l, lo2, hi2) ∈ L) (he : Ev (fun k => laws_eqInt64S.f k l l) b) :
    Calls Try.prog 109 #[v1, v2] W fun e w' => e = .returned (.bool b) ∧ St w0 w' L := by
  obtain ⟨A1, c1, rfl, hc1, hC1⟩ := flat_reads (h.get h1).1
  obtain ⟨A2, c2, rfl, hc2, hC2⟩ := flat_reads (h.get h2).1
  obtain ⟨k, hk⟩ := he
  refine (laws_eqInt64S.calls k A1 c1 l A2 c2 l b W hC1 hc1 hC2 hc2 (hk k (Nat.le_refl _))).mono ?_
  rintro e w' ⟨rfl, hb⟩
  exact ⟨rfl, by first | exact h.step hb | exact h.step hb.below⟩
theorem st_markInt64S {w0 W : World} {L L' : List (Thing × Nat × Nat)} {v : Value} {l l' : List Int} {a r : Int} {lo hi : Nat} (h : St w0 W L) (u : Upd (flat (Kd.int .i64) 2 v l) (flat (Kd.int .i64) 2 v l') lo hi L L') (he : Ev (fun k => laws_markInt64S.f k l a) (r, l')) :
    Calls Try.prog 111 #[v, .int .i64 a] W fun e w' => e = .returned (.int .i64 r) ∧ St w0 w' L' := by
  obtain ⟨hp, hlo, _, _⟩ := h.get u.mem
  obtain ⟨k, hk⟩ := he
  refine (laws_markInt64S.calls k (fun k_ => some k_ = v.ownBlock) v l a r l' w0 W h.below (Kd.R_lower (Kd.R_tight rfl hp) hlo) (hk k (Nat.le_refl _))).mono ?_
  rintro e w' ⟨rfl, hr', hb, hk'⟩
  exact ⟨rfl, h.upd u hb (hk'.mono (fun k e => hp.1 k e.symm)) (flat_marked (b := w0.heap.size) rfl (fun _ _ _ _ h => h) hp hr')⟩
theorem st_heldInt64S {w0 W : World} {L : List (Thing × Nat × Nat)} {v : Value} {l : List Int} {a r : Int} {lo hi : Nat} (h : St w0 W L) (h1 : (flat (Kd.int .i64) 2 v l, lo, hi) ∈ L) (he : Ev (fun k => laws_heldInt64S.f k l a) r) :
    Calls Try.prog 112 #[v, .int .i64 a] W fun e w' => e = .returned (.int .i64 r) ∧ St w0 w' L := by
  obtain ⟨A1, c1, rfl, hc1, hC1⟩ := flat_reads (h.get h1).1
  obtain ⟨k, hk⟩ := he
  refine (laws_heldInt64S.calls k A1 c1 l a r W hC1 hc1 (hk k (Nat.le_refl _))).mono ?_
  rintro e w' ⟨rfl, hb⟩
  exact ⟨rfl, by first | exact h.step hb | exact h.step hb.below⟩
theorem st_eqInt64SS {w0 W : World} {L : List (Thing × Nat × Nat)} {v1 v2 : Value} {l : List (List Int)} {lo1 hi1 lo2 hi2 : Nat} {b : Bool} (h : St w0 W L) (h1 : (nest (Kd.slice 2 (Kd.int .i64)) 25 v1 l, lo1, hi1) ∈ L) (h2 : (nest (Kd.slice 2 (Kd.int .i64)) 25 v2 l, lo2, hi2) ∈ L) (he : Ev (fun k => laws_eqInt64SS.f k l l) b) :
    Calls Try.prog 35 #[v1, v2] W fun e w' => e = .returned (.bool b) ∧ St w0 w' L := by
  obtain ⟨A1, c1, rfl, hc1, hC1⟩ := nest_reads (h.get h1).1
  obtain ⟨A2, c2, rfl, hc2, hC2⟩ := nest_reads (h.get h2).1
  obtain ⟨k, hk⟩ := he
  refine (laws_eqInt64SS.calls k A1 c1 l A2 c2 l b W hC1 hc1 hC2 hc2 (hk k (Nat.le_refl _))).mono ?_
  rintro e w' ⟨rfl, hb⟩
  exact ⟨rfl, by first | exact h.step hb | exact h.step hb.below⟩
theorem st_markInt64SS {w0 W : World} {L L' : List (Thing × Nat × Nat)} {v : Value} {l : List (List Int)} {a : Int} {lo hi : Nat} (h : St w0 W L) (u : Upd (nest (Kd.slice 2 (Kd.int .i64)) 25 v l) (nest (Kd.slice 2 (Kd.int .i64)) 25 v (mkSS l a)) lo hi L L')
    (hl : l.length ≤ 1048576) (hr : ∀ x ∈ l, x.length ≤ 1048576) (hs : sumLen l ≤ 1000000) (ha : 0 ≤ a) (ha1 : a ≤ 1000000) :
    Calls Try.prog 38 #[v, .int .i64 a] W fun e w' => e = .returned (.int .i64 (a + (sumLen l : Int))) ∧ St w0 w' L' := by
  obtain ⟨hp, hlo, _, _⟩ := h.get u.mem
  refine (markInt64SS_calls v l a lo hi w0 W h.below hlo hp hl hr hs ha ha1).mono ?_
  rintro e w' ⟨rfl, hp', hb, hk'⟩
  exact ⟨rfl, h.upd u hb hk' hp'⟩
theorem st_heldInt64SS {w0 W : World} {L : List (Thing × Nat × Nat)} {v : Value} {l : List (List Int)} {a r : Int} {lo hi : Nat} (h : St w0 W L) (h1 : (nest (Kd.slice 2 (Kd.int .i64)) 25 v l, lo, hi) ∈ L) (he : Ev (fun k => laws_heldInt64SS.f k l a) r) :
    Calls Try.prog 39 #[v, .int .i64 a] W fun e w' => e = .returned (.int .i64 r) ∧ St w0 w' L := by
  obtain ⟨A1, c1, rfl, hc1, hC1⟩ := nest_reads (h.get h1).1
  obtain ⟨k, hk⟩ := he
  refine (laws_heldInt64SS.calls k A1 c1 l a r W hC1 hc1 (hk k (Nat.le_refl _))).mono ?_
  rintro e w' ⟨rfl, hb⟩
  exact ⟨rfl, by first | exact h.step hb | exact h.step hb.below⟩
theorem st_specX {w0 W : World} {L : List (Thing × Nat × Nat)} {v1 : Value} {l1 : List S81} {lo1 hi1 : Nat} {a0 : Int} {r : List (List Int)} {b : Bool} (h : St w0 W L) (h1 : (flat k81 81 v1 l1, lo1, hi1) ∈ L) (he : Ev (fun k => spec_PairsOf.f k l1 a0) (r, b)) :
    Calls Try.prog 70 #[v1, .int .i64 a0] W fun e w' => ∃ v lo hi, e = .returned (.tuple #[v, .bool b]) ∧ St w0 w' ((nest (Kd.slice 2 (Kd.int .i64)) 25 v r, lo, hi) :: L) := by
  obtain ⟨A1, c1, rfl, hc1, hC1⟩ := flat_reads (h.get h1).1
  obtain ⟨k, hk⟩ := he
  refine (spec_PairsOf.calls k A1 c1 l1 a0 r b W hC1 hc1 (hk k (Nat.le_refl _))).mono ?_
  rintro e w' ⟨v, rfl, hr', hb⟩
  exact ⟨v, _, _, rfl, h.add hb (nest_new hr')⟩
theorem st_implX {w0 W : World} {L : List (Thing × Nat × Nat)} {v1 : Value} {l1 : List S81} {lo1 hi1 : Nat} {a0 : Int} {r : List (List Int)} {b : Bool} (h : St w0 W L) (h1 : (flat k81 81 v1 l1, lo1, hi1) ∈ L) (he : Ev (fun k => impl_PairsOf.f k l1 a0) (r, b)) :
    Calls Try.prog 69 #[v1, .int .i64 a0] W fun e w' => ∃ v lo hi, e = .returned (.tuple #[v, .bool b]) ∧ St w0 w' ((nest (Kd.slice 2 (Kd.int .i64)) 25 v r, lo, hi) :: L) := by
  obtain ⟨A1, c1, rfl, hc1, hC1⟩ := flat_reads (h.get h1).1
  obtain ⟨k, hk⟩ := he
  refine (impl_PairsOf.calls k A1 c1 l1 a0 r b W hC1 hc1 (hk k (Nat.le_refl _))).mono ?_
  rintro e w' ⟨v, rfl, hr', hb⟩
  exact ⟨v, _, _, rfl, h.add hb (nest_new hr')⟩
set_option maxHeartbeats 4000000 in
theorem big (a0 : Int) (A1 : Option Addr) (c1 : Nat) (l1 : List S148) (w : World) (hr1 : Kd.C k148 w A1 l1.length l1) (hc1 : l1.length ≤ c1) (z : Int) (hz : decide (z < 0) = true) (hs1 : laws_szLoadS.f l1 1048576 = some z) :
    Calls Try.prog 12 #[.slice A1 l1.length c1, .int .i64 a0] w fun e w' => e = .returned (.bool true) ∧ Below w.heap.size w w' := by
  have HR1 := Aside0.mk hr1
  have HC1 := Aside0.mk hc1
  have HZ1 := Aside0.mk hs1
  have HS := St.start w
  clear hr1 hc1 hs1
  go_enter Try.func12, Try.ntmps12
  go_wp2_with (go_at_call 30; refine (st_szLoadS (w0 := w) (L := []) ?hs HR1.out HC1.out HZ1.out).mono ?_; (case hs => repeat (first | exact HS | refine St.alloc ?_ _ | refine St.drewN ?_ _ | refine St.drew ?_)); rintro e w' ⟨rfl, HS⟩)
  go_ret
  exact ⟨rfl, HS.below⟩
set_option maxHeartbeats 4000000 in
theorem walk (a0 : Int) (A1 : Option Addr) (c1 : Nat) (l1 : List S148) (w : World) (hr1 : Kd.C k148 w A1 l1.length l1) (hc1 : l1.length ≤ c1) (z : Int) (hz : decide (z < 0) = false) (hs1 : laws_szLoadS.f l1 1048576 = some z)
    (x1 x1' : List S81) (r : List (List Int)) (b : Bool) (m : Int) (hm : decide (m < 0) = false) (q : Int) (hq : decide (q < 0) = false)
    (hto : Ev (fun k => laws_toLoadS.f k l1) x1) (hsp : Ev (fun k => spec_PairsOf.f k x1 a0) (r, b)) (him : Ev (fun k => impl_PairsOf.f k x1 a0) (r, b))
    (he1 : Ev (fun k => laws_eqLoadS.f k x1 x1) true) (he0 : Ev (fun k => laws_eqInt64SS.f k r r) true) (hmk : Ev (fun k => laws_markLoadS.f k x1 1) (m, x1'))
    (hl : r.length ≤ 1048576) (hr : ∀ x ∈ r, x.length ≤ 1048576) (hs : sumLen r ≤ 1000000) (hqe : 1 + (sumLen r : Int) = q) :
    Calls Try.prog 12 #[.slice A1 l1.length c1, .int .i64 a0] w fun e w' => e = .returned (.bool true) ∧ Below w.heap.size w w' := by
  have HR1 := Aside0.mk hr1
  have HC1 := Aside0.mk hc1
  have HZ1 := Aside0.mk hs1
  have TO1 := Aside0.mk hto
  have SP := Aside0.mk hsp
  have IM := Aside0.mk him
  have EQ1 := Aside0.mk he1
  have EQ0 := Aside0.mk he0
  have MK1 := Aside0.mk hmk
  have HL := Aside0.mk hl
  have HRR := Aside0.mk hr
  have HSS := Aside0.mk hs
  have HD := heldInt64SS_ev r 1 hl hr hs (by omega) (by omega)
  rw [hqe] at HD
  have HD := Aside0.mk HD
  have HQE := Aside0.mk hqe
  have HS := St.start w
  clear hr1 hc1 hs1 hto hsp him he1 he0 hmk hl hr hs hqe
  go_enter Try.func12, Try.ntmps12
  go_wp2_with (first
    | (go_at_call 30; refine (st_szLoadS (w0 := w) (L := []) (by repeat (first | exact HS | refine St.alloc ?_ _ | refine St.drewN ?_ _ | refine St.drew ?_)) HR1.out HC1.out HZ1.out).mono ?_; rintro e w' ⟨rfl, HS⟩)
    | (go_at_call 33; refine (st_toLoadS (w0 := w) (by repeat (first | exact HS | refine St.alloc ?_ _ | refine St.drewN ?_ _ | refine St.drew ?_)) HR1.out HC1.out TO1.out).mono ?_; rintro e w' ⟨v, lo, hi, rfl, HS⟩)
    | (go_at_call 70; refine (st_specX (w0 := w) (by repeat (first | exact HS | refine St.alloc ?_ _ | refine St.drewN ?_ _ | refine St.drew ?_)) (by repeat (first | with_reducible exact List.mem_cons_self | refine List.mem_cons_of_mem _ ?_)) SP.out).mono ?_; rintro e w' ⟨v, lo, hi, rfl, HS⟩)
    | (go_at_call 69; refine (st_implX (w0 := w) (by repeat (first | exact HS | refine St.alloc ?_ _ | refine St.drewN ?_ _ | refine St.drew ?_)) (by repeat (first | with_reducible exact List.mem_cons_self | refine List.mem_cons_of_mem _ ?_)) IM.out).mono ?_; rintro e w' ⟨v, lo, hi, rfl, HS⟩)
    | (go_at_call 36; refine (st_eqLoadS (w0 := w) (by repeat (first | exact HS | refine St.alloc ?_ _ | refine St.drewN ?_ _ | refine St.drew ?_)) (by repeat (first | with_reducible exact List.mem_cons_self | refine List.mem_cons_of_mem _ ?_)) (by repeat (first | with_reducible exact List.mem_cons_self | refine List.mem_cons_of_mem _ ?_)) EQ1.out).mono ?_; rintro e w' ⟨rfl, HS⟩)
    | (go_at_call 35; refine (st_eqInt64SS (w0 := w) (by repeat (first | exact HS | refine St.alloc ?_ _ | refine St.drewN ?_ _ | refine St.drew ?_)) (by repeat (first | with_reducible exact List.mem_cons_self | refine List.mem_cons_of_mem _ ?_)) (by repeat (first | with_reducible exact List.mem_cons_self | refine List.mem_cons_of_mem _ ?_)) EQ0.out).mono ?_; rintro e w' ⟨rfl, HS⟩)
    | (go_at_call 37; refine (st_markLoadS (w0 := w) (by repeat (first | exact HS | refine St.alloc ?_ _ | refine St.drewN ?_ _ | refine St.drew ?_)) (by repeat (first | with_reducible exact Upd.here | apply Upd.there)) MK1.out).mono ?_; rintro e w' ⟨rfl, HS⟩)
    | (go_at_call 38; refine (st_markInt64SS (w0 := w) (l := r) (by repeat (first | exact HS | refine St.alloc ?_ _ | refine St.drewN ?_ _ | refine St.drew ?_)) (by repeat (first | with_reducible exact Upd.here | apply Upd.there)) HL.out HRR.out HSS.out (by decide) (by decide)).mono ?_; rw [HQE.out]; rintro e w' ⟨rfl, HS⟩)
    | (go_at_call 39; refine (st_heldInt64SS (w0 := w) (by repeat (first | exact HS | refine St.alloc ?_ _ | refine St.drewN ?_ _ | refine St.drew ?_)) (by repeat (first | with_reducible exact List.mem_cons_self | refine List.mem_cons_of_mem _ ?_)) HD.out).mono ?_; rintro e w' ⟨rfl, HS⟩))
  go_ret
  exact ⟨rfl, HS.below⟩
def laws_FnExactPairsOf.f (l1 : List (S148)) (a0 : Int) : Option Bool := some true
theorem laws_FnExactPairsOf.calls (A1 : Option Addr) (c1 : Nat) (l1 : List (S148)) (a0 : Int) (r : Bool) (w : World) (hr1 : Kd.C k148 w A1 l1.length l1) (hc1 : l1.length ≤ c1) (h : laws_FnExactPairsOf.f l1 a0 = some r) :
    Calls Try.prog 12 #[.slice A1 l1.length c1, .int .i64 a0] w fun e w' => e = .returned (.bool r) ∧ Below w.heap.size w w' := by
  obtain rfl := Option.some.inj h
  have hz := szLoadS_f l1 1048576 (by omega) (by omega) hr1.2.1
  by_cases hb : (1048576 : Int) < l1.length
  · rw [if_pos hb] at hz
    exact big _ A1 c1 l1 w hr1 hc1 (-1) (by decide) hz
  · rw [if_neg hb] at hz
    have hn : l1.length ≤ 1048576 := by omega
    have hm : (l1.map cvLoad).length ≤ 1048576 := by simpa using hn
    obtain ⟨l', h6⟩ := markLoadS_ev (l1.map cvLoad) 1 hm (by omega) (by omega)
    obtain ⟨hg1, hg2⟩ := pairsR_length (l1.map cvLoad) a0
    have hg3 := sumLen_le _ 2 hg2
    obtain ⟨⟨a, b⟩, hab⟩ : ∃ q, q = pairsR (l1.map cvLoad) a0 := ⟨_, rfl⟩
    have h2 := specPairs_ev (l1.map cvLoad) a0 hm
    have h3 := implPairs_ev (l1.map cvLoad) a0 hm
    rw [← hab] at h2 h3 hg1 hg2 hg3
    simp only at hg1 hg2 hg3
    have hr : ∀ x ∈ a, x.length ≤ 1048576 := fun x hx => by have := hg2 x hx; omega
    exact walk _ A1 c1 l1 w hr1 hc1 _ (decide_eq_false (by omega)) hz (l1.map cvLoad) l' a b _ (decide_eq_false (by simp; omega)) _ (decide_eq_false (by omega)) (toLoadS_ev l1 hn) h2 h3 (eqLoadS_ev _ hm) (eqInt64SS_ev a (by omega) hr) h6 (by omega) hr (by omega) rfl

/-- THE ONE PURE STATEMENT of laws_FnExactPairsOf. -/
def laws_FnExactPairsOf.Pure : Prop := ∀ (l0 : List (S148)) (a1 : Int), (l0.length ≤ 9223372036854775807 ∧ ∀ le0 ∈ l0, True) → (Lit.int .i64 a1).wf = true → laws_FnExactPairsOf.f l0 a1 = some true

end Go.Proofs.Ytibdelappoefeaa.PFnExactPairsOf
