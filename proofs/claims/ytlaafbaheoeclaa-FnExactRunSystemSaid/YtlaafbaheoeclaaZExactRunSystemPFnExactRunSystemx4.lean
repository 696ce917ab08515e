-- Printed by this session's own program (wip/tools/xprint.py) over the kit's print; not trusted: Lean checks it.
import Derived.Test.YtlaafbaheoeclaaZExactRunSystemPFnExactRunSystemx0
import Derived.Test.YtlaafbaheoeclaaZExactRunSystemPFnExactRunSystemx3
namespace Go.Proofs.Ytlaafbaheoeclaa.PFnExactRunSystem
open Go.RowKit Go.Proofs.YtlaafbaheoeclaaW.PrintWords Go.Proofs.YtlaafbaheoeclaaW.PrintLast Go.Proofs.YtlaafbaheoeclaaW.PrintMore
attribute [local go_sem] max2_int min2_int max_two min_two max_three min_three max_four min_four   -- for this text's walks alone
set_option linter.unusedVariables false
set_option linter.unusedSimpArgs false

/-! ### impl_ValidProtocol: function 64 -/
/-- What the closure ValidProtocol$1 says of an element. -/
def xpRule (x : S58) : Bool := !(decide (0 ≤ x.f0) && decide (x.f0 ≤ 3)) || !(decide (0 ≤ x.f1) && decide (x.f1 ≤ 3))
theorem xpRule_f (x : S58) : impl_ValidProtocol_1.f x.f0 x.f1 x.f2 = some (xpRule x) := by
  unfold impl_ValidProtocol_1.f impl_isCopy.f impl_inRange.f xpRule
  by_cases a : 0 ≤ x.f0 <;> by_cases b : x.f0 ≤ 3 <;> by_cases c : 0 ≤ x.f1 <;> by_cases d : x.f1 ≤ 3 <;> simp [a, b, c, d]
set_option maxHeartbeats 400000 in
theorem xIdxRule (A0 : Option Addr) (c0 : Nat) (l0 : List (S58)) (w : World) (hr0 : Kd.C k58 w A0 l0.length l0) :
    Calls Try.prog 113 #[.slice A0 l0.length c0, .func (.func 97) #[] #[]] w fun e w' => e = .returned (.int .i64 (xIdx xpRule l0 0)) ∧ Below w.heap.size w w' := by
  have HR0 := Aside0.mk hr0
  have hbig := hr0.2.1
  clear hr0
  go_enter Try.func113, Try.ntmps113
  go_wp2
  go_loopg [5, 8] l0.length (fun gg _ s8 wr => ∃ kk : Nat, kk ≤ l0.length ∧ l0.length - kk ≤ gg ∧ s8 = .int .i64 kk ∧ Aside0 (Below w.heap.size w wr) ∧ Aside0 (xIdx xpRule l0 0 = xIdx xpRule (l0.drop kk) (kk : Int)))
  case atStart => exact ⟨0, Nat.zero_le _, by omega, rfl, ⟨Below.refl _ w⟩, ⟨by simp⟩⟩
  case round =>
    obtain ⟨kk, hkk, hg, rfl, BW, AX⟩ := hrel
    by_cases hlt : kk < l0.length
    · have hltz : (kk : Int) < (l0.length : Int) := by omega
      obtain ⟨ad, e, hx0, hx1, hx2⟩ := at_T58 (Kd.C_below HR0.out BW.out) (kk : Int) (by omega) hltz
      subst e
      obtain ⟨y, hy⟩ : ∃ y, y = rd_T58 l0 (kk : Int) := ⟨_, rfl⟩
      simp only [Int.toNat_natCast] at hx0 hx1 hx2
      rw [← hy] at hx0 hx1 hx2
      have HY := Aside0.mk hy
      clear hy
      cases hq : xpRule y with
      | true =>
        have HF := Aside0.mk (show impl_ValidProtocol_1.f y.f0 y.f1 y.f2 = some true by rw [xpRule_f, hq])
        have HQ := Aside0.mk hq
        clear hq
        go_wp2_with (go_at_call 97; (refine (impl_ValidProtocol_1.calls y.f0 y.f1 y.f2 true _ HF.out).mono ?_); rintro e w' ⟨rfl, hb'⟩)
        go_ret
        refine ⟨?_, below_le BW.out hb'⟩
        have hyy : xpRule (l0.getD kk z58) = true := by have := HQ.out; rw [HY.out] at this; exact this
        rw [AX.out, xIdx_drop_hit _ _ _ _ hlt _ hyy]
        rfl
      | false =>
        have HF := Aside0.mk (show impl_ValidProtocol_1.f y.f0 y.f1 y.f2 = some false by rw [xpRule_f, hq])
        have HQ := Aside0.mk hq
        clear hq
        go_wp2_with (go_at_call 97; (refine (impl_ValidProtocol_1.calls y.f0 y.f1 y.f2 false _ HF.out).mono ?_); rintro e w' ⟨rfl, hb'⟩)
        go_roundg (l0.length - (kk + 1))
        case measure => omega
        case rel =>
          have hyy : xpRule (l0.getD kk z58) = false := by have := HQ.out; rw [HY.out] at this; exact this
          exact ⟨kk + 1, by omega, by omega, by go_num, ⟨below_le BW.out hb'⟩, ⟨by rw [AX.out, xIdx_drop_miss _ _ _ _ hlt _ hyy]; rfl⟩⟩
    · have hltz : ¬ (kk : Int) < (l0.length : Int) := by omega
      have hle : l0.length ≤ kk := by omega
      go_wp2
      go_ret
      refine ⟨?_, BW.out⟩
      rw [AX.out, xIdx_drop_end _ _ _ hle]
      rfl
set_option maxHeartbeats 400000 in
theorem xHasRule (A0 : Option Addr) (c0 : Nat) (l0 : List (S58)) (w : World) (hr0 : Kd.C k58 w A0 l0.length l0) :
    Calls Try.prog 96 #[.slice A0 l0.length c0, .func (.func 97) #[] #[]] w fun e w' => e = .returned (.bool (l0.any xpRule)) ∧ Below w.heap.size w w' := by
  have HE := Aside0.mk (xIdx_nonneg xpRule l0 0 (Int.le_refl _))
  have HR0 := Aside0.mk hr0
  clear hr0
  go_enter Try.func96, Try.ntmps96
  go_wp2_with (go_at_call 113; (refine (xIdxRule A0 c0 l0 _ HR0.out).mono ?_); rintro e w' ⟨rfl, hb'⟩)
  go_ret
  exact ⟨by rw [← HE.out]; rfl, hb'⟩
set_option maxHeartbeats 800000 in
set_option maxRecDepth 100000 in
theorem implTables (g0 : Nat) (w : World) :
    Calls Try.prog 67 #[.pointer (some ⟨g0, 0, none⟩)] w fun e w' => ∃ h, e = .returned (.slice (some ⟨h, 0, none⟩) 5 5) ∧ w'.heap[h]? = some (.cells #[.pointer (some ⟨g0, 0, none⟩), .pointer (some ⟨g0, 1, none⟩), .pointer (some ⟨g0, 2, none⟩), .pointer (some ⟨g0, 3, none⟩), .pointer (some ⟨g0, 4, none⟩)] 108 (0, 0)) ∧ w.heap.size ≤ h ∧ Below w.heap.size w w' := by
  go_enter Try.func67, Try.ntmps67
  go_wp2
  go_still_tail 15, (by kernel_rfl)
  go_wp2
  go_ret
  exact ⟨w.heap.size, rfl, heap_alloc_new w.drew _, Nat.le_refl _, below_alloc (below_drew (Below.refl _ _)) _⟩
/-- The test of a table's rule for no copy. -/
theorem xNone_bad {k : Nat} {l : List S58} (hk : 2 ≤ k) (h : (!decide ((l.getD 0 z58).f0 = 0) || (l.getD 0 z58).f2) = true) : tabOk k l = false := by
  refine tabOk_false (q := 0) ?_ (by omega)
  unfold ruleOk
  rw [h, decide_eq_true hk]
  simp
theorem xRead_bad {l : List S58} {q : Nat} (hq : q < 4) (h : (decide ((l.getD q z58).f0 = 0) || decide ((l.getD q z58).f1 = 0)) = true) : tabOk 0 l = false := by
  refine tabOk_false (q := q) ?_ hq
  unfold ruleOk
  rw [h]
  simp
theorem xEvict_bad {l : List S58} {q : Nat} (hq : q < 4) (h : decide ((l.getD q z58).f0 = 0) = false) : tabOk 2 l = false := by
  refine tabOk_false (q := q) ?_ hq
  unfold ruleOk
  rw [h]
  simp
theorem xAny_bad {k : Nat} {l : List S58} (h : l.length = 4) (ha : l.any xpRule = true) : tabOk k l = false := by
  obtain ⟨x, hx, hp⟩ := List.any_eq_true.1 ha
  obtain ⟨q, hq⟩ := List.getElem?_of_mem hx
  have hql : q < l.length := (List.getElem?_eq_some_iff.1 hq).1
  refine tabOk_false (q := q) ?_ (by omega)
  have : l.getD q z58 = x := by simp [List.getD_eq_getElem?_getD, hq]
  rw [this]
  unfold xpRule at hp
  unfold ruleOk
  revert hp
  generalize (decide (0 ≤ x.f0) && decide (x.f0 ≤ 3)) = a
  generalize (decide (0 ≤ x.f1) && decide (x.f1 ≤ 3)) = b
  cases a <;> cases b <;> simp
theorem xAll_good {k : Nat} {l : List S58} (h : l.length = 4) (ha : l.any xpRule = false) (h0 : k = 0 → ∀ q, q < 4 → (decide ((l.getD q z58).f0 = 0) || decide ((l.getD q z58).f1 = 0)) = false) (h2 : k = 2 → ∀ q, q < 4 → decide ((l.getD q z58).f0 = 0) = true)
    (hg : 2 ≤ k → (!decide ((l.getD 0 z58).f0 = 0) || (l.getD 0 z58).f2) = false) : tabOk k l = true := by
  unfold tabOk
  rw [decide_eq_true h, Bool.true_and]
  refine rowOk_true fun q hq => ?_
  have hm : l.getD q z58 ∈ l := by
    rw [getD_lt l q _ (by omega)]; exact List.getElem_mem _
  have hx : xpRule (l.getD q z58) = false := by
    have := List.any_eq_false.1 ha _ hm
    simpa using this
  unfold ruleOk
  unfold xpRule at hx
  revert hx
  generalize (decide (0 ≤ (l.getD q z58).f0) && decide ((l.getD q z58).f0 ≤ 3)) = a
  generalize (decide (0 ≤ (l.getD q z58).f1) && decide ((l.getD q z58).f1 ≤ 3)) = b
  intro hx
  have e1 : a = true ∧ b = true := by revert hx; cases a <;> cases b <;> simp
  rw [e1.1, e1.2]
  have e2 : (decide (k = 0) && (decide ((l.getD q z58).f0 = 0) || decide ((l.getD q z58).f1 = 0))) = false := by
    by_cases hk : k = 0
    · rw [h0 hk q hq, Bool.and_false]
    · rw [decide_eq_false hk, Bool.false_and]
  have e3 : (decide (k = 2) && !decide ((l.getD q z58).f0 = 0)) = false := by
    by_cases hk : k = 2
    · rw [h2 hk q hq]; simp
    · rw [decide_eq_false hk, Bool.false_and]
  have e4 : ((decide (2 ≤ k) && decide (q = 0)) && (!decide ((l.getD q z58).f0 = 0) || (l.getD q z58).f2)) = false := by
    by_cases hk : 2 ≤ k
    · by_cases hq0 : q = 0
      · subst hq0; rw [hg hk, Bool.and_false]
      · rw [decide_eq_false hq0]; simp
    · rw [decide_eq_false hk]; simp
  rw [e2, e3, e4]
  rfl
def xGood (l : List S58) : Prop := (!decide ((l.getD 0 z58).f0 = 0) || (l.getD 0 z58).f2) = false
def impl_ValidProtocol.f (l0_0 l0_1 l0_2 l0_3 l0_4 : List S58) : Option Bool := some (vprot l0_0 l0_1 l0_2 l0_3 l0_4)
set_option maxHeartbeats 3200000 in
set_option maxRecDepth 100000 in
theorem impl_ValidProtocol.calls (A0_0 : Option Addr) (c0_0 : Nat) (l0_0 : List (S58)) (A0_1 : Option Addr) (c0_1 : Nat) (l0_1 : List (S58)) (A0_2 : Option Addr) (c0_2 : Nat) (l0_2 : List (S58)) (A0_3 : Option Addr) (c0_3 : Nat) (l0_3 : List (S58)) (A0_4 : Option Addr) (c0_4 : Nat) (l0_4 : List (S58)) (r : Bool) (w : World) (hr0_0 : Kd.C k58 w A0_0 l0_0.length l0_0) (hc0_0 : l0_0.length ≤ c0_0) (hr0_1 : Kd.C k58 w A0_1 l0_1.length l0_1) (hc0_1 : l0_1.length ≤ c0_1) (hr0_2 : Kd.C k58 w A0_2 l0_2.length l0_2) (hc0_2 : l0_2.length ≤ c0_2) (hr0_3 : Kd.C k58 w A0_3 l0_3.length l0_3) (hc0_3 : l0_3.length ≤ c0_3) (hr0_4 : Kd.C k58 w A0_4 l0_4.length l0_4) (hc0_4 : l0_4.length ≤ c0_4) (h : impl_ValidProtocol.f l0_0 l0_1 l0_2 l0_3 l0_4 = some r) :
    Calls Try.prog 64 #[.agg #[.slice A0_0 l0_0.length c0_0, .slice A0_1 l0_1.length c0_1, .slice A0_2 l0_2.length c0_2, .slice A0_3 l0_3.length c0_3, .slice A0_4 l0_4.length c0_4]] w fun e w' => e = .returned (.bool r) ∧ Below w.heap.size w w' := by
  obtain rfl := Option.some.inj h
  clear h
  have HR4 : Aside0 (l0_0.length = 4 → ∃ ad, A0_0 = some ad) := ⟨fun z => (by obtain ⟨ad, e, _⟩ := at_T58 hr0_0 0 (by omega) (by omega); exact ⟨ad, e⟩)⟩
  have HC0 := Aside0.mk hr0_0
  have HC2 := Aside0.mk hr0_2
  have HC3 := Aside0.mk hr0_3
  have HC4 := Aside0.mk hr0_4
  obtain ⟨tb, htb⟩ : ∃ tb : Nat → List S58, tb = five l0_0 l0_1 l0_2 l0_3 l0_4 := ⟨_, rfl⟩
  obtain ⟨Af, hAf⟩ : ∃ A : Nat → Option Addr, A = five A0_0 A0_1 A0_2 A0_3 A0_4 := ⟨_, rfl⟩
  obtain ⟨cf, hcf⟩ : ∃ c : Nat → Nat, c = five c0_0 c0_1 c0_2 c0_3 c0_4 := ⟨_, rfl⟩
  have HV : Aside0 (vprot l0_0 l0_1 l0_2 l0_3 l0_4 = tabsOk tb 5) := ⟨by rw [htb]; rfl⟩
  have HT5 : Aside0 (tb 0 = l0_0 ∧ tb 1 = l0_1 ∧ tb 2 = l0_2 ∧ tb 3 = l0_3 ∧ tb 4 = l0_4) := ⟨by rw [htb]; exact ⟨rfl, rfl, rfl, rfl, rfl⟩⟩
  have HR : Aside0 (∀ k, k < 5 → Kd.C k58 w (Af k) (tb k).length (tb k)) := ⟨by
    rw [hAf, htb]
    intro k hk
    match k, hk with
    | 0, _ => exact hr0_0
    | 1, _ => exact hr0_1
    | 2, _ => exact hr0_2
    | 3, _ => exact hr0_3
    | 4, _ => exact hr0_4⟩
  have HK : Aside0 (∀ k, k < 5 → (#[.slice A0_0 l0_0.length c0_0, .slice A0_1 l0_1.length c0_1, .slice A0_2 l0_2.length c0_2, .slice A0_3 l0_3.length c0_3, .slice A0_4 l0_4.length c0_4] : Array Value)[k]? = some (.slice (Af k) (tb k).length (cf k))) := ⟨by
    rw [hAf, htb, hcf]
    intro k hk
    match k, hk with
    | 0, _ => rfl
    | 1, _ => rfl
    | 2, _ => rfl
    | 3, _ => rfl
    | 4, _ => rfl⟩
  clear hr0_0 hr0_1 hr0_2 hr0_3 hr0_4 hc0_0 hc0_1 hc0_2 hc0_3 hc0_4 htb hAf hcf
  rw [HV.out]
  go_enter Try.func64, Try.ntmps64
  go_wp2_with (go_at_call 67; (refine (implTables w.heap.size _).mono ?_); rintro e w1 ⟨h, rfl, hh, hge, hb⟩; have HH := Aside0.mk hh; have HB0 := Aside0.mk hb; clear hh hge hb)
  have HB : Aside0 (Below w.heap.size w w1) := ⟨below_le (below_alloc (Below.refl _ _) _) HB0.out⟩
  have HG : Aside0 (w1.heap[w.heap.size]? = some (.cells #[.slice A0_0 l0_0.length c0_0, .slice A0_1 l0_1.length c0_1, .slice A0_2 l0_2.length c0_2, .slice A0_3 l0_3.length c0_3, .slice A0_4 l0_4.length c0_4] 54 (0, 0))) := ⟨(HB0.out.block w.heap.size (by simp)).trans (heap_alloc_new w _)⟩
  clear HB0
  go_loopg [10] 5 (fun gg s10 wr => ∃ kk : Nat, kk ≤ 5 ∧ 5 - kk ≤ gg ∧ s10 = .int .i64 kk ∧ Aside0 (Below w1.heap.size w1 wr) ∧ Aside0 (∀ j, j < kk → (tb j).length = 4 ∧ (tb j).any xpRule = false))
  case atStart => exact ⟨0, by omega, by omega, rfl, ⟨Below.refl _ _⟩, ⟨fun j hj => absurd hj (by omega)⟩⟩
  case round =>
    obtain ⟨kk, hkk, hg, rfl, BW, TK⟩ := hrel
    obtain ⟨wo, rfl⟩ : ∃ wo : World, wo = wr := ⟨_, rfl⟩
    have BO : Aside0 (Below w.heap.size w wo) := ⟨below_le HB.out BW.out⟩
    have HGo : Aside0 (wo.heap[w.heap.size]? = some (.cells #[.slice A0_0 l0_0.length c0_0, .slice A0_1 l0_1.length c0_1, .slice A0_2 l0_2.length c0_2, .slice A0_3 l0_3.length c0_3, .slice A0_4 l0_4.length c0_4] 54 (0, 0))) := ⟨(BW.out.block _ (blk_lt HG.out)).trans HG.out⟩
    by_cases hlt : kk < 5
    · have hltz : (kk : Int) < 5 := by omega
      have hcp : wo.cell? ⟨h, kk, none⟩ = some (.pointer (some ⟨w.heap.size, kk, none⟩)) := by
        have h1 := (BW.out.block h (blk_lt HH.out)).trans HH.out
        rw [blk_cell h1 kk]
        match kk, hlt with
        | 0, _ => rfl
        | 1, _ => rfl
        | 2, _ => rfl
        | 3, _ => rfl
        | 4, _ => rfl
      have hc : wo.cell? ⟨w.heap.size, kk, none⟩ = some (.slice (Af kk) (tb kk).length (cf kk)) := by
        rw [blk_cell HGo.out kk]; exact HK.out kk hlt
      have hC : Aside0 (Kd.C k58 wo (Af kk) (tb kk).length (tb kk)) := ⟨Kd.C_below (HR.out kk hlt) BO.out⟩
      have HT : Aside0 (tabOk kk (tb kk) = false → tabsOk tb 5 = false) := ⟨fun z => tabsOk_false z 5 hlt⟩
      have HN : Aside0 ((tb kk).length = 4 → (tb kk).any xpRule = false → ∀ j, j < kk + 1 → (tb j).length = 4 ∧ (tb j).any xpRule = false) := ⟨fun z y j hj => by
        by_cases e : j = kk
        · subst e; exact ⟨z, y⟩
        · exact TK.out j (by omega)⟩
      obtain ⟨l, hl⟩ : ∃ l, l = tb kk := ⟨_, rfl⟩
      obtain ⟨A, hA⟩ : ∃ l, l = Af kk := ⟨_, rfl⟩
      rw [← hl, ← hA] at hc hC
      rw [← hl] at HT HN
      clear hl hA
      by_cases h4 : l.length = 4
      · have H4 := Aside0.mk h4
        have h4z : ((l.length : Int) != 4) = false := by simp; omega
        clear h4
        obtain ⟨b, hb⟩ : ∃ b, l.any xpRule = b := ⟨_, rfl⟩
        have HBQ := Aside0.mk hb
        clear hb
        cases b with
        | true =>
          have HBAD := Aside0.mk (HT.out (xAny_bad H4.out HBQ.out))
          go_wp2_with (go_at_call 96; (refine (xHasRule A (cf kk) l _ hC.out).mono ?_); rw [HBQ.out]; rintro e w' ⟨rfl, hb'⟩)
          go_ret
          exact ⟨by rw [HBAD.out]; rfl, below_le BO.out hb'⟩
        | false =>
          go_wp2_with (go_at_call 96; (refine (xHasRule A (cf kk) l _ hC.out).mono ?_); rw [HBQ.out]; rintro e w' ⟨rfl, hb'⟩)
          go_roundg (5 - (kk + 1))
          case measure => omega
          case rel => exact ⟨kk + 1, by omega, by omega, by go_num, ⟨below_le BW.out hb'⟩, ⟨HN.out H4.out HBQ.out⟩⟩
      · have h4z : ((l.length : Int) != 4) = true := by simp; omega
        have HBAD := Aside0.mk (HT.out (tabOk_len h4))
        go_wp2_with fail
        go_ret
        exact ⟨by rw [HBAD.out]; rfl, BO.out⟩
    · obtain rfl : kk = 5 := by omega
      have q0 : wo.cell? ⟨w.heap.size, 0, none⟩ = some (.slice A0_0 l0_0.length c0_0) := blk_cell HGo.out 0
      have q2 : wo.cell? ⟨w.heap.size, 2, none⟩ = some (.slice A0_2 l0_2.length c0_2) := blk_cell HGo.out 2
      have q3 : wo.cell? ⟨w.heap.size, 3, none⟩ = some (.slice A0_3 l0_3.length c0_3) := blk_cell HGo.out 3
      have q4 : wo.cell? ⟨w.heap.size, 4, none⟩ = some (.slice A0_4 l0_4.length c0_4) := blk_cell HGo.out 4
      have L0 : Aside0 (l0_0.length = 4) := ⟨by have := (TK.out 0 (by omega)).1; rw [HT5.out.1] at this; exact this⟩
      have L2 : Aside0 (l0_2.length = 4) := ⟨by have := (TK.out 2 (by omega)).1; rw [HT5.out.2.2.1] at this; exact this⟩
      have L3 : Aside0 (l0_3.length = 4) := ⟨by have := (TK.out 3 (by omega)).1; rw [HT5.out.2.2.2.1] at this; exact this⟩
      have L4 : Aside0 (l0_4.length = 4) := ⟨by have := (TK.out 4 (by omega)).1; rw [HT5.out.2.2.2.2] at this; exact this⟩
      have C0 : Aside0 (Kd.C k58 wo A0_0 l0_0.length l0_0) := ⟨Kd.C_below HC0.out BO.out⟩
      have C2 : Aside0 (Kd.C k58 wo A0_2 l0_2.length l0_2) := ⟨Kd.C_below HC2.out BO.out⟩
      have C3 : Aside0 (Kd.C k58 wo A0_3 l0_3.length l0_3) := ⟨Kd.C_below HC3.out BO.out⟩
      have C4 : Aside0 (Kd.C k58 wo A0_4 l0_4.length l0_4) := ⟨Kd.C_below HC4.out BO.out⟩
      have hi0 : ∀ W : World, (Instr.index 143 (.agg #[.slice A0_3 l0_3.length c0_3, .slice A0_4 l0_4.length c0_4, .slice A0_2 l0_2.length c0_2]) (.int .i64 0)).run Try.prog W = .ok (.slice A0_3 l0_3.length c0_3) W := fun W => by
        simp [Instr.index, run_underlying Try.underlying143, asIntOf, go_sem]
      have hi1 : ∀ W : World, (Instr.index 143 (.agg #[.slice A0_3 l0_3.length c0_3, .slice A0_4 l0_4.length c0_4, .slice A0_2 l0_2.length c0_2]) (.int .i64 1)).run Try.prog W = .ok (.slice A0_4 l0_4.length c0_4) W := fun W => by
        simp [Instr.index, run_underlying Try.underlying143, asIntOf, go_sem]
      have hi2 : ∀ W : World, (Instr.index 143 (.agg #[.slice A0_3 l0_3.length c0_3, .slice A0_4 l0_4.length c0_4, .slice A0_2 l0_2.length c0_2]) (.int .i64 2)).run Try.prog W = .ok (.slice A0_2 l0_2.length c0_2) W := fun W => by
        simp [Instr.index, run_underlying Try.underlying143, asIntOf, go_sem]
      go_wp2_with fail
      clear q2 q3 q4
      go_loopg [33] 3 (fun gg s33 wr => ∃ kk : Nat, kk ≤ 3 ∧ 3 - kk ≤ gg ∧ s33 = .int .i64 kk ∧ wr = wo ∧ Aside0 ((0 < kk → xGood l0_3) ∧ (1 < kk → xGood l0_4) ∧ (2 < kk → xGood l0_2)))
      case atStart => exact ⟨0, by omega, by omega, rfl, rfl, ⟨⟨fun z => absurd z (by omega), fun z => absurd z (by omega), fun z => absurd z (by omega)⟩⟩⟩
      case round =>
        obtain ⟨kk, hkk, hg, rfl, rfl, XG⟩ := hrel
        by_cases hlt : kk < 3
        · obtain h_ | h_ | h_ : kk = 0 ∨ kk = 1 ∨ kk = 2 := by omega
          · subst h_
            obtain ⟨ad, e, hx0, hx1, hx2⟩ := at_T58 C3.out 0 (by omega) (by have := L3.out; omega)
            have hl_ : 0 < l0_3.length := by rw [L3.out]; omega
            subst e
            have HY : Aside0 (rd_T58 l0_3 0 = l0_3.getD 0 z58) := ⟨rfl⟩
            obtain ⟨y, hy⟩ : ∃ y, y = rd_T58 l0_3 0 := ⟨_, rfl⟩
            rw [← hy] at hx0 hx1 hx2 HY
            clear hy
            obtain ⟨f0, f1, f2⟩ := y
            simp only [Int.toNat_zero, Nat.zero_mul, show ad.add 0 = ad from rfl] at hx0 hx1 hx2
            obtain ⟨e0, he0⟩ : ∃ b, (f0 == 0) = b := ⟨_, rfl⟩
            have hn0 : (f0 != 0) = !e0 := by rw [← he0]; rfl
            have HE : Aside0 ((!decide ((l0_3.getD 0 z58).f0 = 0) || (l0_3.getD 0 z58).f2) = (!e0 || f2)) := ⟨by rw [← HY.out, ← he0]; rfl⟩
            have hcase : e0 = false ∨ (e0 = true ∧ f2 = true) ∨ (e0 = true ∧ f2 = false) := by cases e0 <;> cases f2 <;> simp
            rcases hcase with rfl | ⟨rfl, rfl⟩ | ⟨rfl, rfl⟩
            all_goals
              go_wp2_with fail
              first
                | (go_ret
                   refine ⟨?_, BO.out⟩
                   rw [tabsOk_false (k := 3) (by rw [(HT5.out).2.2.2.1]; exact xNone_bad (by omega) (by rw [HE.out]; rfl)) 5 (by omega)]
                   rfl)
                | (go_roundg 2
                   case measure => omega
                   case rel => exact ⟨1, by omega, by omega, by go_num, rfl, ⟨⟨fun _ => HE.out.trans rfl, fun z => absurd z (by omega), fun z => absurd z (by omega)⟩⟩⟩)
          · subst h_
            obtain ⟨ad, e, hx0, hx1, hx2⟩ := at_T58 C4.out 0 (by omega) (by have := L4.out; omega)
            have hl_ : 0 < l0_4.length := by rw [L4.out]; omega
            subst e
            have HY : Aside0 (rd_T58 l0_4 0 = l0_4.getD 0 z58) := ⟨rfl⟩
            obtain ⟨y, hy⟩ : ∃ y, y = rd_T58 l0_4 0 := ⟨_, rfl⟩
            rw [← hy] at hx0 hx1 hx2 HY
            clear hy
            obtain ⟨f0, f1, f2⟩ := y
            simp only [Int.toNat_zero, Nat.zero_mul, show ad.add 0 = ad from rfl] at hx0 hx1 hx2
            obtain ⟨e0, he0⟩ : ∃ b, (f0 == 0) = b := ⟨_, rfl⟩
            have hn0 : (f0 != 0) = !e0 := by rw [← he0]; rfl
            have HE : Aside0 ((!decide ((l0_4.getD 0 z58).f0 = 0) || (l0_4.getD 0 z58).f2) = (!e0 || f2)) := ⟨by rw [← HY.out, ← he0]; rfl⟩
            have hcase : e0 = false ∨ (e0 = true ∧ f2 = true) ∨ (e0 = true ∧ f2 = false) := by cases e0 <;> cases f2 <;> simp
            rcases hcase with rfl | ⟨rfl, rfl⟩ | ⟨rfl, rfl⟩
            all_goals
              go_wp2_with fail
              first
                | (go_ret
                   refine ⟨?_, BO.out⟩
                   rw [tabsOk_false (k := 4) (by rw [(HT5.out).2.2.2.2]; exact xNone_bad (by omega) (by rw [HE.out]; rfl)) 5 (by omega)]
                   rfl)
                | (go_roundg 1
                   case measure => omega
                   case rel => exact ⟨2, by omega, by omega, by go_num, rfl, ⟨⟨fun _ => XG.out.1 (by omega), fun _ => HE.out.trans rfl, fun z => absurd z (by omega)⟩⟩⟩)
          · subst h_
            obtain ⟨ad, e, hx0, hx1, hx2⟩ := at_T58 C2.out 0 (by omega) (by have := L2.out; omega)
            have hl_ : 0 < l0_2.length := by rw [L2.out]; omega
            subst e
            have HY : Aside0 (rd_T58 l0_2 0 = l0_2.getD 0 z58) := ⟨rfl⟩
            obtain ⟨y, hy⟩ : ∃ y, y = rd_T58 l0_2 0 := ⟨_, rfl⟩
            rw [← hy] at hx0 hx1 hx2 HY
            clear hy
            obtain ⟨f0, f1, f2⟩ := y
            simp only [Int.toNat_zero, Nat.zero_mul, show ad.add 0 = ad from rfl] at hx0 hx1 hx2
            obtain ⟨e0, he0⟩ : ∃ b, (f0 == 0) = b := ⟨_, rfl⟩
            have hn0 : (f0 != 0) = !e0 := by rw [← he0]; rfl
            have HE : Aside0 ((!decide ((l0_2.getD 0 z58).f0 = 0) || (l0_2.getD 0 z58).f2) = (!e0 || f2)) := ⟨by rw [← HY.out, ← he0]; rfl⟩
            have hcase : e0 = false ∨ (e0 = true ∧ f2 = true) ∨ (e0 = true ∧ f2 = false) := by cases e0 <;> cases f2 <;> simp
            rcases hcase with rfl | ⟨rfl, rfl⟩ | ⟨rfl, rfl⟩
            all_goals
              go_wp2_with fail
              first
                | (go_ret
                   refine ⟨?_, BO.out⟩
                   rw [tabsOk_false (k := 2) (by rw [(HT5.out).2.2.1]; exact xNone_bad (by omega) (by rw [HE.out]; rfl)) 5 (by omega)]
                   rfl)
                | (go_roundg 0
                   case measure => omega
                   case rel => exact ⟨3, by omega, by omega, by go_num, rfl, ⟨⟨fun _ => XG.out.1 (by omega), fun _ => XG.out.2.1 (by omega), fun _ => HE.out.trans rfl⟩⟩⟩)
        · obtain rfl : kk = 3 := by omega
          have q2 : wr.cell? ⟨w.heap.size, 2, none⟩ = some (.slice A0_2 l0_2.length c0_2) := blk_cell HGo.out 2
          go_wp2_with fail
          go_loopg [51] 4 (fun gg s51 wx => ∃ kk : Nat, kk ≤ 4 ∧ 4 - kk ≤ gg ∧ s51 = .int .i64 kk ∧ wx = wr ∧ Aside0 (∀ q, q < kk → (decide ((l0_0.getD q z58).f0 = 0) || decide ((l0_0.getD q z58).f1 = 0)) = false ∧ decide ((l0_2.getD q z58).f0 = 0) = true))
          case atStart => exact ⟨0, by omega, by omega, rfl, rfl, ⟨fun q z => absurd z (by omega)⟩⟩
          case round =>
            obtain ⟨kk, hkk, hg, rfl, rfl, XR⟩ := hrel
            have hlen : (l0_0.length : Int) = 4 := by rw [L0.out]; rfl
            have hlen2 : (l0_2.length : Int) = 4 := by rw [L2.out]; rfl
            by_cases hlt : kk < 4
            · have hltz : (kk : Int) < 4 := by omega
              obtain ⟨ad, e, hx0, hx1, hx2⟩ := at_T58 C0.out (kk : Int) (by omega) (by omega)
              obtain ⟨ad2, e2, hy0, hy1, hy2⟩ := at_T58 C2.out (kk : Int) (by omega) (by omega)
              subst e e2
              simp only [Int.toNat_natCast] at hx0 hx1 hx2 hy0 hy1 hy2
              have HY : Aside0 (rd_T58 l0_0 kk = l0_0.getD kk z58) := ⟨rfl⟩
              have HZ : Aside0 (rd_T58 l0_2 kk = l0_2.getD kk z58) := ⟨rfl⟩
              obtain ⟨y, hy⟩ : ∃ y, y = rd_T58 l0_0 kk := ⟨_, rfl⟩
              rw [← hy] at hx0 hx1 hx2 HY
              clear hy
              obtain ⟨y2, hy⟩ : ∃ y, y = rd_T58 l0_2 kk := ⟨_, rfl⟩
              rw [← hy] at hy0 hy1 hy2 HZ
              clear hy
              obtain ⟨f0, f1, f2⟩ := y
              obtain ⟨d0, d1, d2⟩ := y2
              simp only at hx0 hx1 hx2 hy0 hy1 hy2
              obtain ⟨e0, he0⟩ : ∃ b, (f0 == 0) = b := ⟨_, rfl⟩
              obtain ⟨e1, he1⟩ : ∃ b, (f1 == 0) = b := ⟨_, rfl⟩
              obtain ⟨e2, he2⟩ : ∃ b, (d0 == 0) = b := ⟨_, rfl⟩
              have hn2 : (d0 != 0) = !e2 := by rw [← he2]; rfl
              have HE : Aside0 ((decide ((l0_0.getD kk z58).f0 = 0) || decide ((l0_0.getD kk z58).f1 = 0)) = (e0 || e1)) := ⟨by rw [← HY.out, ← he0, ← he1]; rfl⟩
              have HF : Aside0 (decide ((l0_2.getD kk z58).f0 = 0) = e2) := ⟨by rw [← HZ.out, ← he2]; rfl⟩
              have hcase : e0 = true ∨ (e0 = false ∧ e1 = true) ∨ (e0 = false ∧ e1 = false ∧ e2 = false) ∨ (e0 = false ∧ e1 = false ∧ e2 = true) := by cases e0 <;> cases e1 <;> cases e2 <;> simp
              rcases hcase with rfl | ⟨rfl, rfl⟩ | ⟨rfl, rfl, rfl⟩ | ⟨rfl, rfl, rfl⟩
              all_goals
                go_wp2_with fail
                first
                  | (go_ret
                     refine ⟨?_, BO.out⟩
                     first
                       | rw [tabsOk_false (k := 0) (by rw [HT5.out.1]; exact xRead_bad hlt (by rw [HE.out]; rfl)) 5 (by omega)]
                       | rw [tabsOk_false (k := 2) (by rw [HT5.out.2.2.1]; exact xEvict_bad hlt HF.out) 5 (by omega)]
                     rfl)
                  | (go_roundg (4 - (kk + 1))
                     case measure => omega
                     case rel => exact ⟨kk + 1, by omega, by omega, by go_num, rfl, ⟨fun q hq => by
                       by_cases e : q = kk
                       · subst e; exact ⟨HE.out, HF.out⟩
                       · exact XR.out q (by omega)⟩⟩)
            · obtain rfl : kk = 4 := by omega
              have HFIN : Aside0 (tabsOk tb 5 = true) := ⟨tabsOk_true fun j hj => by
                have hT := TK.out j hj
                refine xAll_good hT.1 hT.2 ?_ ?_ ?_
                · intro e q hq; subst e; rw [HT5.out.1]; exact (XR.out q hq).1
                · intro e q hq; subst e; rw [HT5.out.2.2.1]; exact (XR.out q hq).2
                · intro e
                  obtain e | e | e : j = 2 ∨ j = 3 ∨ j = 4 := by omega
                  · subst e; rw [HT5.out.2.2.1]; exact XG.out.2.2 (by omega)
                  · subst e; rw [HT5.out.2.2.2.1]; exact XG.out.1 (by omega)
                  · subst e; rw [HT5.out.2.2.2.2]; exact XG.out.2.1 (by omega)⟩
              go_wp2_with fail
              go_ret
              exact ⟨by rw [HFIN.out]; rfl, BO.out⟩


/-! ### impl_isCaches: function 77 -/
def impl_isCaches.f (l0_0 : List (S58)) (l0_1 : List (S58)) (l0_2 : List (S58)) (l0_3 : List (S58)) (l0_4 : List (S58)) (a1 : Int) : Option (Bool) := (impl_ValidProtocol.f l0_0 l0_1 l0_2 l0_3 l0_4).bind fun t190 => (if t190 = true then ((impl_inRange.f a1 1 3).bind fun t191 => (some t191)) else (some false))
set_option maxHeartbeats 8000000 in
set_option maxRecDepth 100000 in
theorem impl_isCaches.calls (A0_0 : Option Addr) (c0_0 : Nat) (l0_0 : List (S58)) (A0_1 : Option Addr) (c0_1 : Nat) (l0_1 : List (S58)) (A0_2 : Option Addr) (c0_2 : Nat) (l0_2 : List (S58)) (A0_3 : Option Addr) (c0_3 : Nat) (l0_3 : List (S58)) (A0_4 : Option Addr) (c0_4 : Nat) (l0_4 : List (S58)) (a1 : Int) (r : Bool) (w : World) (hr0_0 : Kd.C k58 w A0_0 l0_0.length l0_0) (hc0_0 : l0_0.length ≤ c0_0) (hr0_1 : Kd.C k58 w A0_1 l0_1.length l0_1) (hc0_1 : l0_1.length ≤ c0_1) (hr0_2 : Kd.C k58 w A0_2 l0_2.length l0_2) (hc0_2 : l0_2.length ≤ c0_2) (hr0_3 : Kd.C k58 w A0_3 l0_3.length l0_3) (hc0_3 : l0_3.length ≤ c0_3) (hr0_4 : Kd.C k58 w A0_4 l0_4.length l0_4) (hc0_4 : l0_4.length ≤ c0_4) (h : impl_isCaches.f l0_0 l0_1 l0_2 l0_3 l0_4 a1 = some r) :
    Calls Try.prog 77 #[.agg #[.slice A0_0 l0_0.length c0_0, .slice A0_1 l0_1.length c0_1, .slice A0_2 l0_2.length c0_2, .slice A0_3 l0_3.length c0_3, .slice A0_4 l0_4.length c0_4], .int .i64 a1] w fun e w' => e = .returned (.bool r) ∧ Below w.heap.size w w' := by
  have hu54 := Try.underlying54
  have HR0_0 := Aside0.mk hr0_0
  have HC0_0 := Aside0.mk hc0_0
  clear hr0_0 hc0_0
  have HR0_1 := Aside0.mk hr0_1
  have HC0_1 := Aside0.mk hc0_1
  clear hr0_1 hc0_1
  have HR0_2 := Aside0.mk hr0_2
  have HC0_2 := Aside0.mk hc0_2
  clear hr0_2 hc0_2
  have HR0_3 := Aside0.mk hr0_3
  have HC0_3 := Aside0.mk hc0_3
  clear hr0_3 hc0_3
  have HR0_4 := Aside0.mk hr0_4
  have HC0_4 := Aside0.mk hc0_4
  clear hr0_4 hc0_4
  have HB := Aside0.mk (Below.refl w.heap.size w)
  have H : ((impl_ValidProtocol.f l0_0 l0_1 l0_2 l0_3 l0_4).bind fun t190 => (if t190 = true then ((impl_inRange.f a1 1 3).bind fun t191 => (some t191)) else (some false))) = some r := h
  clear h
  replace H := Option.bind_eq_some_iff.mp H
  obtain ⟨t190, A30, H⟩ := H
  replace H : (if t190 = true then ((impl_inRange.f a1 1 3).bind fun t191 => (some t191)) else (some false)) = some r := H
  have A3 := Aside0.mk A30
  clear A30
  by_cases c4 : t190 = true
  · subst c4
    have H1 : ((impl_inRange.f a1 1 3).bind fun t191 => (some t191)) = some r := by rw [if_pos rfl] at H; exact H
    clear H
    have H := H1
    clear H1
    replace H := Option.bind_eq_some_iff.mp H
    obtain ⟨t191, A50, H⟩ := H
    replace H : (some t191) = some r := H
    have A5 := Aside0.mk A50
    clear A50
    obtain rfl := Option.some.inj H
    go_enter Try.func77, Try.ntmps77
    go_wp2_with (first | ((with_reducible refine gate_dst (N := 2) rfl ?_); refine box_event ?hg (N := 2) ?hd (cs := #[.slice A0_0 l0_0.length c0_0, .slice A0_1 l0_1.length c0_1, .slice A0_2 l0_2.length c0_2, .slice A0_3 l0_3.length c0_3, .slice A0_4 l0_4.length c0_4]) (t := 54) ?hr ?_; (case hd => rfl); (case hg => rfl); (case hr => first | (go_simp; done) | (go_simp; rfl)); intro gb189 hg w6 hbox hb; have n0_ := Aside0.mk (below_step (by repeat (first | (with_reducible first | exact HB.out | apply below_alloc | apply pw_below_drewN | apply below_drew1) | exact HB.out)) hb); have n1_ := Aside0.mk (hbox); have n2_ := Aside0.mk ((by rw [hg]; exact (below_size (by repeat (first | (with_reducible first | exact HB.out | apply below_alloc | apply pw_below_drewN | apply below_drew1) | exact HB.out))) : w.heap.size ≤ gb189)); have n3_ := Aside0.mk ((by rw [hg]; exact (below_size (by repeat (first | (with_reducible first | exact HB.out | apply below_alloc | apply pw_below_drewN | apply below_drew1) | exact HB.out))) : w.heap.size ≤ gb189)); clear HB; have HB := n0_; have BK189 := n1_; have GW189 := n2_; have GE189 := n3_; clear n0_ n1_ n2_ n3_; clear hb hbox hg; have hcz7_0 : w6.cell? ⟨gb189, 0, none⟩ = some (.slice A0_0 l0_0.length c0_0) := (blk_cell BK189.out 0).trans rfl; have hcz7_1 : w6.cell? ⟨gb189, 1, none⟩ = some (.slice A0_1 l0_1.length c0_1) := (blk_cell BK189.out 1).trans rfl; have hcz7_2 : w6.cell? ⟨gb189, 2, none⟩ = some (.slice A0_2 l0_2.length c0_2) := (blk_cell BK189.out 2).trans rfl; have hcz7_3 : w6.cell? ⟨gb189, 3, none⟩ = some (.slice A0_3 l0_3.length c0_3) := (blk_cell BK189.out 3).trans rfl; have hcz7_4 : w6.cell? ⟨gb189, 4, none⟩ = some (.slice A0_4 l0_4.length c0_4) := (blk_cell BK189.out 4).trans rfl; have hfz7_0 := blk_frozen BK189.out 0; have hfz7_1 := blk_frozen BK189.out 1; have hfz7_2 := blk_frozen BK189.out 2; have hfz7_3 := blk_frozen BK189.out 3; have hfz7_4 := blk_frozen BK189.out 4) | ((with_reducible refine gate_callee (f := 64) rfl ?_); refine goesL_ (some 6) rfl rfl Try.func64 (by kernel_rfl) rfl #[.agg #[.slice A0_0 l0_0.length c0_0, .slice A0_1 l0_1.length c0_1, .slice A0_2 l0_2.length c0_2, .slice A0_3 l0_3.length c0_3, .slice A0_4 l0_4.length c0_4]] rfl (by (try simp only [List.map_toArray, List.map_cons, List.map_nil]); first | done | rfl | (simp only [List.length_drop, List.length_take]; rfl)) ?_; (with_reducible refine (impl_ValidProtocol.calls _ _ l0_0 _ _ l0_1 _ _ l0_2 _ _ l0_3 _ _ l0_4 true _ ?side1 ?side2 ?side3 ?side4 ?side5 ?side6 ?side7 ?side8 ?side9 ?side10 A3.out).mono ?_); (case side1 => repeat (first | exact (Kd.C_below HR0_0.out HB.out) | (with_reducible refine Kd.C_alloc ?_ _) | (with_reducible refine Kd.C_drewN ?_ _) | (with_reducible refine Kd.C_drew ?_))); (case side2 => exact HC0_0.out); (case side3 => repeat (first | exact (Kd.C_below HR0_1.out HB.out) | (with_reducible refine Kd.C_alloc ?_ _) | (with_reducible refine Kd.C_drewN ?_ _) | (with_reducible refine Kd.C_drew ?_))); (case side4 => exact HC0_1.out); (case side5 => repeat (first | exact (Kd.C_below HR0_2.out HB.out) | (with_reducible refine Kd.C_alloc ?_ _) | (with_reducible refine Kd.C_drewN ?_ _) | (with_reducible refine Kd.C_drew ?_))); (case side6 => exact HC0_2.out); (case side7 => repeat (first | exact (Kd.C_below HR0_3.out HB.out) | (with_reducible refine Kd.C_alloc ?_ _) | (with_reducible refine Kd.C_drewN ?_ _) | (with_reducible refine Kd.C_drew ?_))); (case side8 => exact HC0_3.out); (case side9 => repeat (first | exact (Kd.C_below HR0_4.out HB.out) | (with_reducible refine Kd.C_alloc ?_ _) | (with_reducible refine Kd.C_drewN ?_ _) | (with_reducible refine Kd.C_drew ?_))); (case side10 => exact HC0_4.out); rintro e w8 ⟨rfl, hb⟩; refine ⟨_, rfl, ?_⟩; have n0_ := Aside0.mk (blk_below (g := gb189) (o := .cells #[.slice A0_0 l0_0.length c0_0, .slice A0_1 l0_1.length c0_1, .slice A0_2 l0_2.length c0_2, .slice A0_3 l0_3.length c0_3, .slice A0_4 l0_4.length c0_4] 54 (0, 0)) (by (with_reducible repeat (first | refine blk_drewN ?_ _ | refine blk_drew ?_ | refine blk_alloc ?_ _)); exact BK189.out) hb); have n1_ := Aside0.mk (below_step (by repeat (first | (with_reducible first | exact HB.out | apply below_alloc | apply pw_below_drewN | apply below_drew1 | refine below_set ?_ GE189.out) | exact HB.out)) hb); clear BK189; clear HB; have BK189 := n0_; have HB := n1_; clear n0_ n1_; (try clear hb); (try clear hb2); (try clear hk); (try clear hi)) | (go_at_call 65; (with_reducible refine (impl_inRange.calls a1 1 3 t191 _ A5.out).mono ?_); rintro e w' ⟨rfl, ⟨nd, rfl⟩⟩))
    go_ret
    exact ⟨by first | rfl | (simp [errW_none, errW_some] <;> rfl) | (simp [*, errW_none, errW_some] <;> rfl), by repeat (first | (with_reducible first | exact HB.out | apply below_alloc | apply pw_below_drewN | apply below_drew1 | refine below_set ?_ GE189.out) | exact HB.out)⟩
  · replace c4 := Bool.eq_false_iff.mpr c4
    subst c4
    have H1 : (some false) = some r := by rw [if_neg (show ¬ (false = true) by decide)] at H; exact H
    clear H
    have H := H1
    clear H1
    obtain rfl := Option.some.inj H
    go_enter Try.func77, Try.ntmps77
    go_wp2_with (first | ((with_reducible refine gate_dst (N := 2) rfl ?_); refine box_event ?hg (N := 2) ?hd (cs := #[.slice A0_0 l0_0.length c0_0, .slice A0_1 l0_1.length c0_1, .slice A0_2 l0_2.length c0_2, .slice A0_3 l0_3.length c0_3, .slice A0_4 l0_4.length c0_4]) (t := 54) ?hr ?_; (case hd => rfl); (case hg => rfl); (case hr => first | (go_simp; done) | (go_simp; rfl)); intro gb189 hg w9 hbox hb; have n0_ := Aside0.mk (below_step (by repeat (first | (with_reducible first | exact HB.out | apply below_alloc | apply pw_below_drewN | apply below_drew1) | exact HB.out)) hb); have n1_ := Aside0.mk (hbox); have n2_ := Aside0.mk ((by rw [hg]; exact (below_size (by repeat (first | (with_reducible first | exact HB.out | apply below_alloc | apply pw_below_drewN | apply below_drew1) | exact HB.out))) : w.heap.size ≤ gb189)); have n3_ := Aside0.mk ((by rw [hg]; exact (below_size (by repeat (first | (with_reducible first | exact HB.out | apply below_alloc | apply pw_below_drewN | apply below_drew1) | exact HB.out))) : w.heap.size ≤ gb189)); clear HB; have HB := n0_; have BK189 := n1_; have GW189 := n2_; have GE189 := n3_; clear n0_ n1_ n2_ n3_; clear hb hbox hg; have hcz10_0 : w9.cell? ⟨gb189, 0, none⟩ = some (.slice A0_0 l0_0.length c0_0) := (blk_cell BK189.out 0).trans rfl; have hcz10_1 : w9.cell? ⟨gb189, 1, none⟩ = some (.slice A0_1 l0_1.length c0_1) := (blk_cell BK189.out 1).trans rfl; have hcz10_2 : w9.cell? ⟨gb189, 2, none⟩ = some (.slice A0_2 l0_2.length c0_2) := (blk_cell BK189.out 2).trans rfl; have hcz10_3 : w9.cell? ⟨gb189, 3, none⟩ = some (.slice A0_3 l0_3.length c0_3) := (blk_cell BK189.out 3).trans rfl; have hcz10_4 : w9.cell? ⟨gb189, 4, none⟩ = some (.slice A0_4 l0_4.length c0_4) := (blk_cell BK189.out 4).trans rfl; have hfz10_0 := blk_frozen BK189.out 0; have hfz10_1 := blk_frozen BK189.out 1; have hfz10_2 := blk_frozen BK189.out 2; have hfz10_3 := blk_frozen BK189.out 3; have hfz10_4 := blk_frozen BK189.out 4) | ((with_reducible refine gate_callee (f := 64) rfl ?_); refine goesL_ (some 6) rfl rfl Try.func64 (by kernel_rfl) rfl #[.agg #[.slice A0_0 l0_0.length c0_0, .slice A0_1 l0_1.length c0_1, .slice A0_2 l0_2.length c0_2, .slice A0_3 l0_3.length c0_3, .slice A0_4 l0_4.length c0_4]] rfl (by (try simp only [List.map_toArray, List.map_cons, List.map_nil]); first | done | rfl | (simp only [List.length_drop, List.length_take]; rfl)) ?_; (with_reducible refine (impl_ValidProtocol.calls _ _ l0_0 _ _ l0_1 _ _ l0_2 _ _ l0_3 _ _ l0_4 false _ ?side1 ?side2 ?side3 ?side4 ?side5 ?side6 ?side7 ?side8 ?side9 ?side10 A3.out).mono ?_); (case side1 => repeat (first | exact (Kd.C_below HR0_0.out HB.out) | (with_reducible refine Kd.C_alloc ?_ _) | (with_reducible refine Kd.C_drewN ?_ _) | (with_reducible refine Kd.C_drew ?_))); (case side2 => exact HC0_0.out); (case side3 => repeat (first | exact (Kd.C_below HR0_1.out HB.out) | (with_reducible refine Kd.C_alloc ?_ _) | (with_reducible refine Kd.C_drewN ?_ _) | (with_reducible refine Kd.C_drew ?_))); (case side4 => exact HC0_1.out); (case side5 => repeat (first | exact (Kd.C_below HR0_2.out HB.out) | (with_reducible refine Kd.C_alloc ?_ _) | (with_reducible refine Kd.C_drewN ?_ _) | (with_reducible refine Kd.C_drew ?_))); (case side6 => exact HC0_2.out); (case side7 => repeat (first | exact (Kd.C_below HR0_3.out HB.out) | (with_reducible refine Kd.C_alloc ?_ _) | (with_reducible refine Kd.C_drewN ?_ _) | (with_reducible refine Kd.C_drew ?_))); (case side8 => exact HC0_3.out); (case side9 => repeat (first | exact (Kd.C_below HR0_4.out HB.out) | (with_reducible refine Kd.C_alloc ?_ _) | (with_reducible refine Kd.C_drewN ?_ _) | (with_reducible refine Kd.C_drew ?_))); (case side10 => exact HC0_4.out); rintro e w11 ⟨rfl, hb⟩; refine ⟨_, rfl, ?_⟩; have n0_ := Aside0.mk (blk_below (g := gb189) (o := .cells #[.slice A0_0 l0_0.length c0_0, .slice A0_1 l0_1.length c0_1, .slice A0_2 l0_2.length c0_2, .slice A0_3 l0_3.length c0_3, .slice A0_4 l0_4.length c0_4] 54 (0, 0)) (by (with_reducible repeat (first | refine blk_drewN ?_ _ | refine blk_drew ?_ | refine blk_alloc ?_ _)); exact BK189.out) hb); have n1_ := Aside0.mk (below_step (by repeat (first | (with_reducible first | exact HB.out | apply below_alloc | apply pw_below_drewN | apply below_drew1 | refine below_set ?_ GE189.out) | exact HB.out)) hb); clear BK189; clear HB; have BK189 := n0_; have HB := n1_; clear n0_ n1_; (try clear hb); (try clear hb2); (try clear hk); (try clear hi)))
    go_ret
    exact ⟨by first | rfl | (simp [errW_none, errW_some] <;> rfl) | (simp [*, errW_none, errW_some] <;> rfl), by repeat (first | (with_reducible first | exact HB.out | apply below_alloc | apply pw_below_drewN | apply below_drew1 | refine below_set ?_ GE189.out) | exact HB.out)⟩

/-! ### impl_isOp: function 105 -/
def impl_isOp.f (a0_0 : Int) (a0_1 : Int) (a1 : Int) : Option (Bool) := (impl_inRange.f a0_0 0 2).bind fun t193 => (if t193 = true then ((impl_inRange.f a0_1 0 (wrap64 (a1 - 1))).bind fun t194 => (some t194)) else (some false))
set_option maxHeartbeats 8000000 in
set_option maxRecDepth 100000 in
theorem impl_isOp.calls (a0_0 : Int) (a0_1 : Int) (a1 : Int) (r : Bool) (w : World) (h : impl_isOp.f a0_0 a0_1 a1 = some r) :
    Calls Try.prog 105 #[.agg #[.int .i64 a0_0, .int .i64 a0_1], .int .i64 a1] w fun e w' => e = .returned (.bool r) ∧ Below w.heap.size w w' := by
  have hu118 := Try.underlying118
  have HB := Aside0.mk (Below.refl w.heap.size w)
  have H : ((impl_inRange.f a0_0 0 2).bind fun t193 => (if t193 = true then ((impl_inRange.f a0_1 0 (wrap64 (a1 - 1))).bind fun t194 => (some t194)) else (some false))) = some r := h
  clear h
  replace H := Option.bind_eq_some_iff.mp H
  obtain ⟨t193, A30, H⟩ := H
  replace H : (if t193 = true then ((impl_inRange.f a0_1 0 (wrap64 (a1 - 1))).bind fun t194 => (some t194)) else (some false)) = some r := H
  have A3 := Aside0.mk A30
  clear A30
  by_cases c4 : t193 = true
  · subst c4
    have H1 : ((impl_inRange.f a0_1 0 (wrap64 (a1 - 1))).bind fun t194 => (some t194)) = some r := by rw [if_pos rfl] at H; exact H
    clear H
    have H := H1
    clear H1
    replace H := Option.bind_eq_some_iff.mp H
    obtain ⟨t194, A50, H⟩ := H
    replace H : (some t194) = some r := H
    have A5 := Aside0.mk A50
    clear A50
    obtain rfl := Option.some.inj H
    go_enter Try.func105, Try.ntmps105
    go_wp2_with (first | ((with_reducible refine gate_dst (N := 2) rfl ?_); refine box_event ?hg (N := 2) ?hd (cs := #[.int .i64 a0_0, .int .i64 a0_1]) (t := 118) ?hr ?_; (case hd => rfl); (case hg => rfl); (case hr => first | (go_simp; done) | (go_simp; rfl)); intro gb192 hg w6 hbox hb; have n0_ := Aside0.mk (below_step (by repeat (first | (with_reducible first | exact HB.out | apply below_alloc | apply pw_below_drewN | apply below_drew1) | exact HB.out)) hb); have n1_ := Aside0.mk (hbox); have n2_ := Aside0.mk ((by rw [hg]; exact (below_size (by repeat (first | (with_reducible first | exact HB.out | apply below_alloc | apply pw_below_drewN | apply below_drew1) | exact HB.out))) : w.heap.size ≤ gb192)); have n3_ := Aside0.mk ((by rw [hg]; exact (below_size (by repeat (first | (with_reducible first | exact HB.out | apply below_alloc | apply pw_below_drewN | apply below_drew1) | exact HB.out))) : w.heap.size ≤ gb192)); clear HB; have HB := n0_; have BK192 := n1_; have GW192 := n2_; have GE192 := n3_; clear n0_ n1_ n2_ n3_; clear hb hbox hg; have hcz7_0 : w6.cell? ⟨gb192, 0, none⟩ = some (.int .i64 a0_0) := (blk_cell BK192.out 0).trans rfl; have hcz7_1 : w6.cell? ⟨gb192, 1, none⟩ = some (.int .i64 a0_1) := (blk_cell BK192.out 1).trans rfl; have hfz7_0 := blk_frozen BK192.out 0; have hfz7_1 := blk_frozen BK192.out 1) | ((with_reducible refine gate_callee (f := 65) rfl ?_); refine goesL_ (some 7) rfl rfl Try.func65 (by kernel_rfl) rfl #[.int .i64 a0_0, .int .i64 0, .int .i64 2] rfl (by (try simp only [List.map_toArray, List.map_cons, List.map_nil]); first | done | rfl | (simp only [List.length_drop, List.length_take]; rfl)) ?_; (with_reducible refine (impl_inRange.calls a0_0 0 2 true _ A3.out).mono ?_); rintro e w' ⟨rfl, ⟨nd, rfl⟩⟩; refine ⟨_, rfl, ?_⟩) | (go_at_call 65; (with_reducible refine (impl_inRange.calls a0_1 0 (wrap64 (a1 - 1)) t194 _ A5.out).mono ?_); rintro e w' ⟨rfl, ⟨nd, rfl⟩⟩))
    go_ret
    exact ⟨by first | rfl | (simp [errW_none, errW_some] <;> rfl) | (simp [*, errW_none, errW_some] <;> rfl), by repeat (first | (with_reducible first | exact HB.out | apply below_alloc | apply pw_below_drewN | apply below_drew1 | refine below_set ?_ GE192.out) | exact HB.out)⟩
  · replace c4 := Bool.eq_false_iff.mpr c4
    subst c4
    have H1 : (some false) = some r := by rw [if_neg (show ¬ (false = true) by decide)] at H; exact H
    clear H
    have H := H1
    clear H1
    obtain rfl := Option.some.inj H
    go_enter Try.func105, Try.ntmps105
    go_wp2_with (first | ((with_reducible refine gate_dst (N := 2) rfl ?_); refine box_event ?hg (N := 2) ?hd (cs := #[.int .i64 a0_0, .int .i64 a0_1]) (t := 118) ?hr ?_; (case hd => rfl); (case hg => rfl); (case hr => first | (go_simp; done) | (go_simp; rfl)); intro gb192 hg w8 hbox hb; have n0_ := Aside0.mk (below_step (by repeat (first | (with_reducible first | exact HB.out | apply below_alloc | apply pw_below_drewN | apply below_drew1) | exact HB.out)) hb); have n1_ := Aside0.mk (hbox); have n2_ := Aside0.mk ((by rw [hg]; exact (below_size (by repeat (first | (with_reducible first | exact HB.out | apply below_alloc | apply pw_below_drewN | apply below_drew1) | exact HB.out))) : w.heap.size ≤ gb192)); have n3_ := Aside0.mk ((by rw [hg]; exact (below_size (by repeat (first | (with_reducible first | exact HB.out | apply below_alloc | apply pw_below_drewN | apply below_drew1) | exact HB.out))) : w.heap.size ≤ gb192)); clear HB; have HB := n0_; have BK192 := n1_; have GW192 := n2_; have GE192 := n3_; clear n0_ n1_ n2_ n3_; clear hb hbox hg; have hcz9_0 : w8.cell? ⟨gb192, 0, none⟩ = some (.int .i64 a0_0) := (blk_cell BK192.out 0).trans rfl; have hcz9_1 : w8.cell? ⟨gb192, 1, none⟩ = some (.int .i64 a0_1) := (blk_cell BK192.out 1).trans rfl; have hfz9_0 := blk_frozen BK192.out 0; have hfz9_1 := blk_frozen BK192.out 1) | ((with_reducible refine gate_callee (f := 65) rfl ?_); refine goesL_ (some 7) rfl rfl Try.func65 (by kernel_rfl) rfl #[.int .i64 a0_0, .int .i64 0, .int .i64 2] rfl (by (try simp only [List.map_toArray, List.map_cons, List.map_nil]); first | done | rfl | (simp only [List.length_drop, List.length_take]; rfl)) ?_; (with_reducible refine (impl_inRange.calls a0_0 0 2 false _ A3.out).mono ?_); rintro e w' ⟨rfl, ⟨nd, rfl⟩⟩; refine ⟨_, rfl, ?_⟩))
    go_ret
    exact ⟨by first | rfl | (simp [errW_none, errW_some] <;> rfl) | (simp [*, errW_none, errW_some] <;> rfl), by repeat (first | (with_reducible first | exact HB.out | apply below_alloc | apply pw_below_drewN | apply below_drew1 | refine below_set ?_ GE192.out) | exact HB.out)⟩

-- NOT PRINTED: function 104 (impl_areOps_1)

/-! ### impl_areOps: function 78 -/
set_option maxHeartbeats 400000 in
/-- slices.IndexFunc over Op, at whatever closure. -/
theorem xIdxGOp (cl : Nat) (lb : Array Value) (eg : Enters Try.prog cl) (p : S118 → Bool) (A0 : Option Addr) (c0 : Nat) (l0 : List S118) (w : World) (hr0 : Kd.C k118 w A0 l0.length l0)
    (hp : ∀ (W : World) (y : S118), y ∈ l0 → Below w.heap.size w W → Calls Try.prog cl (#[.agg #[.int .i64 y.f0, .int .i64 y.f1]] ++ lb) W fun e w' => e = .returned (.bool (p y)) ∧ Below W.heap.size W w') :
    Calls Try.prog 114 #[.slice A0 l0.length c0, .func (.func cl) #[] lb] w fun e w' => e = .returned (.int .i64 (xIdx p l0 0)) ∧ Below w.heap.size w w' := by
  have HR0 := Aside0.mk hr0
  have HP := Aside0.mk hp
  have hbig := hr0.2.1
  have eg' : ∀ args w, (callFunc cl args).run Try.prog w = .ok (.enter cl args) w := eg
  clear hr0 hp
  go_enter Try.func114, Try.ntmps114
  go_wp2
  go_loopg [5, 8] l0.length (fun gg _ s8 wr => ∃ kk : Nat, kk ≤ l0.length ∧ l0.length - kk ≤ gg ∧ s8 = .int .i64 kk ∧ Aside0 (Below w.heap.size w wr) ∧ Aside0 (xIdx p l0 0 = xIdx p (l0.drop kk) (kk : Int)))
  case atStart => exact ⟨0, Nat.zero_le _, by omega, rfl, ⟨Below.refl _ w⟩, ⟨by simp⟩⟩
  case round =>
    obtain ⟨kk, hkk, hg, rfl, BW, AX⟩ := hrel
    by_cases hlt : kk < l0.length
    · have hltz : (kk : Int) < (l0.length : Int) := by omega
      obtain ⟨ad, e, hx0, hx1⟩ := at_T118 (Kd.C_below HR0.out BW.out) (kk : Int) (by omega) hltz
      subst e
      obtain ⟨y, hy⟩ : ∃ y, y = rd_T118 l0 (kk : Int) := ⟨_, rfl⟩
      have hmem : y ∈ l0 := by rw [hy]; unfold rd_T118; rw [Int.toNat_natCast, getD_lt l0 kk _ hlt]; exact List.getElem_mem _
      rw [← hy] at hx0 hx1
      simp only [Int.toNat_natCast] at hx0 hx1
      have HY := Aside0.mk hy
      clear hy
      have hcall := HP.out _ y hmem BW.out
      cases hq : p y with
      | true =>
        rw [hq] at hcall
        have HQ := Aside0.mk hq
        have HCL := Aside0.mk hcall
        clear hq hcall
        go_wp2_with (go_at_fn cl; refine HCL.out.mono ?_; rintro e w' ⟨rfl, hb'⟩)
        go_ret
        refine ⟨?_, below_le BW.out hb'⟩
        have hyy : p (l0.getD kk z118) = true := by have := HQ.out; rw [HY.out] at this; exact this
        rw [AX.out, xIdx_drop_hit _ _ _ _ hlt _ hyy]
        rfl
      | false =>
        rw [hq] at hcall
        have HQ := Aside0.mk hq
        have HCL := Aside0.mk hcall
        clear hq hcall
        go_wp2_with (go_at_fn cl; refine HCL.out.mono ?_; rintro e w' ⟨rfl, hb'⟩)
        go_roundg (l0.length - (kk + 1))
        case measure => omega
        case rel =>
          have hyy : p (l0.getD kk z118) = false := by have := HQ.out; rw [HY.out] at this; exact this
          exact ⟨kk + 1, by omega, by omega, by go_num, ⟨below_le BW.out hb'⟩, ⟨by rw [AX.out, xIdx_drop_miss _ _ _ _ hlt _ hyy]; rfl⟩⟩
    · have hltz : ¬ (kk : Int) < (l0.length : Int) := by omega
      have hle : l0.length ≤ kk := by omega
      go_wp2
      go_ret
      refine ⟨?_, BW.out⟩
      rw [AX.out, xIdx_drop_end _ _ _ hle]
      rfl
set_option maxHeartbeats 400000 in
theorem xHasGOp (cl : Nat) (lb : Array Value) (eg : Enters Try.prog cl) (p : S118 → Bool) (A0 : Option Addr) (c0 : Nat) (l0 : List S118) (w : World) (hr0 : Kd.C k118 w A0 l0.length l0)
    (hp : ∀ (W : World) (y : S118), y ∈ l0 → Below w.heap.size w W → Calls Try.prog cl (#[.agg #[.int .i64 y.f0, .int .i64 y.f1]] ++ lb) W fun e w' => e = .returned (.bool (p y)) ∧ Below W.heap.size W w') :
    Calls Try.prog 103 #[.slice A0 l0.length c0, .func (.func cl) #[] lb] w fun e w' => e = .returned (.bool (l0.any p)) ∧ Below w.heap.size w w' := by
  have HE := Aside0.mk (xIdx_nonneg p l0 0 (Int.le_refl _))
  have HR0 := Aside0.mk hr0
  have HP := Aside0.mk hp
  clear hr0 hp
  go_enter Try.func103, Try.ntmps103
  go_wp2_with (go_at_call 114; (refine (xIdxGOp cl lb eg p A0 c0 l0 _ HR0.out HP.out).mono ?_); rintro e w' ⟨rfl, hb'⟩)
  go_ret
  exact ⟨by rw [← HE.out]; rfl, hb'⟩
def xOpOk (n : Int) (y : S118) : Bool := (decide (0 ≤ y.f0) && decide (y.f0 ≤ 2)) && (decide (0 ≤ y.f1) && decide (y.f1 ≤ n - 1))
theorem xIsOp_f (n : Int) (y : S118) (h0 : -9223372036854775807 ≤ n) (h1 : n ≤ 9223372036854775807) : impl_isOp.f y.f0 y.f1 n = some (xOpOk n y) := by
  unfold impl_isOp.f impl_inRange.f xOpOk
  have hw : wrap64 (n - 1) = n - 1 := wrap_id (by omega) (by omega)
  rw [hw]
  by_cases a : 0 ≤ y.f0 <;> by_cases b : y.f0 ≤ 2 <;> by_cases c : 0 ≤ y.f1 <;> simp [a, b, c]
set_option maxHeartbeats 800000 in
theorem xOpCl (n : Int) (h0 : -9223372036854775807 ≤ n) (h1 : n ≤ 9223372036854775807) (g : Nat) (W : World) (y : S118) (hg : W.heap[g]? = some (.cells #[.int .i64 n] 2 (0, 0))) :
    Calls Try.prog 104 (#[.agg #[.int .i64 y.f0, .int .i64 y.f1]] ++ #[.pointer (some ⟨g, 0, none⟩)]) W fun e w' => e = .returned (.bool (!xOpOk n y)) ∧ Below W.heap.size W w' := by
  have q0 : W.cell? ⟨g, 0, none⟩ = some (.int .i64 n) := blk_cell hg 0
  have hl := blk_lt hg
  have HF := Aside0.mk (xIsOp_f n y h0 h1)
  have HG := Aside0.mk hg
  have hu := Try.underlying118
  clear hg
  show Calls _ _ #[.agg #[.int .i64 y.f0, .int .i64 y.f1], .pointer (some ⟨g, 0, none⟩)] _ _
  go_enter Try.func104, Try.ntmps104
  go_wp2_with (first
    | ((with_reducible refine gate_dst (N := 2) rfl ?_); refine box_event ?hg (N := 2) ?hd (cs := #[.int .i64 y.f0, .int .i64 y.f1]) (t := 118) ?hr ?_; (case hd => rfl); (case hg => rfl); (case hr => first | (go_simp; done) | (go_simp; rfl)); intro gb hgb w3 hbox hb; have BB := Aside0.mk hb; have b0 : w3.cell? ⟨gb, 0, none⟩ = some (.int .i64 y.f0) := blk_cell hbox 0; have b1 : w3.cell? ⟨gb, 1, none⟩ = some (.int .i64 y.f1) := blk_cell hbox 1; have q0 : w3.cell? ⟨g, 0, none⟩ = some (.int .i64 n) := blk_cell ((hb.block g hl).trans HG.out) 0; clear hbox hb hgb)
    | (go_at_call 105; (refine (impl_isOp.calls y.f0 y.f1 n _ _ HF.out).mono ?_); rintro e w' ⟨rfl, hb'⟩))
  go_ret
  exact ⟨rfl, below_le BB.out hb'⟩
def impl_areOps.f (l0 : List S118) (a1 : Int) : Option Bool := if -9223372036854775807 ≤ a1 ∧ a1 ≤ 9223372036854775807 then some (decide (l0.length ≤ 40) && l0.all (xOpOk a1)) else none
set_option maxHeartbeats 800000 in
theorem impl_areOps.calls (A0 : Option Addr) (c0 : Nat) (l0 : List (S118)) (a1 : Int) (r : Bool) (w : World) (hr0 : Kd.C k118 w A0 l0.length l0) (hc0 : l0.length ≤ c0) (h : impl_areOps.f l0 a1 = some r) :
    Calls Try.prog 78 #[.slice A0 l0.length c0, .int .i64 a1] w fun e w' => e = .returned (.bool r) ∧ Below w.heap.size w w' := by
  unfold impl_areOps.f at h
  by_cases hb : -9223372036854775807 ≤ a1 ∧ a1 ≤ 9223372036854775807
  · rw [if_pos hb] at h
    obtain rfl := Option.some.inj h
    obtain ⟨hb0, hb1⟩ := hb
    clear h
    have hbig := hr0.2.1
    have HR0 := Aside0.mk hr0
    have HA : Aside0 ((!l0.any fun y => !xOpOk a1 y) = l0.all (xOpOk a1)) := ⟨by rw [List.not_any_eq_all_not]; simp⟩
    clear hr0
    by_cases hl : l0.length ≤ 40
    · have hl1 : decide (l0.length ≤ 40) = true := decide_eq_true hl
      have hl2 : decide ((l0.length : Int) ≤ 40) = true := by simp; omega
      rw [hl1, Bool.true_and, ← HA.out]
      go_enter Try.func78, Try.ntmps78
      go_wp2_with (go_at_call 103; (refine (xHasGOp 104 #[.pointer (some ⟨w.heap.size, 0, none⟩)] (enters_of Try.func104 (by kernel_rfl) rfl) (fun y => !xOpOk a1 y) A0 c0 l0 (w.alloc (.cells #[.int .i64 a1] 2)) (Kd.C_alloc HR0.out _) (fun W y _ hW => xOpCl a1 hb0 hb1 w.heap.size W y ((hW.block w.heap.size (by simp)).trans (heap_alloc_new w _)))).mono ?_); rintro e w' ⟨rfl, hb'⟩)
      go_ret
      exact ⟨rfl, below_le (below_alloc (Below.refl _ _) _) hb'⟩
    · have hl1 : decide (l0.length ≤ 40) = false := decide_eq_false hl
      have hl2 : decide ((l0.length : Int) ≤ 40) = false := by simp; omega
      rw [hl1, Bool.false_and]
      go_enter Try.func78, Try.ntmps78
      go_wp2_with fail
      go_ret
      exact ⟨rfl, below_alloc (Below.refl _ _) _⟩
  · rw [if_neg hb] at h
    exact absurd h (by simp)


/-! ### impl_firstSystem: function 79 -/
def impl_firstSystem.f (a0 : Int) : Option (List Int × List Bool × Bool) := if 0 ≤ a0 then (if (a0 : Int).toNat ≤ 35184372088832 then (if (a0 : Int).toNat ≤ 281474976710656 then (some ((List.replicate (a0 : Int).toNat 0), (List.replicate (a0 : Int).toNat false), true)) else (none)) else (none)) else (none)
set_option maxHeartbeats 8000000 in
set_option maxRecDepth 100000 in
theorem impl_firstSystem.calls (a0 : Int) (r1 : List Int) (r2 : List Bool) (r3 : Bool) (w : World) (h : impl_firstSystem.f a0 = some (r1, r2, r3)) :
    Calls Try.prog 79 #[.int .i64 a0] w fun e w' => ∃ v0_ v1_ : Value, e = .returned (.agg #[v0_, v1_, .bool r3]) ∧ Kd.R (Kd.int .i64) 2 w' w.heap.size (fun _ => True) v0_ r1 ∧ Kd.R Kd.bool 4 w' w.heap.size (fun _ => True) v1_ r2 ∧ Below w.heap.size w w' := by
  have hu73 := Try.underlying73
  have HB := Aside0.mk (Below.refl w.heap.size w)
  have H : (if 0 ≤ a0 then (if (a0 : Int).toNat ≤ 35184372088832 then (if (a0 : Int).toNat ≤ 281474976710656 then (some ((List.replicate (a0 : Int).toNat 0), (List.replicate (a0 : Int).toNat false), true)) else (none)) else (none)) else (none)) = some (r1, r2, r3) := h
  clear h
  by_cases c2 : 0 ≤ a0
  · rw [if_pos c2] at H
    have c2b0 := eq_true c2
    have c2b1 : decide (0 ≤ a0) = true := decide_eq_true c2
    clear c2
    by_cases c3 : (a0 : Int).toNat ≤ 35184372088832
    · rw [if_pos c3] at H
      have c3b0 := eq_true c3
      have c3b1 : decide ((a0 : Int).toNat ≤ 35184372088832) = true := decide_eq_true c3
      clear c3
      obtain ⟨y197, hy197⟩ : ∃ y_ : List Int, y_ = (List.replicate (a0 : Int).toNat 0) := ⟨_, rfl⟩
      replace H : (if (a0 : Int).toNat ≤ 281474976710656 then (some (y197, (List.replicate (a0 : Int).toNat false), true)) else (none)) = some (r1, r2, r3) := by first | (rw [hy197]; with_reducible exact H) | (have H2_ := (Option.bind_some _ _).symm.trans H; rw [hy197]; with_reducible exact H2_) | (have H2_ := (Option.bind_some _ _).symm.trans H; with_reducible exact H2_) | with_reducible exact H | (rw [hy197]; exact H) | exact H
      have Ny197 := Aside0.mk hy197
      clear hy197
      by_cases c4 : (a0 : Int).toNat ≤ 281474976710656
      · rw [if_pos c4] at H
        have c4b0 := eq_true c4
        have c4b1 : decide ((a0 : Int).toNat ≤ 281474976710656) = true := decide_eq_true c4
        clear c4
        obtain ⟨y200, hy200⟩ : ∃ y_ : List Bool, y_ = (List.replicate (a0 : Int).toNat false) := ⟨_, rfl⟩
        replace H : (some (y197, y200, true)) = some (r1, r2, r3) := by first | (rw [hy200]; with_reducible exact H) | (have H2_ := (Option.bind_some _ _).symm.trans H; rw [hy200]; with_reducible exact H2_) | (have H2_ := (Option.bind_some _ _).symm.trans H; with_reducible exact H2_) | with_reducible exact H | (rw [hy200]; exact H) | exact H
        have Ny200 := Aside0.mk hy200
        clear hy200
        simp only [Option.some.injEq, Prod.mk.injEq] at H
        obtain ⟨rfl, rfl, rfl⟩ := H
        go_enter Try.func79, Try.ntmps79
        try go_wp2_with (first | ((with_reducible refine gate_dst (N := 2) rfl ?_); refine box_event ?hg (N := 2) ?hd (cs := #[.slice none 0 0, .slice none 0 0, .bool false]) (t := 73) ?hr ?_; (case hd => rfl); (case hg => rfl); (case hr => first | (go_simp; done) | (go_simp; rfl)); intro gb196 hg w5 hbox hb; have n0_ := Aside0.mk (below_step (by repeat (first | (with_reducible first | exact HB.out | apply below_alloc | apply pw_below_drewN | apply below_drew1) | exact HB.out)) hb); have n1_ := Aside0.mk (hbox); have n2_ := Aside0.mk ((by rw [hg]; exact (below_size (by repeat (first | (with_reducible first | exact HB.out | apply below_alloc | apply pw_below_drewN | apply below_drew1) | exact HB.out))) : w.heap.size ≤ gb196)); have n3_ := Aside0.mk ((by rw [hg]; exact (below_size (by repeat (first | (with_reducible first | exact HB.out | apply below_alloc | apply pw_below_drewN | apply below_drew1) | exact HB.out))) : w.heap.size ≤ gb196)); clear HB; have HB := n0_; have BK196 := n1_; have GW196 := n2_; have GE196 := n3_; clear n0_ n1_ n2_ n3_; clear hb hbox hg))
        have n0_ := Aside0.mk (blk_drew BK196.out)
        have n1_ := Aside0.mk (below_drew1 HB.out)
        clear BK196
        clear HB
        have BK196 := n0_
        have HB := n1_
        clear n0_ n1_
        refine start_ (n := 6) (S := fun w' => True) (ds := []) #[false, false, false, false, false, false] (by kernel_rfl) rfl rfl trivial (fun hHeld => ?_)
        generalize w5.drew = w6 at BK196 HB hHeld ⊢
        refine pure_ (i := 0) (N := some 3) (v := ?_) (a' := ?_) #[true, false, false, false, false, false] rfl rfl (by kernel_rfl) (fun _ _ _ h => h) (Or.inl ⟨by rfl, ?_⟩) ?_ ?_
        rotate_left
        · intro w'
          go_simp
          with_reducible rfl
        rotate_left
        · simp only [Act.put, List.setIfInBounds_toArray, List.set_cons_zero, List.set_cons_succ, i64_w, i32_w]
          rfl
        refine pure_ (i := 2) (N := some 5) (v := ?_) (a' := ?_) #[true, false, true, false, false, false] rfl rfl (by kernel_rfl) (fun _ _ _ h => h) (Or.inl ⟨by rfl, ?_⟩) ?_ ?_
        rotate_left
        · intro w'
          go_simp
          with_reducible rfl
        rotate_left
        · simp only [Act.put, List.setIfInBounds_toArray, List.set_cons_zero, List.set_cons_succ, i64_w, i32_w]
          rfl
        refine join_ (σ := Value × Value) 2 #[true, true, true, true, false, false] (fun s_ => [(4, s_.1), (6, s_.2)]) (fun s_ w' => (Kd.R (Kd.int .i64) 2 w' w.heap.size (fun _ => True) s_.1 y197) ∧ (Kd.R Kd.bool 4 w' w.heap.size (fun _ => True) s_.2 y200) ∧ (w'.heap[gb196]? = some (.cells #[.slice none 0 0, .slice none 0 0, .bool false] 73 (0, 0))) ∧ (Below w.heap.size w w')) ?_ ?_
        rotate_left
        · intro hCont
          refine two_ (i := 1) (j := 3) (Ni := some 4) (Nj := some 6) #[true, true, true, false, false, false] #[true, false, true, true, false, false] rfl rfl rfl rfl (by kernel_rfl) (by decide) (by decide) (fun K hK => ?_) (fun K hK => ?_)
          · skip
            refine Kd.R_make_step (Kd.int .i64) _ 2 (by rfl) (N := 4) rfl 27 _ _ rfl a0 rfl rfl Try.underlying27 (.int .i64 0) 8 info2 rfl (by decide) (by omega) 0 (ok := fun _ => True) (okp := fun _ => True) rfl (fun _ hk => hk) trivial (of_decide_eq_true (by first | (with_reducible assumption) | assumption)) (Nat.le_trans (Nat.mul_le_mul_right _ (of_decide_eq_true (by first | (with_reducible assumption) | assumption) : a0.toNat ≤ 35184372088832)) (by omega)) (Below.refl _ _) (Nat.le_refl _) ?_
            intro v198 w7 ho8 hb hg_ hnew_
            clear hg_ hnew_
            (first | rw [← Ny197.out] at ho8 | (simp only [Int.reduceToNat] at ho8; rw [← Ny197.out] at ho8))
            have n0_ := Aside0.mk (Kd.R_lower ho8 (below_size (by repeat (first | (with_reducible first | exact HB.out | apply below_alloc | apply pw_below_drewN | apply below_drew1 | refine below_set ?_ GE196.out) | exact HB.out))))
            have n1_ := Aside0.mk (blk_below (g := gb196) (o := .cells #[.slice none 0 0, .slice none 0 0, .bool false] 73 (0, 0)) (by (with_reducible repeat (first | refine blk_drewN ?_ _ | refine blk_drew ?_ | refine blk_alloc ?_ _)); exact BK196.out) hb)
            have n2_ := Aside0.mk (below_step (by repeat (first | (with_reducible first | exact HB.out | apply below_alloc | apply pw_below_drewN | apply below_drew1 | refine below_set ?_ GE196.out) | exact HB.out)) hb)
            clear BK196
            clear HB
            have HO199 := n0_
            have BK196 := n1_
            have HB := n2_
            clear n0_ n1_ n2_
            clear hb ho8
            refine hK.out _ _ trivial (fun hHeld => ?_)
            clear hK K
            refine norm_ (a' := ?_) ?_ ?_
            rotate_left
            · show Act.put _ (some 4) _ = _
              simp only [Act.put, List.setIfInBounds_toArray, List.set_cons_zero, List.set_cons_succ, i64_w, i32_w]
              rfl
            refine one_ (i := 3) (N := some 6) #[true, true, true, true, false, false] rfl rfl (by kernel_rfl) (by decide) (fun K hK => ?_)
            refine Kd.R_make_step Kd.bool _ 4 (by rfl) (N := 6) rfl 71 _ _ rfl a0 rfl rfl Try.underlying71 (.bool false) 1 info4 rfl (by decide) (by omega) false (ok := fun _ => True) (okp := fun _ => True) rfl (fun _ hk => hk) trivial (of_decide_eq_true (by first | (with_reducible assumption) | assumption)) (Nat.le_trans (Nat.mul_le_mul_right _ (of_decide_eq_true (by first | (with_reducible assumption) | assumption) : a0.toNat ≤ 281474976710656)) (by omega)) (Below.refl _ _) (Nat.le_refl _) ?_
            intro v201 w9 ho10 hb hg_ hnew_
            clear hg_ hnew_
            (first | rw [← Ny200.out] at ho10 | (simp only [Int.reduceToNat] at ho10; rw [← Ny200.out] at ho10))
            have n0_ := Aside0.mk (Kd.R_below (by (with_reducible repeat (first | apply Kd.R_alloc | apply Kd.R_drewN | apply Kd.R_drew)); exact HO199.out) hb)
            have n1_ := Aside0.mk (Kd.R_lower ho10 (below_size (by repeat (first | (with_reducible first | exact HB.out | apply below_alloc | apply pw_below_drewN | apply below_drew1 | refine below_set ?_ GE196.out) | exact HB.out))))
            have n2_ := Aside0.mk (blk_below (g := gb196) (o := .cells #[.slice none 0 0, .slice none 0 0, .bool false] 73 (0, 0)) (by (with_reducible repeat (first | refine blk_drewN ?_ _ | refine blk_drew ?_ | refine blk_alloc ?_ _)); exact BK196.out) hb)
            have n3_ := Aside0.mk (below_step (by repeat (first | (with_reducible first | exact HB.out | apply below_alloc | apply pw_below_drewN | apply below_drew1 | refine below_set ?_ GE196.out) | exact HB.out)) hb)
            clear HO199
            clear BK196
            clear HB
            have HO199 := n0_
            have HO202 := n1_
            have BK196 := n2_
            have HB := n3_
            clear n0_ n1_ n2_ n3_
            clear hb ho10
            obtain ⟨Ao11, co11, eo11⟩ := Kd.R_slice HO202.out
            (first | subst eo11 | (injection eo11 with f1_ f2_ f3_; have f4_ := f1_.symm; have f5_ := f3_.symm; clear f1_ f2_ f3_; subst f4_; subst f5_))
            obtain ⟨Ao12, co12, eo12⟩ := Kd.R_slice HO199.out
            (first | subst eo12 | (injection eo12 with f1_ f2_ f3_; have f4_ := f1_.symm; have f5_ := f3_.symm; clear f1_ f2_ f3_; subst f4_; subst f5_))
            refine hK.out _ _ trivial (fun hHeld => ?_)
            clear hK K
            refine norm_ (a' := ?_) ?_ ?_
            rotate_left
            · show Act.put _ (some 6) _ = _
              simp only [Act.put, List.setIfInBounds_toArray, List.set_cons_zero, List.set_cons_succ, i64_w, i32_w]
              rfl
            exact norm_ (by simp only [putAll, Act.put, List.setIfInBounds_toArray, List.set_cons_zero, List.set_cons_succ]) (hCont (.slice Ao12 y197.length co12, .slice Ao11 y200.length co11) _ ⟨(by (with_reducible repeat (first | apply Kd.R_alloc | apply Kd.R_drewN | apply Kd.R_drew)); exact HO199.out), (by (with_reducible repeat (first | apply Kd.R_alloc | apply Kd.R_drewN | apply Kd.R_drew)); exact HO202.out), (by (with_reducible repeat (first | refine blk_drewN ?_ _ | refine blk_drew ?_ | refine blk_alloc ?_ _)); exact BK196.out), (by repeat (first | (with_reducible first | exact HB.out | apply below_alloc | apply pw_below_drewN | apply below_drew1 | refine below_set ?_ GE196.out) | exact HB.out))⟩)
          · skip
            refine Kd.R_make_step Kd.bool _ 4 (by rfl) (N := 6) rfl 71 _ _ rfl a0 rfl rfl Try.underlying71 (.bool false) 1 info4 rfl (by decide) (by omega) false (ok := fun _ => True) (okp := fun _ => True) rfl (fun _ hk => hk) trivial (of_decide_eq_true (by first | (with_reducible assumption) | assumption)) (Nat.le_trans (Nat.mul_le_mul_right _ (of_decide_eq_true (by first | (with_reducible assumption) | assumption) : a0.toNat ≤ 281474976710656)) (by omega)) (Below.refl _ _) (Nat.le_refl _) ?_
            intro v201 w7 ho8 hb hg_ hnew_
            clear hg_ hnew_
            (first | rw [← Ny200.out] at ho8 | (simp only [Int.reduceToNat] at ho8; rw [← Ny200.out] at ho8))
            have n0_ := Aside0.mk (Kd.R_lower ho8 (below_size (by repeat (first | (with_reducible first | exact HB.out | apply below_alloc | apply pw_below_drewN | apply below_drew1 | refine below_set ?_ GE196.out) | exact HB.out))))
            have n1_ := Aside0.mk (blk_below (g := gb196) (o := .cells #[.slice none 0 0, .slice none 0 0, .bool false] 73 (0, 0)) (by (with_reducible repeat (first | refine blk_drewN ?_ _ | refine blk_drew ?_ | refine blk_alloc ?_ _)); exact BK196.out) hb)
            have n2_ := Aside0.mk (below_step (by repeat (first | (with_reducible first | exact HB.out | apply below_alloc | apply pw_below_drewN | apply below_drew1 | refine below_set ?_ GE196.out) | exact HB.out)) hb)
            clear BK196
            clear HB
            have HO202 := n0_
            have BK196 := n1_
            have HB := n2_
            clear n0_ n1_ n2_
            clear hb ho8
            refine hK.out _ _ trivial (fun hHeld => ?_)
            clear hK K
            refine norm_ (a' := ?_) ?_ ?_
            rotate_left
            · show Act.put _ (some 6) _ = _
              simp only [Act.put, List.setIfInBounds_toArray, List.set_cons_zero, List.set_cons_succ, i64_w, i32_w]
              rfl
            refine one_ (i := 1) (N := some 4) #[true, true, true, true, false, false] rfl rfl (by kernel_rfl) (by decide) (fun K hK => ?_)
            refine Kd.R_make_step (Kd.int .i64) _ 2 (by rfl) (N := 4) rfl 27 _ _ rfl a0 rfl rfl Try.underlying27 (.int .i64 0) 8 info2 rfl (by decide) (by omega) 0 (ok := fun _ => True) (okp := fun _ => True) rfl (fun _ hk => hk) trivial (of_decide_eq_true (by first | (with_reducible assumption) | assumption)) (Nat.le_trans (Nat.mul_le_mul_right _ (of_decide_eq_true (by first | (with_reducible assumption) | assumption) : a0.toNat ≤ 35184372088832)) (by omega)) (Below.refl _ _) (Nat.le_refl _) ?_
            intro v198 w9 ho10 hb hg_ hnew_
            clear hg_ hnew_
            (first | rw [← Ny197.out] at ho10 | (simp only [Int.reduceToNat] at ho10; rw [← Ny197.out] at ho10))
            have n0_ := Aside0.mk (Kd.R_below (by (with_reducible repeat (first | apply Kd.R_alloc | apply Kd.R_drewN | apply Kd.R_drew)); exact HO202.out) hb)
            have n1_ := Aside0.mk (Kd.R_lower ho10 (below_size (by repeat (first | (with_reducible first | exact HB.out | apply below_alloc | apply pw_below_drewN | apply below_drew1 | refine below_set ?_ GE196.out) | exact HB.out))))
            have n2_ := Aside0.mk (blk_below (g := gb196) (o := .cells #[.slice none 0 0, .slice none 0 0, .bool false] 73 (0, 0)) (by (with_reducible repeat (first | refine blk_drewN ?_ _ | refine blk_drew ?_ | refine blk_alloc ?_ _)); exact BK196.out) hb)
            have n3_ := Aside0.mk (below_step (by repeat (first | (with_reducible first | exact HB.out | apply below_alloc | apply pw_below_drewN | apply below_drew1 | refine below_set ?_ GE196.out) | exact HB.out)) hb)
            clear HO202
            clear BK196
            clear HB
            have HO202 := n0_
            have HO199 := n1_
            have BK196 := n2_
            have HB := n3_
            clear n0_ n1_ n2_ n3_
            clear hb ho10
            obtain ⟨Ao11, co11, eo11⟩ := Kd.R_slice HO202.out
            (first | subst eo11 | (injection eo11 with f1_ f2_ f3_; have f4_ := f1_.symm; have f5_ := f3_.symm; clear f1_ f2_ f3_; subst f4_; subst f5_))
            obtain ⟨Ao12, co12, eo12⟩ := Kd.R_slice HO199.out
            (first | subst eo12 | (injection eo12 with f1_ f2_ f3_; have f4_ := f1_.symm; have f5_ := f3_.symm; clear f1_ f2_ f3_; subst f4_; subst f5_))
            refine hK.out _ _ trivial (fun hHeld => ?_)
            clear hK K
            refine norm_ (a' := ?_) ?_ ?_
            rotate_left
            · show Act.put _ (some 4) _ = _
              simp only [Act.put, List.setIfInBounds_toArray, List.set_cons_zero, List.set_cons_succ, i64_w, i32_w]
              rfl
            exact norm_ (by simp only [putAll, Act.put, List.setIfInBounds_toArray, List.set_cons_zero, List.set_cons_succ]) (hCont (.slice Ao12 y197.length co12, .slice Ao11 y200.length co11) _ ⟨(by (with_reducible repeat (first | apply Kd.R_alloc | apply Kd.R_drewN | apply Kd.R_drew)); exact HO199.out), (by (with_reducible repeat (first | apply Kd.R_alloc | apply Kd.R_drewN | apply Kd.R_drew)); exact HO202.out), (by (with_reducible repeat (first | refine blk_drewN ?_ _ | refine blk_drew ?_ | refine blk_alloc ?_ _)); exact BK196.out), (by repeat (first | (with_reducible first | exact HB.out | apply below_alloc | apply pw_below_drewN | apply below_drew1 | refine below_set ?_ GE196.out) | exact HB.out))⟩)
        rintro ⟨v198, v201⟩ w13 ⟨h0_, h1_, h2_, h3_⟩
        have n0_ : Aside0 (Kd.R (Kd.int .i64) 2 w13 w.heap.size (fun _ => True) v198 y197) := ⟨h0_⟩
        have n1_ : Aside0 (Kd.R Kd.bool 4 w13 w.heap.size (fun _ => True) v201 y200) := ⟨h1_⟩
        have n2_ : Aside0 (w13.heap[gb196]? = some (.cells #[.slice none 0 0, .slice none 0 0, .bool false] 73 (0, 0))) := ⟨h2_⟩
        have n3_ : Aside0 (Below w.heap.size w w13) := ⟨h3_⟩
        clear BK196
        clear HB
        clear h0_ h1_ h2_ h3_
        have HO199 := n0_
        have HO202 := n1_
        have BK196 := n2_
        have HB := n3_
        clear n0_ n1_ n2_ n3_
        have hHeld := trivial
        obtain ⟨Ao14, co14, eo14⟩ := Kd.R_slice HO202.out
        (first | subst eo14 | (injection eo14 with f1_ f2_ f3_; have f4_ := f1_.symm; have f5_ := f3_.symm; clear f1_ f2_ f3_; subst f4_; subst f5_))
        obtain ⟨Ao15, co15, eo15⟩ := Kd.R_slice HO199.out
        (first | subst eo15 | (injection eo15 with f1_ f2_ f3_; have f4_ := f1_.symm; have f5_ := f3_.symm; clear f1_ f2_ f3_; subst f4_; subst f5_))
        refine norm_ (a' := ?_) ?_ ?_
        rotate_left
        · simp only [putAll, Act.put, List.setIfInBounds_toArray, List.set_cons_zero, List.set_cons_succ]
          rfl
        refine pure_ (i := 4) (N := some 7) (v := ?_) (a' := ?_) #[true, true, true, true, true, false] rfl rfl (by kernel_rfl) (fun _ _ _ h => h) (Or.inl ⟨by rfl, ?_⟩) ?_ ?_
        rotate_left
        · intro w'
          go_simp
          with_reducible rfl
        rotate_left
        · simp only [Act.put, List.setIfInBounds_toArray, List.set_cons_zero, List.set_cons_succ, i64_w, i32_w]
          rfl
        refine one_ (i := 5) (N := none) #[true, true, true, true, true, true] rfl rfl (by kernel_rfl) (by decide) (fun K hK => ?_)
        have hs16 : w13.cell? ⟨gb196, 0, none⟩ = some (.slice none 0 0) := (blk_cell BK196.out 0).trans rfl
        have hfs16 := blk_frozen BK196.out 0
        have hs17 : w13.cell? ⟨gb196, 1, none⟩ = some (.slice none 0 0) := (blk_cell BK196.out 1).trans rfl
        have hfs17 := blk_frozen BK196.out 1
        have hs18 : w13.cell? ⟨gb196, 2, none⟩ = some (.bool false) := (blk_cell BK196.out 2).trans rfl
        have hfs18 := blk_frozen BK196.out 2
        refine skip_ (w1 := ?_) (by rfl) rfl ?_ ?_
        rotate_left
        · go_simp
          rfl
        refine hK.out _ _ trivial (fun hHeld => ?_)
        clear hK K
        refine done_ (by kernel_rfl) ?_
        try go_wp2
        refine bodyPost_ret (results_cell_row rfl _ _ gb196 73 #[.slice Ao15 y197.length co15, .slice Ao14 y200.length co14, .bool true] (0, 0) _ rfl (by (with_reducible repeat (first | refine blk_drewN ?_ _ | refine blk_drew ?_ | refine blk_alloc ?_ _)); refine blk_put (cs := #[.slice Ao15 y197.length co15, .slice Ao14 y200.length co14, .bool false]) ?_ 2 _ rfl; (with_reducible repeat (first | refine blk_drewN ?_ _ | refine blk_drew ?_ | refine blk_alloc ?_ _)); refine blk_put (cs := #[.slice Ao15 y197.length co15, .slice none 0 0, .bool false]) ?_ 1 _ rfl; (with_reducible repeat (first | refine blk_drewN ?_ _ | refine blk_drew ?_ | refine blk_alloc ?_ _)); refine blk_put (cs := #[.slice none 0 0, .slice none 0 0, .bool false]) ?_ 0 _ rfl; (with_reducible repeat (first | refine blk_drewN ?_ _ | refine blk_drew ?_ | refine blk_alloc ?_ _)); exact BK196.out) Try.underlying73 rfl (by kernel_rfl)) rfl ?_
        exact ⟨_, _, by first | rfl | (simp [errW_none, errW_some] <;> rfl) | (simp [*, errW_none, errW_some] <;> rfl), by (with_reducible repeat (first | apply Kd.R_alloc | apply Kd.R_drewN | apply Kd.R_drew)); exact Kd.R_mono (Kd.R_far (p := ⟨gb196, 2, none⟩) (Kd.R_far (p := ⟨gb196, 1, none⟩) (Kd.R_far (p := ⟨gb196, 0, none⟩) (Kd.R_types HO199.out BK196.out (by decide)) (fun _ hk => hk.2) (.slice Ao15 y197.length co15)) (fun _ hk => hk.2) (.slice Ao14 y200.length co14)) (fun _ hk => hk.2) (.bool true)) (fun _ hk => trivial), by (with_reducible repeat (first | apply Kd.R_alloc | apply Kd.R_drewN | apply Kd.R_drew)); exact Kd.R_mono (Kd.R_far (p := ⟨gb196, 2, none⟩) (Kd.R_far (p := ⟨gb196, 1, none⟩) (Kd.R_far (p := ⟨gb196, 0, none⟩) (Kd.R_types HO202.out BK196.out (by decide)) (fun _ hk => hk.2) (.slice Ao15 y197.length co15)) (fun _ hk => hk.2) (.slice Ao14 y200.length co14)) (fun _ hk => hk.2) (.bool true)) (fun _ hk => trivial), by repeat (first | (with_reducible first | exact HB.out | apply below_alloc | apply pw_below_drewN | apply below_drew1 | refine below_set ?_ GE196.out) | exact HB.out)⟩
      · rw [if_neg c4] at H
        exact absurd H (by simp)
    · rw [if_neg c3] at H
      exact absurd H (by simp)
  · rw [if_neg c2] at H
    exact absurd H (by simp)

end Go.Proofs.Ytlaafbaheoeclaa.PFnExactRunSystem
