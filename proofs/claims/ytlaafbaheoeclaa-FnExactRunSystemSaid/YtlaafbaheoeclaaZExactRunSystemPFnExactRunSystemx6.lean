-- Printed by this session's own program (wip/tools/xprint.py) over the kit's print; not trusted: Lean checks it.
import Derived.Test.YtlaafbaheoeclaaZExactRunSystemPFnExactRunSystemx0
import Derived.Test.YtlaafbaheoeclaaZExactRunSystemPFnExactRunSystemx3
import Derived.Test.YtlaafbaheoeclaaZExactRunSystemPFnExactRunSystemx4
import Derived.Test.YtlaafbaheoeclaaZExactRunSystemPFnExactRunSystemx5
namespace Go.Proofs.Ytlaafbaheoeclaa.PFnExactRunSystem
open Go.RowKit Go.Proofs.YtlaafbaheoeclaaW.PrintWords Go.Proofs.YtlaafbaheoeclaaW.PrintLast Go.Proofs.YtlaafbaheoeclaaW.PrintMore
attribute [local go_sem] max2_int min2_int max_two min_two max_three min_three max_four min_four   -- for this text's walks alone
set_option linter.unusedVariables false
set_option linter.unusedSimpArgs false

/-! ### impl_RunSystem: function 42 -/
theorem rowOk_at {k : Nat} {l : List S58} : ∀ {n : Nat}, rowOk k l n = true → ∀ q, q < n → ruleOk k q (l.getD q z58) = true
  | 0, _, q, h => absurd h (Nat.not_lt_zero _)
  | n + 1, h, q, hq => by
    unfold rowOk at h
    rw [Bool.and_eq_true] at h
    by_cases e : q = n
    · subst e; exact h.2
    · exact rowOk_at h.1 q (by omega)
theorem tab_facts {k : Nat} {l : List S58} (h : tabOk k l = true) : l.length = 4 ∧ ∀ r ∈ l, (0 ≤ r.f0 ∧ r.f0 ≤ 3) ∧ (0 ≤ r.f1 ∧ r.f1 ≤ 3) ∧ (k = 0 → r.f0 ≠ 0 ∧ r.f1 ≠ 0) := by
  unfold tabOk at h
  rw [Bool.and_eq_true, decide_eq_true_eq] at h
  refine ⟨h.1, fun r hr => ?_⟩
  obtain ⟨q, hq, rfl⟩ := List.getElem_of_mem hr
  have h2 := rowOk_at h.2 q (by omega)
  rw [getD_lt l q _ hq] at h2
  unfold ruleOk at h2
  simp only [Bool.and_eq_true, decide_eq_true_eq, Bool.not_eq_true', Bool.and_eq_false_iff, Bool.or_eq_false_iff, decide_eq_false_iff_not] at h2
  obtain ⟨⟨⟨⟨⟨h3, h4⟩, h5, h6⟩, h7⟩, _⟩, _⟩ := h2
  refine ⟨⟨h3, h4⟩, ⟨h5, h6⟩, fun e => ?_⟩
  rcases h7 with h7 | h7
  · exact absurd e h7
  · exact h7
theorem vprot_facts {l0 l1 l2 l3 l4 : List S58} (h : vprot l0 l1 l2 l3 l4 = true) :
    (l0.length = 4 ∧ l1.length = 4 ∧ l2.length = 4 ∧ l3.length = 4 ∧ l4.length = 4) ∧ (∀ r ∈ l0, (0 ≤ r.f0 ∧ r.f0 ≤ 3) ∧ 0 ≤ r.f1 ∧ r.f1 ≤ 3) ∧ (∀ r ∈ l1, 0 ≤ r.f0 ∧ r.f0 ≤ 3) ∧ (∀ r ∈ l3, 0 ≤ r.f0 ∧ r.f0 ≤ 3) ∧ (∀ r ∈ l4, 0 ≤ r.f0 ∧ r.f0 ≤ 3) ∧ (∀ r ∈ l0, r.f0 ≠ 0 ∧ r.f1 ≠ 0) := by
  have hall : ∀ n, tabsOk (five l0 l1 l2 l3 l4) n = true → ∀ k, k < n → tabOk k (five l0 l1 l2 l3 l4 k) = true := by
    intro n
    induction n with
    | zero => intro _ k hk; exact absurd hk (Nat.not_lt_zero _)
    | succ n ih =>
      intro h k hk
      unfold tabsOk at h
      rw [Bool.and_eq_true] at h
      by_cases e : k = n
      · subst e; exact h.2
      · exact ih h.1 k (by omega)
  have a0 := tab_facts (hall 5 h 0 (by omega))
  have a1 := tab_facts (hall 5 h 1 (by omega))
  have a2 := tab_facts (hall 5 h 2 (by omega))
  have a3 := tab_facts (hall 5 h 3 (by omega))
  have a4 := tab_facts (hall 5 h 4 (by omega))
  exact ⟨⟨a0.1, a1.1, a2.1, a3.1, a4.1⟩, fun r hr => ⟨(a0.2 r hr).1, (a0.2 r hr).2.1⟩, fun r hr => (a1.2 r hr).1, fun r hr => (a3.2 r hr).1, fun r hr => (a4.2 r hr).1, fun r hr => (a0.2 r hr).2.2 rfl⟩
abbrev SysBox (g b0 b1 n c0 c1 : Nat) (m : Bool) (W : World) : Prop := W.heap[g]? = some (.cells #[.slice (some ⟨b0, 0, none⟩) n c0, .slice (some ⟨b1, 0, none⟩) n c1, .bool m] 73 (0, 0))
abbrev Copies (W : World) (b : Nat) (c : List Int) : Prop := RowB (Value.int .i64) W b c 2
abbrev Freshs (W : World) (b : Nat) (f : List Bool) : Prop := RowB Value.bool W b f 4
set_option maxHeartbeats 1600000 in
set_option maxRecDepth 100000 in
theorem implBecome (g b0 b1 c0 c1 n : Nat) (m : Bool) (c : List Int) (f : List Bool) (i : Nat) (held : Int) (fresh : Bool) (w : World) (hg : SysBox g b0 b1 n c0 c1 m w)
    (h0 : Copies w b0 c) (h1 : Freshs w b1 f) (hc : c.length = n) (hf : f.length = n) (hi : i < n) (hne : b0 ≠ b1) (hn0 : g ≠ b0) (hn1 : g ≠ b1) (hm : n ≤ 1048576) :
    Calls Try.prog 106 #[.pointer (some ⟨g, 0, none⟩), .int .i64 (i : Int), .int .i64 held, .bool fresh] w fun e w' => e = .returned (.tuple #[]) ∧ SysBox g b0 b1 n c0 c1 m w' ∧ Copies w' b0 (c.set i held) ∧ Freshs w' b1 (f.set i (fresh && !decide (held = 0))) ∧ Only w w' (fun k => k = b0 ∨ k = b1) := by
  have q0 : w.cell? ⟨g, 0, none⟩ = some (.slice (some ⟨b0, 0, none⟩) n c0) := blk_cell hg 0
  have q1 : w.cell? ⟨g, 1, none⟩ = some (.slice (some ⟨b1, 0, none⟩) n c1) := blk_cell hg 1
  have x0 := h0.cell (show i < c.length by omega) 0
  have x1 := h1.cell (show i < f.length by omega) false
  have z0 := h0.thaw i
  have z1 := h1.thaw i
  have hiz : (i : Int) < (n : Int) := by omega
  have hpz : 0 ≤ (i : Int) := by omega
  have HG := Aside0.mk hg
  have H0 := Aside0.mk h0
  have H1 := Aside0.mk h1
  have HC := Aside0.mk hc
  have HF := Aside0.mk hf
  obtain ⟨e0, he0⟩ : ∃ b, (held == 0) = b := ⟨_, rfl⟩
  have hn : (held != 0) = !e0 := by rw [← he0]; rfl
  have HD : Aside0 (decide (held = 0) = e0) := ⟨by rw [← he0]; rfl⟩
  clear he0 hg h0 h1 hc hf
  cases fresh <;> cases e0
  all_goals
    go_enter Try.func106, Try.ntmps106
    go_wp2
    go_region
    go_end0
    exact ⟨rfl, set_other (set_other HG.out _ hn0) _ hn1, (H0.out.put (by have := HC.out; omega) held _ rfl).other _ hne, ((H1.out.other _ hne.symm).put (by have := HF.out; omega) _ _ (by rw [HD.out]; rfl)), (((Only.refl _ _).setCell _ _ (.inl rfl)).setCell _ _ (.inr rfl)).drew⟩
/-- The caches from i on (d of them) see what a cache does. -/
def seeFrom (tab : List S58) (cache : Int) : Nat → Nat → List Int → List Bool → Bool → Int → List Int × List Bool × Bool × Int
  | 0, _, c, f, m, b => (c, f, m, b)
  | d + 1, i, c, f, m, b =>
    if ((i : Int) == cache) = true then seeFrom tab cache d (i + 1) c f m b
    else if (c.getD i 0 == 0) = true then seeFrom tab cache d (i + 1) c f m b
    else seeFrom tab cache d (i + 1) (c.set i (tab.getD (c.getD i 0).toNat z58).f0) (f.set i (f.getD i false && !decide ((tab.getD (c.getD i 0).toNat z58).f0 = 0)))
      (if (tab.getD (c.getD i 0).toNat z58).f2 = true then f.getD i false else m) (if (tab.getD (c.getD i 0).toNat z58).f2 = true then b + 1 else b)
def seeAll (tab : List S58) (cache : Int) (c : List Int) (f : List Bool) (m : Bool) : List Int × List Bool × Bool × Int := seeFrom tab cache c.length 0 c f m 0
set_option maxHeartbeats 3200000 in
set_option maxRecDepth 100000 in
theorem implSee (g b0 b1 c0 c1 n : Nat) (m : Bool) (c : List Int) (f : List Bool) (cache : Int) (A : Option Addr) (ct : Nat) (tab : List S58) (w : World) (hg : SysBox g b0 b1 n c0 c1 m w)
    (h0 : Copies w b0 c) (h1 : Freshs w b1 f) (hc : c.length = n) (hf : f.length = n) (hne : b0 ≠ b1) (hn0 : g ≠ b0) (hn1 : g ≠ b1) (hm : n ≤ 1048576)
    (ht : Kd.C k58 w A tab.length tab) (ht4 : tab.length = 4) (hd : ∀ ad, A = some ad → ad.block ≠ b0 ∧ ad.block ≠ b1 ∧ ad.block ≠ g) (hv : ∀ x ∈ c, 0 ≤ x ∧ x ≤ 3) (htv : ∀ r ∈ tab, 0 ≤ r.f0 ∧ r.f0 ≤ 3) :
    Calls Try.prog 107 #[.pointer (some ⟨g, 0, none⟩), .int .i64 cache, .slice A tab.length ct] w fun e w' => ∃ c' f' m' bk, e = .returned (.int .i64 bk) ∧ seeAll tab cache c f m = (c', f', m', bk) ∧ SysBox g b0 b1 n c0 c1 m' w' ∧ Copies w' b0 c' ∧ Freshs w' b1 f' ∧ c'.length = n ∧ f'.length = n ∧ (∀ x ∈ c', 0 ≤ x ∧ x ≤ 3) ∧ 0 ≤ bk ∧ bk ≤ n ∧ Only w w' (fun k => k = b0 ∨ k = b1 ∨ k = g) := by
  have q0 : w.cell? ⟨g, 0, none⟩ = some (.slice (some ⟨b0, 0, none⟩) n c0) := blk_cell hg 0
  have HG := Aside0.mk hg
  have H0 := Aside0.mk h0
  have H1 := Aside0.mk h1
  have HC := Aside0.mk hc
  have HF := Aside0.mk hf
  have HT := Aside0.mk ht
  have HT4 := Aside0.mk ht4
  have HD := Aside0.mk hd
  have HV := Aside0.mk hv
  have HTV := Aside0.mk htv
  obtain ⟨ad0, hA⟩ : ∃ ad, A = some ad := by obtain ⟨ad, e, _⟩ := at_T58 ht 0 (by omega) (by omega); exact ⟨ad, e⟩
  have hab := hd ad0 hA
  obtain ⟨hab0, hab1, habg⟩ := hab
  subst hA
  have hlt4 : (tab.length : Int) = 4 := by omega
  clear hg h0 h1 hc hf ht ht4 hd hv htv
  go_enter Try.func107, Try.ntmps107
  go_wp2
  clear q0
  go_loopg [7, 15] n (fun gg s7 s15 wr => ∃ (kk : Nat) (cc : List Int) (ff : List Bool) (mm : Bool) (bb : Int), kk ≤ n ∧ n - kk ≤ gg ∧ s15 = .int .i64 kk ∧ s7 = .int .i64 bb ∧ 0 ≤ bb ∧ bb ≤ kk ∧ Aside0 (SysBox g b0 b1 n c0 c1 mm wr) ∧ Aside0 (Copies wr b0 cc) ∧ Aside0 (Freshs wr b1 ff) ∧ Aside0 (cc.length = n) ∧ Aside0 (ff.length = n) ∧ Aside0 (∀ x ∈ cc, 0 ≤ x ∧ x ≤ 3) ∧ Aside0 (seeAll tab cache c f m = seeFrom tab cache (n - kk) kk cc ff mm bb) ∧ Aside0 (Only w wr (fun k => k = b0 ∨ k = b1 ∨ k = g)))
  case atStart => exact ⟨0, c, f, m, 0, by omega, by omega, rfl, rfl, by omega, by omega, HG, H0, H1, HC, HF, HV, ⟨by unfold seeAll; rw [HC.out]; rfl⟩, ⟨Only.refl _ _⟩⟩
  case round =>
    obtain ⟨kk, cc, ff, mm, bb, hkk, hgg, rfl, rfl, hb0, hbk, RG, R0, R1, RC, RF, RV, RS, RO⟩ := hrel
    obtain ⟨wo, rfl⟩ : ∃ wo : World, wo = wr := ⟨_, rfl⟩
    by_cases hlt : kk < n
    · have hltz : (kk : Int) < (n : Int) := by omega
      have RS1 : Aside0 (n - kk = (n - (kk + 1)) + 1) := ⟨by omega⟩
      have q0 : wo.cell? ⟨g, 0, none⟩ = some (.slice (some ⟨b0, 0, none⟩) n c0) := blk_cell RG.out 0
      have q1 : wo.cell? ⟨g, 1, none⟩ = some (.slice (some ⟨b1, 0, none⟩) n c1) := blk_cell RG.out 1
      have q2 : wo.cell? ⟨g, 2, none⟩ = some (.bool mm) := blk_cell RG.out 2
      have qz : wo.frozen? ⟨g, 2, none⟩ = false := blk_frozen RG.out 2
      have x0 := R0.out.cell (show kk < cc.length by have := RC.out; omega) 0
      have x1 := R1.out.cell (show kk < ff.length by have := RF.out; omega) false
      obtain ⟨x, hx⟩ : ∃ x, x = cc.getD kk 0 := ⟨_, rfl⟩
      obtain ⟨y, hy⟩ : ∃ y, y = ff.getD kk false := ⟨_, rfl⟩
      have hxv : 0 ≤ x ∧ x ≤ 3 := by
        rw [hx, getD_lt cc kk 0 (by have := RC.out; omega)]
        exact RV.out _ (List.getElem_mem _)
      obtain ⟨hxv0, hxv3⟩ := hxv
      rw [← hx] at x0
      rw [← hy] at x1
      have HX := Aside0.mk hx
      have HY := Aside0.mk hy
      clear hx hy
      obtain ⟨t0, t1, t2, t3, t4⟩ := at_T58 HT.out x hxv0 (by omega)
      cases t1
      have hx4 : x < 4 := by omega
      have hx5 : x < (tab.length : Int) := by omega
      have hx6 := eq_true hxv0
      have y0 := RO.out.cell t2 (by intro e; rcases e with e | e | e <;> first | exact hab0 ((blk_add _ _).symm.trans e) | exact hab1 ((blk_add _ _).symm.trans e) | exact habg ((blk_add _ _).symm.trans e))
      have y1 := RO.out.cell t3 (by intro e; rcases e with e | e | e <;> first | exact hab0 ((blk_add _ _).symm.trans e) | exact hab1 ((blk_add _ _).symm.trans e) | exact habg ((blk_add _ _).symm.trans e))
      have y2 := RO.out.cell t4 (by intro e; rcases e with e | e | e <;> first | exact hab0 ((blk_add _ _).symm.trans e) | exact hab1 ((blk_add _ _).symm.trans e) | exact habg ((blk_add _ _).symm.trans e))
      have T2 := Aside0.mk t2
      have T3 := Aside0.mk t3
      have T4 := Aside0.mk t4
      clear t2 t3 t4
      have hrv : Aside0 (0 ≤ (rd_T58 tab x).f0 ∧ (rd_T58 tab x).f0 ≤ 3) := ⟨HTV.out _ (by
        unfold rd_T58
        rw [getD_lt tab x.toNat _ (by have := HT4.out; omega)]
        exact List.getElem_mem _)⟩
      obtain ⟨r, hr⟩ : ∃ r, r = rd_T58 tab x := ⟨_, rfl⟩
      rw [← hr] at y0 y1 y2 hrv T2 T3 T4
      have HR : Aside0 (tab.getD (cc.getD kk 0).toNat z58 = r) := ⟨by rw [hr, ← HX.out]; rfl⟩
      clear hr
      obtain ⟨f0, f1, f2⟩ := r
      simp only at y0 y1 y2 T2 T3 T4
      obtain ⟨ec, hec⟩ : ∃ b, ((kk : Int) == cache) = b := ⟨_, rfl⟩
      obtain ⟨ex, hex⟩ : ∃ b, (x == 0) = b := ⟨_, rfl⟩
      have RT : Aside0 (seeFrom tab cache (n - kk) kk cc ff mm bb = if ec = true then seeFrom tab cache (n - (kk + 1)) (kk + 1) cc ff mm bb else if ex = true then seeFrom tab cache (n - (kk + 1)) (kk + 1) cc ff mm bb else seeFrom tab cache (n - (kk + 1)) (kk + 1) (cc.set kk f0) (ff.set kk (y && !decide (f0 = 0))) (if f2 = true then y else mm) (if f2 = true then bb + 1 else bb)) := ⟨by
        rw [RS1.out]
        simp only [seeFrom]
        rw [HR.out, hec, ← HX.out, hex, ← HY.out]⟩
      have hcase : ec = true ∨ (ec = false ∧ ex = true) ∨ (ec = false ∧ ex = false ∧ f2 = true) ∨ (ec = false ∧ ex = false ∧ f2 = false) := by cases ec <;> cases ex <;> cases f2 <;> simp
      rcases hcase with rfl | ⟨rfl, rfl⟩ | ⟨rfl, rfl, rfl⟩ | ⟨rfl, rfl, rfl⟩
      · go_wp2
        go_roundg (n - (kk + 1))
        case measure => omega
        case rel => exact ⟨kk + 1, cc, ff, mm, bb, by omega, by omega, by go_num, rfl, by omega, by omega, RG, R0, R1, RC, RF, RV, ⟨RS.out.trans RT.out⟩, RO⟩
      · go_wp2
        go_roundg (n - (kk + 1))
        case measure => omega
        case rel => exact ⟨kk + 1, cc, ff, mm, bb, by omega, by omega, by go_num, rfl, by omega, by omega, RG, R0, R1, RC, RF, RV, ⟨RS.out.trans RT.out⟩, RO⟩
      · go_wp2_with ((with_reducible refine gate_store (t := 4) (p := 41) rfl ?_); refine store_event (t := 4) (p := 41) (v := .tmp 39) (w1 := wo.setCell ⟨g, 2, none⟩ (.bool y)) ?hg ?ho ?hn ?hr ?_; (case ho => rfl); (case hg => rfl); (case hn => rfl); (case hr => first | (go_simp; done) | (go_simp; rfl)); intro w2 hw; have RG2 : Aside0 (SysBox g b0 b1 n c0 c1 y w2) := ⟨by rw [hw]; exact set_same RG.out _⟩; have R02 : Aside0 (Copies w2 b0 cc) := ⟨by rw [hw]; exact R0.out.other _ hn0.symm⟩; have R12 : Aside0 (Freshs w2 b1 ff) := ⟨by rw [hw]; exact R1.out.other _ hn1.symm⟩; have RO2 : Aside0 (Only w w2 (fun k => k = b0 ∨ k = b1 ∨ k = g)) := ⟨by rw [hw]; exact RO.out.setCell _ _ (.inr (.inr rfl))⟩; clear hw; have q1 : w2.cell? ⟨g, 1, none⟩ = some (.slice (some ⟨b1, 0, none⟩) n c1) := blk_cell RG2.out 1; have x1 : w2.cell? ⟨b1, kk, none⟩ = some (.bool y) := (by have := R12.out.cell (show kk < ff.length by have := RF.out; omega) false; rw [← HY.out] at this; exact this); have y0 := RO2.out.cell T2.out (by intro e; rcases e with e | e | e <;> first | exact hab0 ((blk_add _ _).symm.trans e) | exact hab1 ((blk_add _ _).symm.trans e) | exact habg ((blk_add _ _).symm.trans e)))
        go_still_tail 14, (by kernel_rfl)
        go_wp2_with (go_at_call 106; (refine (implBecome g b0 b1 c0 c1 n y cc ff kk f0 y w2.drew RG2.out R02.out R12.out RC.out RF.out hlt hne hn0 hn1 hm).mono ?_); rintro e w' ⟨rfl, hg', h0', h1', ho'⟩)
        go_roundg (n - (kk + 1))
        case measure => omega
        case rel =>
          refine ⟨kk + 1, cc.set kk f0, ff.set kk (y && !decide (f0 = 0)), y, bb + 1, by omega, by omega, by go_num, rfl, by omega, by omega, ⟨hg'⟩, ⟨h0'⟩, ⟨h1'⟩, ⟨by rw [List.length_set]; exact RC.out⟩, ⟨by rw [List.length_set]; exact RF.out⟩, ⟨fun z hz => ?_⟩, ⟨RS.out.trans RT.out⟩, ⟨RO2.out.drew.then_ (S' := fun k => k = b0 ∨ k = b1) ho' (fun i hi _ => hi.elim .inl (fun z => .inr (.inl z)))⟩⟩
          rcases List.mem_or_eq_of_mem_set hz with hz | hz
          · exact RV.out z hz
          · rw [hz]; exact hrv.out
      · go_wp2
        go_still_tail 14, (by kernel_rfl)
        go_wp2_with (go_at_call 106; (refine (implBecome g b0 b1 c0 c1 n mm cc ff kk f0 y wo.drew RG.out R0.out R1.out RC.out RF.out hlt hne hn0 hn1 hm).mono ?_); rintro e w' ⟨rfl, hg', h0', h1', ho'⟩)
        go_roundg (n - (kk + 1))
        case measure => omega
        case rel =>
          refine ⟨kk + 1, cc.set kk f0, ff.set kk (y && !decide (f0 = 0)), mm, bb, by omega, by omega, by go_num, rfl, by omega, by omega, ⟨hg'⟩, ⟨h0'⟩, ⟨h1'⟩, ⟨by rw [List.length_set]; exact RC.out⟩, ⟨by rw [List.length_set]; exact RF.out⟩, ⟨fun z hz => ?_⟩, ⟨RS.out.trans RT.out⟩, ⟨RO.out.drew.then_ (S' := fun k => k = b0 ∨ k = b1) ho' (fun i hi _ => hi.elim .inl (fun z => .inr (.inl z)))⟩⟩
          rcases List.mem_or_eq_of_mem_set hz with hz | hz
          · exact RV.out z hz
          · rw [hz]; exact hrv.out
    · obtain rfl : kk = n := by omega
      go_wp2
      go_ret
      refine ⟨cc, ff, mm, bb, rfl, ?_, RG.out, R0.out, R1.out, RC.out, RF.out, RV.out, by omega, by omega, RO.out⟩
      rw [RS.out, Nat.sub_self]
      rfl
def finI (c : List Int) (f : List Bool) (m fl sn : Bool) (bk : Int) : List Int × List Bool × Bool × Bool × Bool × Int := (c, f, m, fl || (!m && !(f.any fun y => y)), sn, bk)
/-- What impl's step makes of a system. -/
def stepI (t0 t1 t2 t3 t4 : List S58) (c : List Int) (f : List Bool) (m : Bool) (kind : Int) (i : Nat) : List Int × List Bool × Bool × Bool × Bool × Int :=
  let q := c.getD i 0
  if kind = 0 then
    if q = 0 then
      let s := seeAll t3 i c f m
      let nx := if s.1.any (fun y => !decide (y = 0)) then (t0.getD 0 z58).f1 else (t0.getD 0 z58).f0
      finI (s.1.set i nx) (s.2.1.set i (s.2.2.1 && !decide (nx = 0))) s.2.2.1 (!s.2.2.1) true s.2.2.2
    else
      let r := t0.getD q.toNat z58
      finI (c.set i r.f0) (f.set i (f.getD i false && !decide (r.f0 = 0))) m (!(f.getD i false)) false 0
  else if kind = 1 then
    let sn := decide (q = 0) || decide (q = 1)
    let s := if sn then seeAll t4 i c f m else (c, f, m, 0)
    let r := t1.getD q.toNat z58
    finI (s.1.set i r.f0) ((List.replicate s.2.1.length false).set i (true && !decide (r.f0 = 0))) r.f2 false sn (if r.f2 then s.2.2.2 + 1 else s.2.2.2)
  else
    let r := t2.getD q.toNat z58
    finI (c.set i 0) (f.set i (false && !decide ((0 : Int) = 0))) (if r.f2 then f.getD i false else m) false false (if r.f2 then 1 else 0)
section
variable {t0 t1 t2 t3 t4 : List S58} {c : List Int} {f : List Bool} {m : Bool} {i : Nat}
theorem stepI_r1 (h : ¬ c.getD i 0 = 0) : stepI t0 t1 t2 t3 t4 c f m 0 i = finI (c.set i (t0.getD (c.getD i 0).toNat z58).f0) (f.set i (f.getD i false && !decide ((t0.getD (c.getD i 0).toNat z58).f0 = 0))) m (!(f.getD i false)) false 0 := by
  unfold stepI
  rw [if_pos rfl, if_neg h]
theorem stepI_r0 (h : c.getD i 0 = 0) {s : List Int × List Bool × Bool × Int} (hs : seeAll t3 i c f m = s) {nx : Int} (hn : (if s.1.any (fun y => !decide (y = 0)) then (t0.getD 0 z58).f1 else (t0.getD 0 z58).f0) = nx) :
    stepI t0 t1 t2 t3 t4 c f m 0 i = finI (s.1.set i nx) (s.2.1.set i (s.2.2.1 && !decide (nx = 0))) s.2.2.1 (!s.2.2.1) true s.2.2.2 := by
  unfold stepI
  rw [if_pos rfl, if_pos h]
  simp only [hs, hn]
theorem stepI_w {sn : Bool} (hsn : (decide (c.getD i 0 = 0) || decide (c.getD i 0 = 1)) = sn) {s : List Int × List Bool × Bool × Int} (hs : (if sn then seeAll t4 i c f m else (c, f, m, 0)) = s) :
    stepI t0 t1 t2 t3 t4 c f m 1 i = finI (s.1.set i (t1.getD (c.getD i 0).toNat z58).f0) ((List.replicate s.2.1.length false).set i (true && !decide ((t1.getD (c.getD i 0).toNat z58).f0 = 0))) (t1.getD (c.getD i 0).toNat z58).f2 false sn (if (t1.getD (c.getD i 0).toNat z58).f2 then s.2.2.2 + 1 else s.2.2.2) := by
  unfold stepI
  rw [if_neg (by omega), if_pos rfl]
  simp only [hsn, hs]
theorem stepI_e : stepI t0 t1 t2 t3 t4 c f m 2 i = finI (c.set i 0) (f.set i false) (if (t2.getD (c.getD i 0).toNat z58).f2 then f.getD i false else m) false false (if (t2.getD (c.getD i 0).toNat z58).f2 then 1 else 0) := by
  unfold stepI
  rw [if_neg (by omega), if_neg (by omega)]
  rfl
end
set_option maxHeartbeats 400000 in
/-- slices.IndexFunc over whole numbers, at whatever closure. -/
theorem xIdxInts (cl : Nat) (lb : Array Value) (eg : Enters Try.prog cl) (p : Int → Bool) (A0 : Option Addr) (c0 : Nat) (l0 : List Int) (w : World) (hr0 : Kd.C (Kd.int .i64) w A0 l0.length l0)
    (hp : ∀ (W : World) (y : Int), y ∈ l0 → Below w.heap.size w W → Calls Try.prog cl (#[.int .i64 y] ++ lb) W fun e w' => e = .returned (.bool (p y)) ∧ Below W.heap.size W w') :
    Calls Try.prog 115 #[.slice A0 l0.length c0, .func (.func cl) #[] lb] w fun e w' => e = .returned (.int .i64 (xIdx p l0 0)) ∧ Below w.heap.size w w' := by
  have HR0 := Aside0.mk hr0
  have HP := Aside0.mk hp
  have hbig := hr0.2.1
  have eg' : ∀ args w, (callFunc cl args).run Try.prog w = .ok (.enter cl args) w := eg
  clear hr0 hp
  go_enter Try.func115, Try.ntmps115
  go_wp2
  go_loopg [5, 8] l0.length (fun gg _ s8 wr => ∃ kk : Nat, kk ≤ l0.length ∧ l0.length - kk ≤ gg ∧ s8 = .int .i64 kk ∧ Aside0 (Below w.heap.size w wr) ∧ Aside0 (xIdx p l0 0 = xIdx p (l0.drop kk) (kk : Int)))
  case atStart => exact ⟨0, Nat.zero_le _, by omega, rfl, ⟨Below.refl _ w⟩, ⟨by simp⟩⟩
  case round =>
    obtain ⟨kk, hkk, hg, rfl, BW, AX⟩ := hrel
    by_cases hlt : kk < l0.length
    · have hltz : (kk : Int) < (l0.length : Int) := by omega
      obtain ⟨ad, e, hx0⟩ := at_int (Kd.C_below HR0.out BW.out) kk hlt
      subst e
      obtain ⟨y, hy⟩ : ∃ y, y = l0.getD kk 0 := ⟨_, rfl⟩
      have hmem : y ∈ l0 := by rw [hy, getD_lt l0 kk 0 hlt]; exact List.getElem_mem _
      rw [← hy] at hx0
      have HY := Aside0.mk hy
      clear hy
      have hcall := HP.out _ y hmem BW.out
      cases hq : p y with
      | true =>
        rw [hq] at hcall
        have HQ := Aside0.mk hq
        have HCL := Aside0.mk hcall
        clear hq hcall
        go_wp2_with (go_at_fn cl; refine HCL.out.mono ?_; rintro e w' ⟨rfl, hb'⟩)
        go_ret
        refine ⟨?_, below_le BW.out hb'⟩
        have hyy : p (l0.getD kk 0) = true := by have := HQ.out; rw [HY.out] at this; exact this
        rw [AX.out, xIdx_drop_hit _ _ _ _ hlt _ hyy]
        rfl
      | false =>
        rw [hq] at hcall
        have HQ := Aside0.mk hq
        have HCL := Aside0.mk hcall
        clear hq hcall
        go_wp2_with (go_at_fn cl; refine HCL.out.mono ?_; rintro e w' ⟨rfl, hb'⟩)
        go_roundg (l0.length - (kk + 1))
        case measure => omega
        case rel =>
          have hyy : p (l0.getD kk 0) = false := by have := HQ.out; rw [HY.out] at this; exact this
          exact ⟨kk + 1, by omega, by omega, by go_num, ⟨below_le BW.out hb'⟩, ⟨by rw [AX.out, xIdx_drop_miss _ _ _ _ hlt _ hyy]; rfl⟩⟩
    · have hltz : ¬ (kk : Int) < (l0.length : Int) := by omega
      have hle : l0.length ≤ kk := by omega
      go_wp2
      go_ret
      refine ⟨?_, BW.out⟩
      rw [AX.out, xIdx_drop_end _ _ _ hle]
      rfl
set_option maxHeartbeats 400000 in
theorem xHasInts (cl : Nat) (lb : Array Value) (eg : Enters Try.prog cl) (p : Int → Bool) (A0 : Option Addr) (c0 : Nat) (l0 : List Int) (w : World) (hr0 : Kd.C (Kd.int .i64) w A0 l0.length l0)
    (hp : ∀ (W : World) (y : Int), y ∈ l0 → Below w.heap.size w W → Calls Try.prog cl (#[.int .i64 y] ++ lb) W fun e w' => e = .returned (.bool (p y)) ∧ Below W.heap.size W w') :
    Calls Try.prog 108 #[.slice A0 l0.length c0, .func (.func cl) #[] lb] w fun e w' => e = .returned (.bool (l0.any p)) ∧ Below w.heap.size w w' := by
  have HE := Aside0.mk (xIdx_nonneg p l0 0 (Int.le_refl _))
  have HR0 := Aside0.mk hr0
  have HP := Aside0.mk hp
  clear hr0 hp
  go_enter Try.func108, Try.ntmps108
  go_wp2_with (go_at_call 115; (refine (xIdxInts cl lb eg p A0 c0 l0 _ HR0.out HP.out).mono ?_); rintro e w' ⟨rfl, hb'⟩)
  go_ret
  exact ⟨by rw [← HE.out]; rfl, hb'⟩
theorem implIndexB_ev (l : List Bool) (x : Bool) (h : l.length ≤ 1048576) : Ev (fun k => slices_Index_bool_bool.f k l x) (xIdx (fun y => x == y) l 0) := by
  unfold slices_Index_bool_bool.f
  have key : ∀ d i, l.length - i = d → i ≤ l.length → Ev (fun k => slices_Index_bool_bool.l0 k l x (l.length : Int) (i : Int)) (xIdx (fun y => x == y) (l.drop i) (i : Int)) := by
    intro d
    induction d with
    | zero =>
      intro i hd hi
      refine Ev.succ ?_
      simp only [slices_Index_bool_bool.l0]
      refine Ev.neg (by omega) (Ev.some ?_)
      rw [xIdx_drop_end _ _ _ (by omega)]
    | succ d ih =>
      intro i hd hi
      refine Ev.succ ?_
      simp only [slices_Index_bool_bool.l0]
      refine Ev.pos (by omega) (Ev.pos (by omega) (Ev.pos (by omega) ?_))
      have hrd : rdOf false l (i : Int) = l.getD i false := rfl
      rw [hrd, wrap_succ (show i < l.length by omega) (by omega)]
      by_cases hx : (x == l.getD i false) = true
      · refine Ev.pos hx (Ev.some ?_)
        rw [xIdx_drop_hit _ _ _ false (by omega) _ hx]
      · refine Ev.neg hx ?_
        rw [xIdx_drop_miss _ _ _ false (by omega) _ (by simpa using hx)]
        exact ih (i + 1) (by omega) (by omega)
  have := key l.length 0 (by omega) (by omega)
  simpa using this
theorem implHasB_ev (l : List Bool) (h : l.length ≤ 1048576) : Ev (fun k => slices_Contains_bool_bool.f k l true) (l.any fun y => y) := by
  unfold slices_Contains_bool_bool.f
  refine Ev.bind (implIndexB_ev l true h) (Ev.some ?_)
  rw [xIdx_nonneg _ _ _ (by omega)]
  congr 1
  funext y
  cases y <;> rfl
theorem tabAt {w W : World} {S : Nat → Prop} {A : Option Addr} {l : List S58} (h : Kd.C k58 w A l.length l) (hO : Only w W S) (hd : ∀ ad, A = some ad → ¬ S ad.block) (x : Int) (h0 : 0 ≤ x) (h1 : x < l.length) :
    ∃ ad, A = some ad ∧ W.cell? (ad.add (x.toNat * 3)) = some (.int .i64 (rd_T58 l x).f0) ∧ W.cell? ⟨(ad.add (x.toNat * 3)).block, (ad.add (x.toNat * 3)).off + 1, none⟩ = some (.int .i64 (rd_T58 l x).f1) ∧ W.cell? ⟨(ad.add (x.toNat * 3)).block, (ad.add (x.toNat * 3)).off + 2, none⟩ = some (.bool (rd_T58 l x).f2) := by
  obtain ⟨ad, e, q0, q1, q2⟩ := at_T58 h x h0 h1
  have hn : ∀ n, ¬ S (ad.add n).block := fun n => by rw [blk_add]; exact hd ad e
  exact ⟨ad, e, hO.cell q0 (hn _), hO.cell q1 (hn _), hO.cell q2 (hn _)⟩
set_option maxHeartbeats 400000 in
theorem stepNe (W : World) (y : Int) : Calls Try.prog 109 (#[.int .i64 y] ++ #[]) W fun e w' => e = .returned (.bool (!decide (y = 0))) ∧ Below W.heap.size W w' := by
  obtain ⟨b, hb⟩ : ∃ b, (y == 0) = b := ⟨_, rfl⟩
  have hn : (y != 0) = !b := by rw [← hb]; rfl
  have hd : decide (y = 0) = b := by rw [← hb]; rfl
  rw [hd]
  have HB := Aside0.mk hb
  clear hd hb
  show Calls _ _ #[.int .i64 y] _ _
  go_enter Try.func109, Try.ntmps109
  go_wp2
  go_ret
  exact ⟨rfl, Below.refl _ _⟩
theorem zbool (w : World) : (zeroValue 4).run Try.prog w = .ok (.bool false) w := by kernel_rfl
abbrev SysS (g b0 b1 : Nat) : Nat → Prop := fun k => k = b0 ∨ k = b1 ∨ k = g
set_option maxHeartbeats 6400000 in
set_option maxRecDepth 100000 in
theorem implStep (g b0 b1 c0 c1 n : Nat) (m : Bool) (c : List Int) (f : List Bool) (kind : Int) (i : Nat) (A0 A1 A2 A3 A4 : Option Addr) (k0_ k1_ k2_ k3_ k4_ : Nat) (t0 t1 t2 t3 t4 : List S58) (w : World) (hg : SysBox g b0 b1 n c0 c1 m w)
    (h0 : Copies w b0 c) (h1 : Freshs w b1 f) (hc : c.length = n) (hf : f.length = n) (hne : b0 ≠ b1) (hn0 : g ≠ b0) (hn1 : g ≠ b1) (hm : n ≤ 1048576) (hi : i < n) (hcap1 : n ≤ c1) (hcap0 : n ≤ c0)
    (ht0 : Kd.C k58 w A0 t0.length t0) (ht1 : Kd.C k58 w A1 t1.length t1) (ht2 : Kd.C k58 w A2 t2.length t2) (ht3 : Kd.C k58 w A3 t3.length t3) (ht4 : Kd.C k58 w A4 t4.length t4)
    (l0 : t0.length = 4) (l1 : t1.length = 4) (l2 : t2.length = 4) (l3 : t3.length = 4) (l4 : t4.length = 4)
    (hd0 : ∀ ad, A0 = some ad → ¬ SysS g b0 b1 ad.block) (hd1 : ∀ ad, A1 = some ad → ¬ SysS g b0 b1 ad.block) (hd2 : ∀ ad, A2 = some ad → ¬ SysS g b0 b1 ad.block) (hd3 : ∀ ad, A3 = some ad → ¬ SysS g b0 b1 ad.block) (hd4 : ∀ ad, A4 = some ad → ¬ SysS g b0 b1 ad.block)
    (hv : ∀ x ∈ c, 0 ≤ x ∧ x ≤ 3) (v0 : ∀ r ∈ t0, (0 ≤ r.f0 ∧ r.f0 ≤ 3) ∧ 0 ≤ r.f1 ∧ r.f1 ≤ 3) (v1 : ∀ r ∈ t1, 0 ≤ r.f0 ∧ r.f0 ≤ 3) (v3 : ∀ r ∈ t3, 0 ≤ r.f0 ∧ r.f0 ≤ 3) (v4 : ∀ r ∈ t4, 0 ≤ r.f0 ∧ r.f0 ≤ 3) (hk0 : 0 ≤ kind) (hk2 : kind ≤ 2) :
    Calls Try.prog 80 #[.pointer (some ⟨g, 0, none⟩), .agg #[.slice A0 t0.length k0_, .slice A1 t1.length k1_, .slice A2 t2.length k2_, .slice A3 t3.length k3_, .slice A4 t4.length k4_], .agg #[.int .i64 kind, .int .i64 (i : Int)]] w fun e w' => ∃ c' f' m' fl sn bk, e = .returned (.tuple #[.bool fl, .bool sn, .int .i64 bk]) ∧ stepI t0 t1 t2 t3 t4 c f m kind i = (c', f', m', fl, sn, bk) ∧ SysBox g b0 b1 n c0 c1 m' w' ∧ Copies w' b0 c' ∧ Freshs w' b1 f' ∧ c'.length = n ∧ f'.length = n ∧ (∀ x ∈ c', 0 ≤ x ∧ x ≤ 3) ∧ 0 ≤ bk ∧ bk ≤ n + 1 ∧ Only w w' (SysS g b0 b1) := by
  have HG := Aside0.mk hg
  have H0 := Aside0.mk h0
  have H1 := Aside0.mk h1
  have HC := Aside0.mk hc
  have HF := Aside0.mk hf
  have HT0 := Aside0.mk ht0
  have HT1 := Aside0.mk ht1
  have HT2 := Aside0.mk ht2
  have HT3 := Aside0.mk ht3
  have HT4 := Aside0.mk ht4
  have L0 := Aside0.mk l0
  have L1 := Aside0.mk l1
  have L2 := Aside0.mk l2
  have L3 := Aside0.mk l3
  have L4 := Aside0.mk l4
  have D0 := Aside0.mk hd0
  have D1 := Aside0.mk hd1
  have D2 := Aside0.mk hd2
  have D3 := Aside0.mk hd3
  have D4 := Aside0.mk hd4
  have HV := Aside0.mk hv
  have V0 := Aside0.mk v0
  have V1 := Aside0.mk v1
  have V3 := Aside0.mk v3
  have V4 := Aside0.mk v4
  have hu1 := Try.underlying54
  have hu2 := Try.underlying118
  have hiz : (i : Int) < (n : Int) := by omega
  have hip : 0 ≤ (i : Int) := by omega
  clear hg h0 h1 hc hf ht0 ht1 ht2 ht3 ht4 l0 l1 l2 l3 l4 hd0 hd1 hd2 hd3 hd4 hv v0 v1 v3 v4
  go_enter Try.func80, Try.ntmps80
  go_wp2_with (first
    | ((with_reducible refine gate_dst (N := 4) rfl ?_); refine box_event ?hg (N := 4) ?hd (cs := #[.slice A0 t0.length k0_, .slice A1 t1.length k1_, .slice A2 t2.length k2_, .slice A3 t3.length k3_, .slice A4 t4.length k4_]) (t := 54) ?hr ?_; (case hd => rfl); (case hg => rfl); (case hr => first | (go_simp; done) | (go_simp; rfl)); intro gp hgp w3 hbox hb; have BP := Aside0.mk hbox; have BB := Aside0.mk hb; have GP := Aside0.mk hgp; clear hbox hb hgp)
    | ((with_reducible refine gate_dst (N := 5) rfl ?_); refine box_event ?hg (N := 5) ?hd (cs := #[.int .i64 kind, .int .i64 (i : Int)]) (t := 118) ?hr ?_; (case hd => rfl); (case hg => rfl); (case hr => first | (go_simp; done) | (go_simp; rfl)); intro go hgo w4 hbox hb; have BO := Aside0.mk hbox; have BB2 := Aside0.mk hb; have GO := Aside0.mk hgo; clear hbox hb hgo))
  have RO : Aside0 (Only w w4 (SysS g b0 b1)) := ⟨Only.of_below (below_le BB.out BB2.out)⟩
  have hgpn : gp < w3.heap.size := blk_lt BP.out
  have BP4 : Aside0 (w4.heap[gp]? = some (.cells #[.slice A0 t0.length k0_, .slice A1 t1.length k1_, .slice A2 t2.length k2_, .slice A3 t3.length k3_, .slice A4 t4.length k4_] 54 (0, 0))) := ⟨(BB2.out.block gp hgpn).trans BP.out⟩
  have gl : g < w.heap.size := blk_lt HG.out
  have b0l : b0 < w.heap.size := H0.out.lt
  have b1l : b1 < w.heap.size := H1.out.lt
  have PS : Aside0 (¬ SysS g b0 b1 gp) := ⟨by have := GP.out; rintro (e | e | e) <;> omega⟩
  have OS : Aside0 (¬ SysS g b0 b1 go) := ⟨by have := GO.out; have := BB.out.size; rintro (e | e | e) <;> omega⟩
  have RG : Aside0 (SysBox g b0 b1 n c0 c1 m w4) := ⟨((below_le BB.out BB2.out).block g gl).trans HG.out⟩
  have R0 : Aside0 (Copies w4 b0 c) := ⟨H0.out.below (below_le BB.out BB2.out)⟩
  have R1 : Aside0 (Freshs w4 b1 f) := ⟨H1.out.below (below_le BB.out BB2.out)⟩
  have BWd4 : Aside0 (Below w.heap.size w w4) := ⟨below_le BB.out BB2.out⟩
  clear BB BB2 BP GP GO hgpn
  have q0 : w4.cell? ⟨g, 0, none⟩ = some (.slice (some ⟨b0, 0, none⟩) n c0) := blk_cell RG.out 0
  have o1 : w4.cell? ⟨go, 1, none⟩ = some (.int .i64 (i : Int)) := blk_cell BO.out 1
  have x0 := R0.out.cell (show i < c.length by have := HC.out; omega) 0
  obtain ⟨x, hx⟩ : ∃ x, x = c.getD i 0 := ⟨_, rfl⟩
  have hxv : 0 ≤ x ∧ x ≤ 3 := by
    rw [hx, getD_lt c i 0 (by have := HC.out; omega)]
    exact HV.out _ (List.getElem_mem _)
  obtain ⟨hxv0, hxv3⟩ := hxv
  rw [← hx] at x0
  have HX := Aside0.mk hx
  clear hx
  go_region
  clear q0 o1 x0
  have RGd : Aside0 (SysBox g b0 b1 n c0 c1 m w4.drew) := ⟨RG.out⟩
  have R0d : Aside0 (Copies w4.drew b0 c) := ⟨R0.out⟩
  have R1d : Aside0 (Freshs w4.drew b1 f) := ⟨R1.out⟩
  have ROd : Aside0 (Only w w4.drew (SysS g b0 b1)) := ⟨RO.out.drew⟩
  have BWd : Aside0 (Below w.heap.size w w4.drew) := ⟨below_drew BWd4.out⟩
  have BPd : Aside0 (w4.drew.heap[gp]? = some (.cells #[.slice A0 t0.length k0_, .slice A1 t1.length k1_, .slice A2 t2.length k2_, .slice A3 t3.length k3_, .slice A4 t4.length k4_] 54 (0, 0))) := ⟨BP4.out⟩
  have BOd : Aside0 (w4.drew.heap[go]? = some (.cells #[.int .i64 kind, .int .i64 (i : Int)] 118 (0, 0))) := ⟨BO.out⟩
  generalize w4.drew = wd at RGd R0d R1d ROd BPd BOd BWd ⊢
  clear RG R0 R1 RO BP4 BO
  go_upto_block 0 with fail
  go_cut [10, 11, 12] (fun s10 s11 s12 wx => ∃ (c' : List Int) (f' : List Bool) (m' fl sn : Bool) (bk : Int), s10 = .bool fl ∧ s11 = .bool sn ∧ s12 = .int .i64 bk ∧ Aside0 (stepI t0 t1 t2 t3 t4 c f m kind i = finI c' f' m' fl sn bk) ∧ Aside0 (SysBox g b0 b1 n c0 c1 m' wx) ∧ Aside0 (Copies wx b0 c') ∧ Aside0 (Freshs wx b1 f') ∧ Aside0 (c'.length = n) ∧ Aside0 (f'.length = n) ∧ Aside0 (∀ x ∈ c', 0 ≤ x ∧ x ≤ 3) ∧ Aside0 (0 ≤ bk) ∧ Aside0 (bk ≤ n + 1) ∧ Aside0 (Only w wx (SysS g b0 b1)))
  case first =>
    have hlen0 : (t0.length : Int) = 4 := by rw [L0.out]; rfl
    have hlen1 : (t1.length : Int) = 4 := by rw [L1.out]; rfl
    have hlen2 : (t2.length : Int) = 4 := by rw [L2.out]; rfl
    have hx4 : x < 4 := by omega
    have hx6 := eq_true hxv0
    have hx5 : x < (t0.length : Int) := by omega
    have hx7 : x < (t1.length : Int) := by omega
    have hx8 : x < (t2.length : Int) := by omega
    have y0 := R1d.out.cell (show i < f.length by have := HF.out; omega) false
    obtain ⟨y, hy⟩ : ∃ y, y = f.getD i false := ⟨_, rfl⟩
    rw [← hy] at y0
    have HY := Aside0.mk hy
    clear hy
    have hk : kind = 0 ∨ kind = 1 ∨ kind = 2 := by omega
    obtain ⟨ex, hex⟩ : ∃ b, (x == 0) = b := ⟨_, rfl⟩
    have hexn : (x != 0) = !ex := by rw [← hex]; rfl
    have HEX : Aside0 (decide (x = 0) = ex) := ⟨by rw [← hex]; rfl⟩
    rcases hk with rfl | rfl | rfl
    · cases ex with
      | false =>
        have o0 : wd.cell? ⟨go, 0, none⟩ = some (.int .i64 0) := blk_cell BOd.out 0
        have o1 : wd.cell? ⟨go, 1, none⟩ = some (.int .i64 (i : Int)) := blk_cell BOd.out 1
        have p0 : wd.cell? ⟨gp, 0, none⟩ = some (.slice A0 t0.length k0_) := blk_cell BPd.out 0
        have p1 : wd.cell? ⟨gp, 1, none⟩ = some (.slice A1 t1.length k1_) := blk_cell BPd.out 1
        have p2 : wd.cell? ⟨gp, 2, none⟩ = some (.slice A2 t2.length k2_) := blk_cell BPd.out 2
        have p3 : wd.cell? ⟨gp, 3, none⟩ = some (.slice A3 t3.length k3_) := blk_cell BPd.out 3
        have p4 : wd.cell? ⟨gp, 4, none⟩ = some (.slice A4 t4.length k4_) := blk_cell BPd.out 4
        have q0 : wd.cell? ⟨g, 0, none⟩ = some (.slice (some ⟨b0, 0, none⟩) n c0) := blk_cell RGd.out 0
        have q1 : wd.cell? ⟨g, 1, none⟩ = some (.slice (some ⟨b1, 0, none⟩) n c1) := blk_cell RGd.out 1
        have q2 : wd.cell? ⟨g, 2, none⟩ = some (.bool m) := blk_cell RGd.out 2
        obtain ⟨ad, e, r0, r1, r2⟩ := tabAt HT0.out ROd.out D0.out x hxv0 (by omega)
        subst e
        have hrv : Aside0 (0 ≤ (rd_T58 t0 x).f0 ∧ (rd_T58 t0 x).f0 ≤ 3) := ⟨(V0.out _ (by unfold rd_T58; rw [getD_lt t0 x.toNat _ (by have := L0.out; omega)]; exact List.getElem_mem _)).1⟩
        have SI : Aside0 (stepI t0 t1 t2 t3 t4 c f m 0 i = finI (c.set i (rd_T58 t0 x).f0) (f.set i (y && !decide ((rd_T58 t0 x).f0 = 0))) m (!y) false 0) := ⟨by
          have hx0 : ¬ c.getD i 0 = 0 := by rw [← HX.out]; intro z; have := HEX.out; rw [decide_eq_true z] at this; exact absurd this (by simp)
          rw [stepI_r1 hx0, ← HX.out, ← HY.out]
          rfl⟩
        obtain ⟨r, hr⟩ : ∃ r, r = rd_T58 t0 x := ⟨_, rfl⟩
        rw [← hr] at r0 r1 r2 hrv SI
        clear hr
        obtain ⟨f0, f1, f2⟩ := r
        simp only at r0 r1 r2 hrv SI
        go_wp2
        go_region
        go_wp2
        have RGe : Aside0 (SysBox g b0 b1 n c0 c1 m wd.drew) := ⟨RGd.out⟩
        have R0e : Aside0 (Copies wd.drew b0 c) := ⟨R0d.out⟩
        have R1e : Aside0 (Freshs wd.drew b1 f) := ⟨R1d.out⟩
        have ROe : Aside0 (Only w wd.drew (SysS g b0 b1)) := ⟨ROd.out.drew⟩
        have o1 : wd.drew.cell? ⟨go, 1, none⟩ = some (.int .i64 (i : Int)) := o1
        have p0 : wd.drew.cell? ⟨gp, 0, none⟩ = some (.slice (some ad) t0.length k0_) := p0
        have q1 : wd.drew.cell? ⟨g, 1, none⟩ = some (.slice (some ⟨b1, 0, none⟩) n c1) := q1
        have y0 : wd.drew.cell? ⟨b1, i, none⟩ = some (.bool y) := y0
        have r0 : wd.drew.cell? (ad.add (x.toNat * 3)) = some (.int .i64 f0) := r0
        generalize wd.drew = we at RGe R0e R1e ROe o1 p0 q1 y0 r0 ⊢
        go_still_tail 17, (by kernel_rfl)
        go_wp2_with (go_at_call 106; (refine (implBecome g b0 b1 c0 c1 n m c f i f0 y we.drew RGe.out R0e.out R1e.out HC.out HF.out hi hne hn0 hn1 hm).mono ?_); rintro e w' ⟨rfl, hg', h0', h1', ho'⟩)
        go_meet
        refine ⟨_, _, _, !y, false, 0, rfl, rfl, rfl, SI, ⟨hg'⟩, ⟨h0'⟩, ⟨h1'⟩, ⟨by rw [List.length_set]; exact HC.out⟩, ⟨by rw [List.length_set]; exact HF.out⟩, ⟨fun z hz => ?_⟩, ⟨by omega⟩, ⟨by omega⟩, ⟨(ROe.out.drew).then_ ho' (fun i hi _ => hi.elim .inl (fun z => .inr (.inl z)))⟩⟩
        rcases List.mem_or_eq_of_mem_set hz with hz | hz
        · exact HV.out z hz
        · rw [hz]; exact hrv.out
      | true =>
        have HX0 : Aside0 (c.getD i 0 = 0) := ⟨by rw [← HX.out]; exact eq_of_beq hex⟩
        have o0 : wd.cell? ⟨go, 0, none⟩ = some (.int .i64 0) := blk_cell BOd.out 0
        have o1 : wd.cell? ⟨go, 1, none⟩ = some (.int .i64 (i : Int)) := blk_cell BOd.out 1
        have p0 : wd.cell? ⟨gp, 0, none⟩ = some (.slice A0 t0.length k0_) := blk_cell BPd.out 0
        have p1 : wd.cell? ⟨gp, 1, none⟩ = some (.slice A1 t1.length k1_) := blk_cell BPd.out 1
        have p2 : wd.cell? ⟨gp, 2, none⟩ = some (.slice A2 t2.length k2_) := blk_cell BPd.out 2
        have p3 : wd.cell? ⟨gp, 3, none⟩ = some (.slice A3 t3.length k3_) := blk_cell BPd.out 3
        have p4 : wd.cell? ⟨gp, 4, none⟩ = some (.slice A4 t4.length k4_) := blk_cell BPd.out 4
        have q0 : wd.cell? ⟨g, 0, none⟩ = some (.slice (some ⟨b0, 0, none⟩) n c0) := blk_cell RGd.out 0
        have q1 : wd.cell? ⟨g, 1, none⟩ = some (.slice (some ⟨b1, 0, none⟩) n c1) := blk_cell RGd.out 1
        have q2 : wd.cell? ⟨g, 2, none⟩ = some (.bool m) := blk_cell RGd.out 2
        go_wp2_with fail
        refine (implSee g b0 b1 c0 c1 n m c f (i : Int) A3 k3_ t3 wd RGd.out R0d.out R1d.out HC.out HF.out hne hn0 hn1 hm (Kd.C_below HT3.out BWd.out) L3.out (fun ad e => ⟨fun z => D3.out ad e (.inl z), fun z => D3.out ad e (.inr (.inl z)), fun z => D3.out ad e (.inr (.inr z))⟩) HV.out V3.out).mono ?_
        rintro e w5 ⟨c5, f5, m5, bk5, rfl, hs, hg5, h05, h15, hc5, hf5, hv5, hb5, hbn5, ho5⟩
        have RG5 : Aside0 (SysBox g b0 b1 n c0 c1 m5 w5) := ⟨hg5⟩
        have R05 : Aside0 (Copies w5 b0 c5) := ⟨h05⟩
        have R15 : Aside0 (Freshs w5 b1 f5) := ⟨h15⟩
        have RO5 : Aside0 (Only w w5 (SysS g b0 b1)) := ⟨ROd.out.trans ho5⟩
        have BP5 : Aside0 (w5.heap[gp]? = some (.cells #[.slice A0 t0.length k0_, .slice A1 t1.length k1_, .slice A2 t2.length k2_, .slice A3 t3.length k3_, .slice A4 t4.length k4_] 54 (0, 0))) := ⟨ho5.blk BPd.out PS.out⟩
        have BO5 : Aside0 (w5.heap[go]? = some (.cells #[.int .i64 0, .int .i64 (i : Int)] 118 (0, 0))) := ⟨ho5.blk BOd.out OS.out⟩
        have HC5 := Aside0.mk hc5
        have HF5 := Aside0.mk hf5
        have HV5 := Aside0.mk hv5
        have HS5 := Aside0.mk hs
        have HB5 := Aside0.mk hb5
        have HBN5 := Aside0.mk hbn5
        clear o0 o1 p0 p1 p2 p3 p4 q0 q1 q2 hg5 h05 h15 ho5 hc5 hf5 hv5 hs hb5 hbn5
        have q0 : w5.cell? ⟨g, 0, none⟩ = some (.slice (some ⟨b0, 0, none⟩) n c0) := blk_cell RG5.out 0
        have q2 : w5.cell? ⟨g, 2, none⟩ = some (.bool m5) := blk_cell RG5.out 2
        have p0 : w5.cell? ⟨gp, 0, none⟩ = some (.slice A0 t0.length k0_) := blk_cell BP5.out 0
        obtain ⟨ad, e, r0, r1, r2⟩ := tabAt HT0.out RO5.out D0.out 0 (by omega) (by omega)
        have HE := Aside0.mk e
        subst e
        simp only [Int.toNat_zero, Nat.zero_mul, show ad.add 0 = ad from rfl] at r0 r1 r2
        have hlp : 0 < t0.length := by omega
        have hrv : Aside0 ((0 ≤ (rd_T58 t0 0).f0 ∧ (rd_T58 t0 0).f0 ≤ 3) ∧ 0 ≤ (rd_T58 t0 0).f1 ∧ (rd_T58 t0 0).f1 ≤ 3) := ⟨V0.out _ (by unfold rd_T58; rw [getD_lt t0 _ _ (by have := L0.out; simp; omega)]; exact List.getElem_mem _)⟩
        have HRD : Aside0 (t0.getD 0 z58 = rd_T58 t0 0) := ⟨rfl⟩
        obtain ⟨r, hr⟩ : ∃ r, r = rd_T58 t0 0 := ⟨_, rfl⟩
        rw [← hr] at r0 r1 r2 hrv HRD
        clear hr
        obtain ⟨f0, f1, f2⟩ := r
        simp only at r0 r1 r2
        obtain ⟨ba, hba⟩ : ∃ b, (c5.any fun y => !decide (y = 0)) = b := ⟨_, rfl⟩
        have CN : Aside0 (Calls Try.prog 108 #[.slice (some ⟨b0, 0, none⟩) n c0, .func (.func 109) #[] #[]] w5 fun e w' => e = .returned (.bool ba) ∧ Below w5.heap.size w5 w') := ⟨by
          have := xHasInts 109 #[] (enters_of Try.func109 (by kernel_rfl) rfl) (fun y => !decide (y = 0)) (some ⟨b0, 0, none⟩) c0 c5 w5 (R05.out.toC (by have := HC5.out; omega)) (fun W y _ _ => stepNe W y)
          rw [hba, HC5.out] at this
          exact this⟩
        have HBA := Aside0.mk hba
        clear hba
        obtain ⟨nx, hnx⟩ : ∃ nx, nx = (if ba = true then f1 else f0) := ⟨_, rfl⟩
        have hnv : Aside0 (0 ≤ nx ∧ nx ≤ 3) := ⟨by rw [hnx]; cases ba <;> first | exact hrv.out.1 | exact hrv.out.2⟩
        have HNX := Aside0.mk hnx
        clear hnx
        have SI : Aside0 (stepI t0 t1 t2 t3 t4 c f m 0 i = finI (c5.set i nx) (f5.set i (m5 && !decide (nx = 0))) m5 (!m5) true bk5) := ⟨by
          rw [stepI_r0 HX0.out HS5.out (nx := nx) (by show (if (c5.any fun y => !decide (y = 0)) = true then _ else _) = nx; rw [HBA.out, HRD.out, HNX.out])]⟩
        have hcase : ba = true ∨ ba = false := by cases ba <;> simp
        rcases hcase with rfl | rfl
        all_goals
          go_wp2_with fail
          refine CN.out.mono ?_
          rintro e w6 ⟨rfl, hb6⟩
          have RG6 : Aside0 (SysBox g b0 b1 n c0 c1 m5 w6) := ⟨(hb6.block _ (blk_lt RG5.out)).trans RG5.out⟩
          have R06 : Aside0 (Copies w6 b0 c5) := ⟨R05.out.below hb6⟩
          have R16 : Aside0 (Freshs w6 b1 f5) := ⟨R15.out.below hb6⟩
          have RO6 : Aside0 (Only w w6 (SysS g b0 b1)) := ⟨RO5.out.trans (Only.of_below hb6)⟩
          have q2 : w6.cell? ⟨g, 2, none⟩ = some (.bool m5) := blk_cell RG6.out 2
          have o1 : w6.cell? ⟨go, 1, none⟩ = some (.int .i64 (i : Int)) := blk_cell ((hb6.block _ (blk_lt BO5.out)).trans BO5.out) 1
          have p0 : w6.cell? ⟨gp, 0, none⟩ = some (.slice (some ad) t0.length k0_) := blk_cell ((hb6.block _ (blk_lt BP5.out)).trans BP5.out) 0
          have r0 := (hb6.cell (World.block_lt_of_cell? w5 _ r0)).trans r0
          have r1 := (hb6.cell (World.block_lt_of_cell? w5 _ r1)).trans r1
          clear hb6
          go_wp2
          go_still_tail 8, (by kernel_rfl)
          have hnx := HNX.out
          simp only [if_true, Bool.false_eq_true, if_false] at hnx
          subst hnx
          go_wp2_with (go_at_call 106; (refine (implBecome g b0 b1 c0 c1 n m5 c5 f5 i _ m5 w6.drew RG6.out R06.out R16.out HC5.out HF5.out hi hne hn0 hn1 hm).mono ?_); rintro e w' ⟨rfl, hg', h0', h1', ho'⟩)
          go_meet
          refine ⟨_, _, _, !m5, true, bk5, rfl, rfl, rfl, SI, ⟨hg'⟩, ⟨h0'⟩, ⟨h1'⟩, ⟨by rw [List.length_set]; exact HC5.out⟩, ⟨by rw [List.length_set]; exact HF5.out⟩, ⟨fun z hz => ?_⟩, HB5, ⟨by have := HBN5.out; omega⟩, ⟨(RO6.out.drew).then_ ho' (fun i hi _ => hi.elim .inl (fun z => .inr (.inl z)))⟩⟩
          rcases List.mem_or_eq_of_mem_set hz with hz | hz
          · exact HV5.out z hz
          · rw [hz]; exact hnv.out
    · obtain ⟨e1, he1⟩ : ∃ b, (x == 1) = b := ⟨_, rfl⟩
      have HSN0 : Aside0 ((decide (x = 0) || decide (x = 1)) = (ex || e1)) := ⟨by rw [← hex, ← he1]; rfl⟩
      have o0 : wd.cell? ⟨go, 0, none⟩ = some (.int .i64 1) := blk_cell BOd.out 0
      have o1 : wd.cell? ⟨go, 1, none⟩ = some (.int .i64 (i : Int)) := blk_cell BOd.out 1
      have p0 : wd.cell? ⟨gp, 0, none⟩ = some (.slice A0 t0.length k0_) := blk_cell BPd.out 0
      have p1 : wd.cell? ⟨gp, 1, none⟩ = some (.slice A1 t1.length k1_) := blk_cell BPd.out 1
      have p2 : wd.cell? ⟨gp, 2, none⟩ = some (.slice A2 t2.length k2_) := blk_cell BPd.out 2
      have p3 : wd.cell? ⟨gp, 3, none⟩ = some (.slice A3 t3.length k3_) := blk_cell BPd.out 3
      have p4 : wd.cell? ⟨gp, 4, none⟩ = some (.slice A4 t4.length k4_) := blk_cell BPd.out 4
      have q0 : wd.cell? ⟨g, 0, none⟩ = some (.slice (some ⟨b0, 0, none⟩) n c0) := blk_cell RGd.out 0
      have q1 : wd.cell? ⟨g, 1, none⟩ = some (.slice (some ⟨b1, 0, none⟩) n c1) := blk_cell RGd.out 1
      have q2 : wd.cell? ⟨g, 2, none⟩ = some (.bool m) := blk_cell RGd.out 2
      have hcase : ex = true ∨ (ex = false ∧ e1 = true) ∨ (ex = false ∧ e1 = false) := by cases ex <;> cases e1 <;> simp
      rcases hcase with rfl | ⟨rfl, rfl⟩ | ⟨rfl, rfl⟩
      · have HSN : Aside0 ((decide (x = 0) || decide (x = 1)) = true) := ⟨HSN0.out⟩
        go_wp2_with fail
        refine (implSee g b0 b1 c0 c1 n m c f (i : Int) A4 k4_ t4 wd RGd.out R0d.out R1d.out HC.out HF.out hne hn0 hn1 hm (Kd.C_below HT4.out BWd.out) L4.out (fun ad e => ⟨fun z => D4.out ad e (.inl z), fun z => D4.out ad e (.inr (.inl z)), fun z => D4.out ad e (.inr (.inr z))⟩) HV.out V4.out).mono ?_
        rintro e w5 ⟨c5, f5, m5, bk5, rfl, hs, hg5, h05, h15, hc5, hf5, hv5, hb5, hbn5, ho5⟩
        have RG5 : Aside0 (SysBox g b0 b1 n c0 c1 m5 w5) := ⟨hg5⟩
        have R05 : Aside0 (Copies w5 b0 c5) := ⟨h05⟩
        have R15 : Aside0 (Freshs w5 b1 f5) := ⟨h15⟩
        have RO5 : Aside0 (Only w w5 (SysS g b0 b1)) := ⟨ROd.out.trans ho5⟩
        have BP5 : Aside0 (w5.heap[gp]? = some (.cells #[.slice A0 t0.length k0_, .slice A1 t1.length k1_, .slice A2 t2.length k2_, .slice A3 t3.length k3_, .slice A4 t4.length k4_] 54 (0, 0))) := ⟨ho5.blk BPd.out PS.out⟩
        have BO5 : Aside0 (w5.heap[go]? = some (.cells #[.int .i64 1, .int .i64 (i : Int)] 118 (0, 0))) := ⟨ho5.blk BOd.out OS.out⟩
        have HC5 := Aside0.mk hc5
        have HF5 := Aside0.mk hf5
        have HV5 := Aside0.mk hv5
        have HS5 := Aside0.mk hs
        have HB5 := Aside0.mk hb5
        have HBN5 := Aside0.mk hbn5
        clear o0 o1 p0 p1 p2 p3 p4 q0 q1 q2 hg5 h05 h15 ho5 hc5 hf5 hv5 hs hb5 hbn5
        have q1 : w5.cell? ⟨g, 1, none⟩ = some (.slice (some ⟨b1, 0, none⟩) n c1) := blk_cell RG5.out 1
        have hcl : ∀ ty, (Builtin.clear_ #[71] ty #[.slice (some ⟨b1, 0, none⟩) n c1]).run Try.prog w5 = .ok (.tuple #[]) (w5.setCells b1 0 (List.replicate n (Value.bool false))) := fun ty => Lib.run_clear_slice w5 _ _ ty _ Try.underlying71 (fun w => zbool w) rfl rfl b1 0 n c1 (by omega) (fun j hj => by rw [Nat.zero_add, R15.out.cell (show j < (f5).length by have := HF5.out; omega) false]; rfl) (fun j _ => R15.out.thaw _)
        go_wp2
        have RGc : Aside0 (SysBox g b0 b1 n c0 c1 m5 (w5.setCells b1 0 (List.replicate n (Value.bool false)))) := ⟨(setCells_heap _ _ _ _ _ hn1).trans RG5.out⟩
        have R0c : Aside0 (Copies (w5.setCells b1 0 (List.replicate n (Value.bool false))) b0 (c5)) := ⟨R05.out.heap (setCells_heap _ _ _ _ _ hne)⟩
        have R1c : Aside0 (Freshs (w5.setCells b1 0 (List.replicate n (Value.bool false))) b1 (List.replicate n false)) := ⟨by have := RowB.fill false (f5) [] w5 R15.out; rw [HF5.out] at this; exact this⟩
        have ROc : Aside0 (Only w (w5.setCells b1 0 (List.replicate n (Value.bool false))) (SysS g b0 b1)) := ⟨Only.setCells _ (.inr (.inl rfl)) _ _ _ RO5.out⟩
        have BPc : Aside0 ((w5.setCells b1 0 (List.replicate n (Value.bool false))).heap[gp]? = some (.cells #[.slice A0 t0.length k0_, .slice A1 t1.length k1_, .slice A2 t2.length k2_, .slice A3 t3.length k3_, .slice A4 t4.length k4_] 54 (0, 0))) := ⟨(setCells_heap _ _ _ _ _ (fun e => PS.out (.inr (.inl e)))).trans BP5.out⟩
        have BOc : Aside0 ((w5.setCells b1 0 (List.replicate n (Value.bool false))).heap[go]? = some (.cells #[.int .i64 1, .int .i64 (i : Int)] 118 (0, 0))) := ⟨(setCells_heap _ _ _ _ _ (fun e => OS.out (.inr (.inl e)))).trans BO5.out⟩
        clear hcl q1
        generalize w5.setCells b1 0 (List.replicate n (Value.bool false)) = wv at RGc R0c R1c ROc BPc BOc ⊢
        have o1 : wv.cell? ⟨go, 1, none⟩ = some (.int .i64 (i : Int)) := blk_cell BOc.out 1
        have p1 : wv.cell? ⟨gp, 1, none⟩ = some (.slice A1 t1.length k1_) := blk_cell BPc.out 1
        obtain ⟨ad, e, r0, r1, r2⟩ := tabAt HT1.out ROc.out D1.out x hxv0 (by omega)
        have ND : ¬ SysS g b0 b1 ad.block := D1.out ad e
        subst e
        have hrv : Aside0 (0 ≤ (rd_T58 t1 x).f0 ∧ (rd_T58 t1 x).f0 ≤ 3) := ⟨V1.out _ (by unfold rd_T58; rw [getD_lt t1 x.toNat _ (by have := L1.out; omega)]; exact List.getElem_mem _)⟩
        have SI : Aside0 (stepI t0 t1 t2 t3 t4 c f m 1 i = finI ((c5).set i (rd_T58 t1 x).f0) ((List.replicate n false).set i (true && !decide ((rd_T58 t1 x).f0 = 0))) (rd_T58 t1 x).f2 false true (if (rd_T58 t1 x).f2 then (bk5 : Int) + 1 else bk5)) := ⟨by
          rw [stepI_w (sn := true) (by rw [← HX.out]; exact HSN.out) (s := (c5, f5, m5, bk5)) HS5.out, ← HX.out]
          show finI _ ((List.replicate (f5).length false).set i _) _ _ _ _ = _
          rw [HF5.out]
          rfl⟩
        obtain ⟨r, hr⟩ : ∃ r, r = rd_T58 t1 x := ⟨_, rfl⟩
        rw [← hr] at r0 r1 r2 hrv SI
        clear hr
        obtain ⟨f0, f1, f2⟩ := r
        simp only at r0 r1 r2 hrv SI
        have T2 := Aside0.mk r2
        go_still_tail 9, (by kernel_rfl)
        go_wp2_with fail
        refine (implBecome g b0 b1 c0 c1 n (m5) (c5) (List.replicate n false) i f0 true wv.drew RGc.out R0c.out R1c.out HC5.out (by simp) hi hne hn0 hn1 hm).mono ?_
        rintro e w8 ⟨rfl, hg8, h08, h18, ho8⟩
        have RG8 := Aside0.mk hg8
        have R08 := Aside0.mk h08
        have R18 := Aside0.mk h18
        have NS : ∀ k, (k = b0 ∨ k = b1) → SysS g b0 b1 k := fun k h => h.elim .inl (fun z => .inr (.inl z))
        have RO8 : Aside0 (Only w w8 (SysS g b0 b1)) := ⟨(ROc.out.drew).then_ ho8 (fun k h _ => NS k h)⟩
        have p1 : w8.cell? ⟨gp, 1, none⟩ = some (.slice (some ad) t1.length k1_) := blk_cell (ho8.blk (k := gp) BPc.out (fun z => PS.out (NS _ z))) 1
        have r2 : w8.cell? ⟨(ad.add (x.toNat * 3)).block, (ad.add (x.toNat * 3)).off + 2, none⟩ = some (.bool f2) := ho8.cell (W := wv.drew) T2.out (fun z => ND (by rw [← blk_add ad (x.toNat * 3)]; exact NS _ z))
        have q2 : w8.cell? ⟨g, 2, none⟩ = some (.bool m5) := blk_cell hg8 2
        have z2 : w8.frozen? ⟨g, 2, none⟩ = false := blk_frozen hg8 2
        clear o1 r0 r1 hg8 h08 h18 ho8
        have hcase2 : f2 = true ∨ f2 = false := by cases f2 <;> simp
        rcases hcase2 with rfl | rfl
        · have hbb0 := HB5.out
          have hbb1 := HBN5.out
          have SI2 := SI.out
          try simp only [if_true, Bool.false_eq_true, if_false] at SI2
          have SI2 := Aside0.mk SI2
          go_wp2_with ((with_reducible refine gate_store (t := 4) (p := 157) rfl ?_); refine store_event (t := 4) (p := 157) (v := .tmp 155) (w1 := w8.setCell ⟨g, 2, none⟩ (.bool true)) ?hg ?ho ?hn ?hr ?_; (case ho => rfl); (case hg => rfl); (case hn => rfl); (case hr => first | (go_simp; done) | (go_simp; rfl)); intro w9 hw; have RG9 : Aside0 (SysBox g b0 b1 n c0 c1 true w9) := ⟨by rw [hw]; exact set_same RG8.out _⟩; have R09 : Aside0 (Copies w9 b0 _) := ⟨by rw [hw]; exact R08.out.other _ hn0.symm⟩; have R19 : Aside0 (Freshs w9 b1 _) := ⟨by rw [hw]; exact R18.out.other _ hn1.symm⟩; have RO9 : Aside0 (Only w w9 (SysS g b0 b1)) := ⟨by rw [hw]; exact RO8.out.setCell _ _ (.inr (.inr rfl))⟩; clear hw; have q2 : w9.cell? ⟨g, 2, none⟩ = some (.bool true) := blk_cell RG9.out 2)
          go_meet
          refine ⟨_, _, _, false, true, _, rfl, rfl, rfl, SI2, RG9, R09, R19, ⟨by rw [List.length_set]; exact HC5.out⟩, ⟨by rw [List.length_set]; simp⟩, ⟨fun z hz => ?_⟩, ⟨?_⟩, ⟨?_⟩, RO9⟩
          · rcases List.mem_or_eq_of_mem_set hz with hz | hz
            · exact HV5.out z hz
            · rw [hz]; exact hrv.out
          · have := HB5.out; first | omega | (simp; done) | (simp; omega)
          · have := HBN5.out; first | omega | (simp; done) | (simp; omega)
        · have hbb0 := HB5.out
          have hbb1 := HBN5.out
          have SI2 := SI.out
          try simp only [if_true, Bool.false_eq_true, if_false] at SI2
          have SI2 := Aside0.mk SI2
          go_wp2_with ((with_reducible refine gate_store (t := 4) (p := 157) rfl ?_); refine store_event (t := 4) (p := 157) (v := .tmp 155) (w1 := w8.setCell ⟨g, 2, none⟩ (.bool false)) ?hg ?ho ?hn ?hr ?_; (case ho => rfl); (case hg => rfl); (case hn => rfl); (case hr => first | (go_simp; done) | (go_simp; rfl)); intro w9 hw; have RG9 : Aside0 (SysBox g b0 b1 n c0 c1 false w9) := ⟨by rw [hw]; exact set_same RG8.out _⟩; have R09 : Aside0 (Copies w9 b0 _) := ⟨by rw [hw]; exact R08.out.other _ hn0.symm⟩; have R19 : Aside0 (Freshs w9 b1 _) := ⟨by rw [hw]; exact R18.out.other _ hn1.symm⟩; have RO9 : Aside0 (Only w w9 (SysS g b0 b1)) := ⟨by rw [hw]; exact RO8.out.setCell _ _ (.inr (.inr rfl))⟩; clear hw; have q2 : w9.cell? ⟨g, 2, none⟩ = some (.bool false) := blk_cell RG9.out 2)
          go_meet
          refine ⟨_, _, _, false, true, _, rfl, rfl, rfl, SI2, RG9, R09, R19, ⟨by rw [List.length_set]; exact HC5.out⟩, ⟨by rw [List.length_set]; simp⟩, ⟨fun z hz => ?_⟩, ⟨?_⟩, ⟨?_⟩, RO9⟩
          · rcases List.mem_or_eq_of_mem_set hz with hz | hz
            · exact HV5.out z hz
            · rw [hz]; exact hrv.out
          · have := HB5.out; first | omega | (simp; done) | (simp; omega)
          · have := HBN5.out; first | omega | (simp; done) | (simp; omega)
      · have HSN : Aside0 ((decide (x = 0) || decide (x = 1)) = true) := ⟨HSN0.out⟩
        go_wp2_with fail
        refine (implSee g b0 b1 c0 c1 n m c f (i : Int) A4 k4_ t4 wd RGd.out R0d.out R1d.out HC.out HF.out hne hn0 hn1 hm (Kd.C_below HT4.out BWd.out) L4.out (fun ad e => ⟨fun z => D4.out ad e (.inl z), fun z => D4.out ad e (.inr (.inl z)), fun z => D4.out ad e (.inr (.inr z))⟩) HV.out V4.out).mono ?_
        rintro e w5 ⟨c5, f5, m5, bk5, rfl, hs, hg5, h05, h15, hc5, hf5, hv5, hb5, hbn5, ho5⟩
        have RG5 : Aside0 (SysBox g b0 b1 n c0 c1 m5 w5) := ⟨hg5⟩
        have R05 : Aside0 (Copies w5 b0 c5) := ⟨h05⟩
        have R15 : Aside0 (Freshs w5 b1 f5) := ⟨h15⟩
        have RO5 : Aside0 (Only w w5 (SysS g b0 b1)) := ⟨ROd.out.trans ho5⟩
        have BP5 : Aside0 (w5.heap[gp]? = some (.cells #[.slice A0 t0.length k0_, .slice A1 t1.length k1_, .slice A2 t2.length k2_, .slice A3 t3.length k3_, .slice A4 t4.length k4_] 54 (0, 0))) := ⟨ho5.blk BPd.out PS.out⟩
        have BO5 : Aside0 (w5.heap[go]? = some (.cells #[.int .i64 1, .int .i64 (i : Int)] 118 (0, 0))) := ⟨ho5.blk BOd.out OS.out⟩
        have HC5 := Aside0.mk hc5
        have HF5 := Aside0.mk hf5
        have HV5 := Aside0.mk hv5
        have HS5 := Aside0.mk hs
        have HB5 := Aside0.mk hb5
        have HBN5 := Aside0.mk hbn5
        clear o0 o1 p0 p1 p2 p3 p4 q0 q1 q2 hg5 h05 h15 ho5 hc5 hf5 hv5 hs hb5 hbn5
        have q1 : w5.cell? ⟨g, 1, none⟩ = some (.slice (some ⟨b1, 0, none⟩) n c1) := blk_cell RG5.out 1
        have hcl : ∀ ty, (Builtin.clear_ #[71] ty #[.slice (some ⟨b1, 0, none⟩) n c1]).run Try.prog w5 = .ok (.tuple #[]) (w5.setCells b1 0 (List.replicate n (Value.bool false))) := fun ty => Lib.run_clear_slice w5 _ _ ty _ Try.underlying71 (fun w => zbool w) rfl rfl b1 0 n c1 (by omega) (fun j hj => by rw [Nat.zero_add, R15.out.cell (show j < (f5).length by have := HF5.out; omega) false]; rfl) (fun j _ => R15.out.thaw _)
        go_wp2
        have RGc : Aside0 (SysBox g b0 b1 n c0 c1 m5 (w5.setCells b1 0 (List.replicate n (Value.bool false)))) := ⟨(setCells_heap _ _ _ _ _ hn1).trans RG5.out⟩
        have R0c : Aside0 (Copies (w5.setCells b1 0 (List.replicate n (Value.bool false))) b0 (c5)) := ⟨R05.out.heap (setCells_heap _ _ _ _ _ hne)⟩
        have R1c : Aside0 (Freshs (w5.setCells b1 0 (List.replicate n (Value.bool false))) b1 (List.replicate n false)) := ⟨by have := RowB.fill false (f5) [] w5 R15.out; rw [HF5.out] at this; exact this⟩
        have ROc : Aside0 (Only w (w5.setCells b1 0 (List.replicate n (Value.bool false))) (SysS g b0 b1)) := ⟨Only.setCells _ (.inr (.inl rfl)) _ _ _ RO5.out⟩
        have BPc : Aside0 ((w5.setCells b1 0 (List.replicate n (Value.bool false))).heap[gp]? = some (.cells #[.slice A0 t0.length k0_, .slice A1 t1.length k1_, .slice A2 t2.length k2_, .slice A3 t3.length k3_, .slice A4 t4.length k4_] 54 (0, 0))) := ⟨(setCells_heap _ _ _ _ _ (fun e => PS.out (.inr (.inl e)))).trans BP5.out⟩
        have BOc : Aside0 ((w5.setCells b1 0 (List.replicate n (Value.bool false))).heap[go]? = some (.cells #[.int .i64 1, .int .i64 (i : Int)] 118 (0, 0))) := ⟨(setCells_heap _ _ _ _ _ (fun e => OS.out (.inr (.inl e)))).trans BO5.out⟩
        clear hcl q1
        generalize w5.setCells b1 0 (List.replicate n (Value.bool false)) = wv at RGc R0c R1c ROc BPc BOc ⊢
        have o1 : wv.cell? ⟨go, 1, none⟩ = some (.int .i64 (i : Int)) := blk_cell BOc.out 1
        have p1 : wv.cell? ⟨gp, 1, none⟩ = some (.slice A1 t1.length k1_) := blk_cell BPc.out 1
        obtain ⟨ad, e, r0, r1, r2⟩ := tabAt HT1.out ROc.out D1.out x hxv0 (by omega)
        have ND : ¬ SysS g b0 b1 ad.block := D1.out ad e
        subst e
        have hrv : Aside0 (0 ≤ (rd_T58 t1 x).f0 ∧ (rd_T58 t1 x).f0 ≤ 3) := ⟨V1.out _ (by unfold rd_T58; rw [getD_lt t1 x.toNat _ (by have := L1.out; omega)]; exact List.getElem_mem _)⟩
        have SI : Aside0 (stepI t0 t1 t2 t3 t4 c f m 1 i = finI ((c5).set i (rd_T58 t1 x).f0) ((List.replicate n false).set i (true && !decide ((rd_T58 t1 x).f0 = 0))) (rd_T58 t1 x).f2 false true (if (rd_T58 t1 x).f2 then (bk5 : Int) + 1 else bk5)) := ⟨by
          rw [stepI_w (sn := true) (by rw [← HX.out]; exact HSN.out) (s := (c5, f5, m5, bk5)) HS5.out, ← HX.out]
          show finI _ ((List.replicate (f5).length false).set i _) _ _ _ _ = _
          rw [HF5.out]
          rfl⟩
        obtain ⟨r, hr⟩ : ∃ r, r = rd_T58 t1 x := ⟨_, rfl⟩
        rw [← hr] at r0 r1 r2 hrv SI
        clear hr
        obtain ⟨f0, f1, f2⟩ := r
        simp only at r0 r1 r2 hrv SI
        have T2 := Aside0.mk r2
        go_still_tail 9, (by kernel_rfl)
        go_wp2_with fail
        refine (implBecome g b0 b1 c0 c1 n (m5) (c5) (List.replicate n false) i f0 true wv.drew RGc.out R0c.out R1c.out HC5.out (by simp) hi hne hn0 hn1 hm).mono ?_
        rintro e w8 ⟨rfl, hg8, h08, h18, ho8⟩
        have RG8 := Aside0.mk hg8
        have R08 := Aside0.mk h08
        have R18 := Aside0.mk h18
        have NS : ∀ k, (k = b0 ∨ k = b1) → SysS g b0 b1 k := fun k h => h.elim .inl (fun z => .inr (.inl z))
        have RO8 : Aside0 (Only w w8 (SysS g b0 b1)) := ⟨(ROc.out.drew).then_ ho8 (fun k h _ => NS k h)⟩
        have p1 : w8.cell? ⟨gp, 1, none⟩ = some (.slice (some ad) t1.length k1_) := blk_cell (ho8.blk (k := gp) BPc.out (fun z => PS.out (NS _ z))) 1
        have r2 : w8.cell? ⟨(ad.add (x.toNat * 3)).block, (ad.add (x.toNat * 3)).off + 2, none⟩ = some (.bool f2) := ho8.cell (W := wv.drew) T2.out (fun z => ND (by rw [← blk_add ad (x.toNat * 3)]; exact NS _ z))
        have q2 : w8.cell? ⟨g, 2, none⟩ = some (.bool m5) := blk_cell hg8 2
        have z2 : w8.frozen? ⟨g, 2, none⟩ = false := blk_frozen hg8 2
        clear o1 r0 r1 hg8 h08 h18 ho8
        have hcase2 : f2 = true ∨ f2 = false := by cases f2 <;> simp
        rcases hcase2 with rfl | rfl
        · have hbb0 := HB5.out
          have hbb1 := HBN5.out
          have SI2 := SI.out
          try simp only [if_true, Bool.false_eq_true, if_false] at SI2
          have SI2 := Aside0.mk SI2
          go_wp2_with ((with_reducible refine gate_store (t := 4) (p := 157) rfl ?_); refine store_event (t := 4) (p := 157) (v := .tmp 155) (w1 := w8.setCell ⟨g, 2, none⟩ (.bool true)) ?hg ?ho ?hn ?hr ?_; (case ho => rfl); (case hg => rfl); (case hn => rfl); (case hr => first | (go_simp; done) | (go_simp; rfl)); intro w9 hw; have RG9 : Aside0 (SysBox g b0 b1 n c0 c1 true w9) := ⟨by rw [hw]; exact set_same RG8.out _⟩; have R09 : Aside0 (Copies w9 b0 _) := ⟨by rw [hw]; exact R08.out.other _ hn0.symm⟩; have R19 : Aside0 (Freshs w9 b1 _) := ⟨by rw [hw]; exact R18.out.other _ hn1.symm⟩; have RO9 : Aside0 (Only w w9 (SysS g b0 b1)) := ⟨by rw [hw]; exact RO8.out.setCell _ _ (.inr (.inr rfl))⟩; clear hw; have q2 : w9.cell? ⟨g, 2, none⟩ = some (.bool true) := blk_cell RG9.out 2)
          go_meet
          refine ⟨_, _, _, false, true, _, rfl, rfl, rfl, SI2, RG9, R09, R19, ⟨by rw [List.length_set]; exact HC5.out⟩, ⟨by rw [List.length_set]; simp⟩, ⟨fun z hz => ?_⟩, ⟨?_⟩, ⟨?_⟩, RO9⟩
          · rcases List.mem_or_eq_of_mem_set hz with hz | hz
            · exact HV5.out z hz
            · rw [hz]; exact hrv.out
          · have := HB5.out; first | omega | (simp; done) | (simp; omega)
          · have := HBN5.out; first | omega | (simp; done) | (simp; omega)
        · have hbb0 := HB5.out
          have hbb1 := HBN5.out
          have SI2 := SI.out
          try simp only [if_true, Bool.false_eq_true, if_false] at SI2
          have SI2 := Aside0.mk SI2
          go_wp2_with ((with_reducible refine gate_store (t := 4) (p := 157) rfl ?_); refine store_event (t := 4) (p := 157) (v := .tmp 155) (w1 := w8.setCell ⟨g, 2, none⟩ (.bool false)) ?hg ?ho ?hn ?hr ?_; (case ho => rfl); (case hg => rfl); (case hn => rfl); (case hr => first | (go_simp; done) | (go_simp; rfl)); intro w9 hw; have RG9 : Aside0 (SysBox g b0 b1 n c0 c1 false w9) := ⟨by rw [hw]; exact set_same RG8.out _⟩; have R09 : Aside0 (Copies w9 b0 _) := ⟨by rw [hw]; exact R08.out.other _ hn0.symm⟩; have R19 : Aside0 (Freshs w9 b1 _) := ⟨by rw [hw]; exact R18.out.other _ hn1.symm⟩; have RO9 : Aside0 (Only w w9 (SysS g b0 b1)) := ⟨by rw [hw]; exact RO8.out.setCell _ _ (.inr (.inr rfl))⟩; clear hw; have q2 : w9.cell? ⟨g, 2, none⟩ = some (.bool false) := blk_cell RG9.out 2)
          go_meet
          refine ⟨_, _, _, false, true, _, rfl, rfl, rfl, SI2, RG9, R09, R19, ⟨by rw [List.length_set]; exact HC5.out⟩, ⟨by rw [List.length_set]; simp⟩, ⟨fun z hz => ?_⟩, ⟨?_⟩, ⟨?_⟩, RO9⟩
          · rcases List.mem_or_eq_of_mem_set hz with hz | hz
            · exact HV5.out z hz
            · rw [hz]; exact hrv.out
          · have := HB5.out; first | omega | (simp; done) | (simp; omega)
          · have := HBN5.out; first | omega | (simp; done) | (simp; omega)
      · have HSN : Aside0 ((decide (x = 0) || decide (x = 1)) = false) := ⟨HSN0.out⟩
        have HB_ : Aside0 ((0 : Int) ≤ 0) := ⟨by omega⟩
        have HBN_ : Aside0 ((0 : Int) ≤ n) := ⟨by omega⟩
        have RG_ := RGd
        have R0_ := R0d
        have R1_ := R1d
        have RO_ := ROd
        have BP_ := BPd
        have BO_ := BOd
        have HC_ := HC
        have HF_ := HF
        have HV_ := HV
        have q1 : wd.cell? ⟨g, 1, none⟩ = some (.slice (some ⟨b1, 0, none⟩) n c1) := blk_cell RG_.out 1
        have hcl : ∀ ty, (Builtin.clear_ #[71] ty #[.slice (some ⟨b1, 0, none⟩) n c1]).run Try.prog wd = .ok (.tuple #[]) (wd.setCells b1 0 (List.replicate n (Value.bool false))) := fun ty => Lib.run_clear_slice wd _ _ ty _ Try.underlying71 (fun w => zbool w) rfl rfl b1 0 n c1 (by omega) (fun j hj => by rw [Nat.zero_add, R1_.out.cell (show j < (f).length by have := HF_.out; omega) false]; rfl) (fun j _ => R1_.out.thaw _)
        go_wp2
        have RGc : Aside0 (SysBox g b0 b1 n c0 c1 m (wd.setCells b1 0 (List.replicate n (Value.bool false)))) := ⟨(setCells_heap _ _ _ _ _ hn1).trans RG_.out⟩
        have R0c : Aside0 (Copies (wd.setCells b1 0 (List.replicate n (Value.bool false))) b0 (c)) := ⟨R0_.out.heap (setCells_heap _ _ _ _ _ hne)⟩
        have R1c : Aside0 (Freshs (wd.setCells b1 0 (List.replicate n (Value.bool false))) b1 (List.replicate n false)) := ⟨by have := RowB.fill false (f) [] wd R1_.out; rw [HF_.out] at this; exact this⟩
        have ROc : Aside0 (Only w (wd.setCells b1 0 (List.replicate n (Value.bool false))) (SysS g b0 b1)) := ⟨Only.setCells _ (.inr (.inl rfl)) _ _ _ RO_.out⟩
        have BPc : Aside0 ((wd.setCells b1 0 (List.replicate n (Value.bool false))).heap[gp]? = some (.cells #[.slice A0 t0.length k0_, .slice A1 t1.length k1_, .slice A2 t2.length k2_, .slice A3 t3.length k3_, .slice A4 t4.length k4_] 54 (0, 0))) := ⟨(setCells_heap _ _ _ _ _ (fun e => PS.out (.inr (.inl e)))).trans BP_.out⟩
        have BOc : Aside0 ((wd.setCells b1 0 (List.replicate n (Value.bool false))).heap[go]? = some (.cells #[.int .i64 1, .int .i64 (i : Int)] 118 (0, 0))) := ⟨(setCells_heap _ _ _ _ _ (fun e => OS.out (.inr (.inl e)))).trans BO_.out⟩
        clear hcl q1
        generalize wd.setCells b1 0 (List.replicate n (Value.bool false)) = wv at RGc R0c R1c ROc BPc BOc ⊢
        have o1 : wv.cell? ⟨go, 1, none⟩ = some (.int .i64 (i : Int)) := blk_cell BOc.out 1
        have p1 : wv.cell? ⟨gp, 1, none⟩ = some (.slice A1 t1.length k1_) := blk_cell BPc.out 1
        obtain ⟨ad, e, r0, r1, r2⟩ := tabAt HT1.out ROc.out D1.out x hxv0 (by omega)
        have ND : ¬ SysS g b0 b1 ad.block := D1.out ad e
        subst e
        have hrv : Aside0 (0 ≤ (rd_T58 t1 x).f0 ∧ (rd_T58 t1 x).f0 ≤ 3) := ⟨V1.out _ (by unfold rd_T58; rw [getD_lt t1 x.toNat _ (by have := L1.out; omega)]; exact List.getElem_mem _)⟩
        have SI : Aside0 (stepI t0 t1 t2 t3 t4 c f m 1 i = finI ((c).set i (rd_T58 t1 x).f0) ((List.replicate n false).set i (true && !decide ((rd_T58 t1 x).f0 = 0))) (rd_T58 t1 x).f2 false false (if (rd_T58 t1 x).f2 then (0 : Int) + 1 else 0)) := ⟨by
          rw [stepI_w (sn := false) (by rw [← HX.out]; exact HSN.out) (s := (c, f, m, 0)) rfl, ← HX.out]
          show finI _ ((List.replicate (f).length false).set i _) _ _ _ _ = _
          rw [HF_.out]
          rfl⟩
        obtain ⟨r, hr⟩ : ∃ r, r = rd_T58 t1 x := ⟨_, rfl⟩
        rw [← hr] at r0 r1 r2 hrv SI
        clear hr
        obtain ⟨f0, f1, f2⟩ := r
        simp only at r0 r1 r2 hrv SI
        have T2 := Aside0.mk r2
        go_still_tail 9, (by kernel_rfl)
        go_wp2_with fail
        refine (implBecome g b0 b1 c0 c1 n (m) (c) (List.replicate n false) i f0 true wv.drew RGc.out R0c.out R1c.out HC_.out (by simp) hi hne hn0 hn1 hm).mono ?_
        rintro e w8 ⟨rfl, hg8, h08, h18, ho8⟩
        have RG8 := Aside0.mk hg8
        have R08 := Aside0.mk h08
        have R18 := Aside0.mk h18
        have NS : ∀ k, (k = b0 ∨ k = b1) → SysS g b0 b1 k := fun k h => h.elim .inl (fun z => .inr (.inl z))
        have RO8 : Aside0 (Only w w8 (SysS g b0 b1)) := ⟨(ROc.out.drew).then_ ho8 (fun k h _ => NS k h)⟩
        have p1 : w8.cell? ⟨gp, 1, none⟩ = some (.slice (some ad) t1.length k1_) := blk_cell (ho8.blk (k := gp) BPc.out (fun z => PS.out (NS _ z))) 1
        have r2 : w8.cell? ⟨(ad.add (x.toNat * 3)).block, (ad.add (x.toNat * 3)).off + 2, none⟩ = some (.bool f2) := ho8.cell (W := wv.drew) T2.out (fun z => ND (by rw [← blk_add ad (x.toNat * 3)]; exact NS _ z))
        have q2 : w8.cell? ⟨g, 2, none⟩ = some (.bool m) := blk_cell hg8 2
        have z2 : w8.frozen? ⟨g, 2, none⟩ = false := blk_frozen hg8 2
        clear o1 r0 r1 hg8 h08 h18 ho8
        have hcase2 : f2 = true ∨ f2 = false := by cases f2 <;> simp
        rcases hcase2 with rfl | rfl
        · have hbb0 := HB_.out
          have hbb1 := HBN_.out
          have SI2 := SI.out
          try simp only [if_true, Bool.false_eq_true, if_false] at SI2
          have SI2 := Aside0.mk SI2
          go_wp2_with ((with_reducible refine gate_store (t := 4) (p := 157) rfl ?_); refine store_event (t := 4) (p := 157) (v := .tmp 155) (w1 := w8.setCell ⟨g, 2, none⟩ (.bool true)) ?hg ?ho ?hn ?hr ?_; (case ho => rfl); (case hg => rfl); (case hn => rfl); (case hr => first | (go_simp; done) | (go_simp; rfl)); intro w9 hw; have RG9 : Aside0 (SysBox g b0 b1 n c0 c1 true w9) := ⟨by rw [hw]; exact set_same RG8.out _⟩; have R09 : Aside0 (Copies w9 b0 _) := ⟨by rw [hw]; exact R08.out.other _ hn0.symm⟩; have R19 : Aside0 (Freshs w9 b1 _) := ⟨by rw [hw]; exact R18.out.other _ hn1.symm⟩; have RO9 : Aside0 (Only w w9 (SysS g b0 b1)) := ⟨by rw [hw]; exact RO8.out.setCell _ _ (.inr (.inr rfl))⟩; clear hw; have q2 : w9.cell? ⟨g, 2, none⟩ = some (.bool true) := blk_cell RG9.out 2)
          go_meet
          refine ⟨_, _, _, false, false, _, rfl, rfl, rfl, SI2, RG9, R09, R19, ⟨by rw [List.length_set]; exact HC_.out⟩, ⟨by rw [List.length_set]; simp⟩, ⟨fun z hz => ?_⟩, ⟨?_⟩, ⟨?_⟩, RO9⟩
          · rcases List.mem_or_eq_of_mem_set hz with hz | hz
            · exact HV_.out z hz
            · rw [hz]; exact hrv.out
          · have := HB_.out; first | omega | (simp; done) | (simp; omega)
          · have := HBN_.out; first | omega | (simp; done) | (simp; omega)
        · have hbb0 := HB_.out
          have hbb1 := HBN_.out
          have SI2 := SI.out
          try simp only [if_true, Bool.false_eq_true, if_false] at SI2
          have SI2 := Aside0.mk SI2
          go_wp2_with ((with_reducible refine gate_store (t := 4) (p := 157) rfl ?_); refine store_event (t := 4) (p := 157) (v := .tmp 155) (w1 := w8.setCell ⟨g, 2, none⟩ (.bool false)) ?hg ?ho ?hn ?hr ?_; (case ho => rfl); (case hg => rfl); (case hn => rfl); (case hr => first | (go_simp; done) | (go_simp; rfl)); intro w9 hw; have RG9 : Aside0 (SysBox g b0 b1 n c0 c1 false w9) := ⟨by rw [hw]; exact set_same RG8.out _⟩; have R09 : Aside0 (Copies w9 b0 _) := ⟨by rw [hw]; exact R08.out.other _ hn0.symm⟩; have R19 : Aside0 (Freshs w9 b1 _) := ⟨by rw [hw]; exact R18.out.other _ hn1.symm⟩; have RO9 : Aside0 (Only w w9 (SysS g b0 b1)) := ⟨by rw [hw]; exact RO8.out.setCell _ _ (.inr (.inr rfl))⟩; clear hw; have q2 : w9.cell? ⟨g, 2, none⟩ = some (.bool false) := blk_cell RG9.out 2)
          go_meet
          refine ⟨_, _, _, false, false, _, rfl, rfl, rfl, SI2, RG9, R09, R19, ⟨by rw [List.length_set]; exact HC_.out⟩, ⟨by rw [List.length_set]; simp⟩, ⟨fun z hz => ?_⟩, ⟨?_⟩, ⟨?_⟩, RO9⟩
          · rcases List.mem_or_eq_of_mem_set hz with hz | hz
            · exact HV_.out z hz
            · rw [hz]; exact hrv.out
          · have := HB_.out; first | omega | (simp; done) | (simp; omega)
          · have := HBN_.out; first | omega | (simp; done) | (simp; omega)
    · have o0 : wd.cell? ⟨go, 0, none⟩ = some (.int .i64 2) := blk_cell BOd.out 0
      have o1 : wd.cell? ⟨go, 1, none⟩ = some (.int .i64 (i : Int)) := blk_cell BOd.out 1
      have p0 : wd.cell? ⟨gp, 0, none⟩ = some (.slice A0 t0.length k0_) := blk_cell BPd.out 0
      have p1 : wd.cell? ⟨gp, 1, none⟩ = some (.slice A1 t1.length k1_) := blk_cell BPd.out 1
      have p2 : wd.cell? ⟨gp, 2, none⟩ = some (.slice A2 t2.length k2_) := blk_cell BPd.out 2
      have p3 : wd.cell? ⟨gp, 3, none⟩ = some (.slice A3 t3.length k3_) := blk_cell BPd.out 3
      have p4 : wd.cell? ⟨gp, 4, none⟩ = some (.slice A4 t4.length k4_) := blk_cell BPd.out 4
      have q0 : wd.cell? ⟨g, 0, none⟩ = some (.slice (some ⟨b0, 0, none⟩) n c0) := blk_cell RGd.out 0
      have q1 : wd.cell? ⟨g, 1, none⟩ = some (.slice (some ⟨b1, 0, none⟩) n c1) := blk_cell RGd.out 1
      have q2 : wd.cell? ⟨g, 2, none⟩ = some (.bool m) := blk_cell RGd.out 2
      obtain ⟨ad, e, r0, r1, r2⟩ := tabAt HT2.out ROd.out D2.out x hxv0 (by omega)
      subst e
      have SI : Aside0 (stepI t0 t1 t2 t3 t4 c f m 2 i = finI (c.set i 0) (f.set i false) (if (rd_T58 t2 x).f2 then y else m) false false (if (rd_T58 t2 x).f2 then 1 else 0)) := ⟨by
        rw [stepI_e, ← HX.out, ← HY.out]
        rfl⟩
      obtain ⟨r, hr⟩ : ∃ r, r = rd_T58 t2 x := ⟨_, rfl⟩
      rw [← hr] at r0 r1 r2 SI
      clear hr
      obtain ⟨f0, f1, f2⟩ := r
      simp only at r0 r1 r2 SI
      have z2 : wd.frozen? ⟨g, 2, none⟩ = false := blk_frozen RGd.out 2
      have hcase2 : f2 = true ∨ f2 = false := by cases f2 <;> simp
      rcases hcase2 with rfl | rfl
      · go_wp2
        go_region
        have RGc : Aside0 (SysBox g b0 b1 n c0 c1 y (wd.setCell ⟨g, 2, none⟩ (.bool y)).drew) := ⟨set_same RGd.out _⟩
        have R0c : Aside0 (Copies (wd.setCell ⟨g, 2, none⟩ (.bool y)).drew b0 c) := ⟨R0d.out.other _ hn0.symm⟩
        have R1c : Aside0 (Freshs (wd.setCell ⟨g, 2, none⟩ (.bool y)).drew b1 f) := ⟨R1d.out.other _ hn1.symm⟩
        have ROc : Aside0 (Only w (wd.setCell ⟨g, 2, none⟩ (.bool y)).drew (SysS g b0 b1)) := ⟨(ROd.out.setCell _ _ (.inr (.inr rfl))).drew⟩
        have o1 : (wd.setCell ⟨g, 2, none⟩ (.bool y)).drew.cell? ⟨go, 1, none⟩ = some (.int .i64 (i : Int)) := blk_cell (set_other (b := g) (i := 2) BOd.out (.bool y) (fun z => OS.out (.inr (.inr z)))) 1
        clear o0 p0 p1 p2 p3 p4 q0 q1 q2 r0 r1 r2 z2
        generalize (wd.setCell ⟨g, 2, none⟩ (.bool y)).drew = wv at RGc R0c R1c ROc o1 ⊢
        go_wp2_with fail
        refine (implBecome g b0 b1 c0 c1 n y c f i 0 false _ RGc.out R0c.out R1c.out HC.out HF.out hi hne hn0 hn1 hm).mono ?_
        rintro e w' ⟨rfl, hg', h0', h1', ho'⟩
        go_wp2
        go_meet
        refine ⟨_, _, _, false, false, 1, rfl, rfl, rfl, ⟨SI.out⟩, ⟨hg'⟩, ⟨h0'⟩, ⟨h1'⟩, ⟨by rw [List.length_set]; exact HC.out⟩, ⟨by rw [List.length_set]; exact HF.out⟩, ⟨fun z hz => ?_⟩, ⟨by omega⟩, ⟨by omega⟩, ⟨ROc.out.then_ ho' (fun i hi _ => hi.elim .inl (fun z => .inr (.inl z)))⟩⟩
        rcases List.mem_or_eq_of_mem_set hz with hz | hz
        · exact HV.out z hz
        · subst hz; omega
      · go_wp2_with fail
        refine (implBecome g b0 b1 c0 c1 n m c f i 0 false wd RGd.out R0d.out R1d.out HC.out HF.out hi hne hn0 hn1 hm).mono ?_
        rintro e w' ⟨rfl, hg', h0', h1', ho'⟩
        go_wp2
        go_meet
        refine ⟨_, _, _, false, false, 0, rfl, rfl, rfl, ⟨SI.out⟩, ⟨hg'⟩, ⟨h0'⟩, ⟨h1'⟩, ⟨by rw [List.length_set]; exact HC.out⟩, ⟨by rw [List.length_set]; exact HF.out⟩, ⟨fun z hz => ?_⟩, ⟨by omega⟩, ⟨by omega⟩, ⟨ROd.out.then_ ho' (fun i hi _ => hi.elim .inl (fun z => .inr (.inl z)))⟩⟩
        rcases List.mem_or_eq_of_mem_set hz with hz | hz
        · exact HV.out z hz
        · subst hz; omega
  case rest =>
    obtain ⟨c', f', m', fl, sn, bk, rfl, rfl, rfl, RS, XG, X0, X1, XC, XF, XV, XB0, XB1, XO⟩ := hcut
    have q1 : wc.cell? ⟨g, 1, none⟩ = some (.slice (some ⟨b1, 0, none⟩) n c1) := blk_cell XG.out 1
    have q2 : wc.cell? ⟨g, 2, none⟩ = some (.bool m') := blk_cell XG.out 2
    obtain ⟨ba, hba⟩ : ∃ b, (f'.any fun y => y) = b := ⟨_, rfl⟩
    have CN : Aside0 (Calls Try.prog 110 #[.slice (some ⟨b1, 0, none⟩) n c1, .bool true] wc fun e w' => e = .returned (.bool ba) ∧ Drawn0 wc w') := ⟨by
      obtain ⟨kq, hkq⟩ := implHasB_ev f' (by have := XF.out; omega)
      rw [hba] at hkq
      have := slices_Contains_bool_bool.calls kq (some ⟨b1, 0, none⟩) c1 f' true ba wc (X1.out.toC (by have := XF.out; omega)) (by have := XF.out; omega) (hkq kq (Nat.le_refl _))
      rw [XF.out] at this
      exact this⟩
    have FN : Aside0 (finI c' f' m' fl sn bk = (c', f', m', fl || (!m' && !ba), sn, bk)) := ⟨by unfold finI; rw [hba]⟩
    clear hba
    have hcase : fl = true ∨ (fl = false ∧ m' = true) ∨ (fl = false ∧ m' = false ∧ ba = true) ∨ (fl = false ∧ m' = false ∧ ba = false) := by cases fl <;> cases m' <;> cases ba <;> simp
    rcases hcase with rfl | ⟨rfl, rfl⟩ | ⟨rfl, rfl, rfl⟩ | ⟨rfl, rfl, rfl⟩
    all_goals
      go_wp2_with (go_at_call 110; refine CN.out.mono ?_; rintro e w' ⟨rfl, ⟨nd, rfl⟩⟩)
      go_ret3
      exact ⟨c', f', _, _, sn, bk, rfl, RS.out.trans FN.out, XG.out, X0.out, X1.out, XC.out, XF.out, XV.out, XB0.out, XB1.out, by first | exact XO.out | exact XO.out.drewN _⟩
/-- What impl's RunSystem makes of ops, from a system on; k: the place of the first op. -/
def runI (t0 t1 t2 t3 t4 : List S58) : List S118 → Int → List Int → List Bool → Bool → List Int × List Bool × Bool × Int
  | [], _, c, f, m => (c, f, m, -1)
  | o :: os, k, c, f, m =>
    if (stepI t0 t1 t2 t3 t4 c f m o.f0 o.f1.toNat).2.2.2.1 = true then ((stepI t0 t1 t2 t3 t4 c f m o.f0 o.f1.toNat).1, (stepI t0 t1 t2 t3 t4 c f m o.f0 o.f1.toNat).2.1, (stepI t0 t1 t2 t3 t4 c f m o.f0 o.f1.toNat).2.2.1, k)
    else runI t0 t1 t2 t3 t4 os (k + 1) (stepI t0 t1 t2 t3 t4 c f m o.f0 o.f1.toNat).1 (stepI t0 t1 t2 t3 t4 c f m o.f0 o.f1.toNat).2.1 (stepI t0 t1 t2 t3 t4 c f m o.f0 o.f1.toNat).2.2.1
set_option maxHeartbeats 1600000 in
set_option maxRecDepth 100000 in
theorem xRun (A0 A1 A2 A3 A4 A5 : Option Addr) (c0 c1 c2 c3 c4 c5 : Nat) (t0 t1 t2 t3 t4 : List S58) (n : Nat) (ops : List S118) (w : World)
    (hr0 : Kd.C k58 w A0 t0.length t0) (hc0 : t0.length ≤ c0) (hr1 : Kd.C k58 w A1 t1.length t1) (hc1 : t1.length ≤ c1) (hr2 : Kd.C k58 w A2 t2.length t2) (hc2 : t2.length ≤ c2) (hr3 : Kd.C k58 w A3 t3.length t3) (hc3 : t3.length ≤ c3) (hr4 : Kd.C k58 w A4 t4.length t4) (hc4 : t4.length ≤ c4) (hr5 : Kd.C k118 w A5 ops.length ops) (hc5 : ops.length ≤ c5)
    (hv : impl_isCaches.f t0 t1 t2 t3 t4 (n : Int) = some true) (ho : impl_areOps.f ops (n : Int) = some true) (n1 : 1 ≤ n) (n3 : n ≤ 3) (hl : ops.length ≤ 40) (hop : ∀ o ∈ ops, (0 ≤ o.f0 ∧ o.f0 ≤ 2) ∧ 0 ≤ o.f1 ∧ o.f1 < n)
    (l0 : t0.length = 4) (l1 : t1.length = 4) (l2 : t2.length = 4) (l3 : t3.length = 4) (l4 : t4.length = 4) (v0 : ∀ r ∈ t0, (0 ≤ r.f0 ∧ r.f0 ≤ 3) ∧ 0 ≤ r.f1 ∧ r.f1 ≤ 3) (v1 : ∀ r ∈ t1, 0 ≤ r.f0 ∧ r.f0 ≤ 3) (v3 : ∀ r ∈ t3, 0 ≤ r.f0 ∧ r.f0 ≤ 3) (v4 : ∀ r ∈ t4, 0 ≤ r.f0 ∧ r.f0 ≤ 3) (C : List Int) (F : List Bool) (M : Bool) (Q : Int)
    (hR : runI t0 t1 t2 t3 t4 ops 0 (List.replicate n 0) (List.replicate n false) true = (C, F, M, Q)) :
    Calls Try.prog 42 #[.agg #[.slice A0 t0.length c0, .slice A1 t1.length c1, .slice A2 t2.length c2, .slice A3 t3.length c3, .slice A4 t4.length c4], .int .i64 (n : Int), .slice A5 ops.length c5] w fun e w' => ∃ b0 b1 d0 d1, e = .returned (.tuple #[.agg #[.slice (some ⟨b0, 0, none⟩) n d0, .slice (some ⟨b1, 0, none⟩) n d1, .bool M], .int .i64 Q, .bool true]) ∧ Copies w' b0 C ∧ Freshs w' b1 F ∧ C.length = n ∧ F.length = n ∧ n ≤ d0 ∧ n ≤ d1 ∧ d0 ≤ maxLen ∧ d1 ≤ maxLen ∧ b0 ≠ b1 ∧ w.heap.size ≤ b0 ∧ w.heap.size ≤ b1 ∧ shapeOf w'.heap[b0]? = some (d0, 2, (0, 0)) ∧ shapeOf w'.heap[b1]? = some (d1, 4, (0, 0)) ∧ Below w.heap.size w w' := by
  have HT0 := Aside0.mk hr0
  have HT1 := Aside0.mk hr1
  have HT2 := Aside0.mk hr2
  have HT3 := Aside0.mk hr3
  have HT4 := Aside0.mk hr4
  have HT5 := Aside0.mk hr5
  have L0 := Aside0.mk l0
  have L1 := Aside0.mk l1
  have L2 := Aside0.mk l2
  have L3 := Aside0.mk l3
  have L4 := Aside0.mk l4
  have V0 := Aside0.mk v0
  have V1 := Aside0.mk v1
  have V3 := Aside0.mk v3
  have V4 := Aside0.mk v4
  have HV := Aside0.mk hv
  have HO := Aside0.mk ho
  have HL := Aside0.mk hl
  have HOP := Aside0.mk hop
  have N1 := Aside0.mk n1
  have N3 := Aside0.mk n3
  have HR := Aside0.mk hR
  have HS := St.box (St.box (St.start w) #[.slice A0 t0.length c0, .slice A1 t1.length c1, .slice A2 t2.length c2, .slice A3 t3.length c3, .slice A4 t4.length c4] 54) #[.slice none 0 0, .slice none 0 0, .bool false] 73
  simp only [World.size_alloc] at HS
  clear hr0 hr1 hr2 hr3 hr4 hr5 l0 l1 l2 l3 l4 v0 v1 v3 v4 hv ho hl hop n1 n3 hR
  go_enter Try.func42, Try.ntmps42
  go_wp2_with fail
  refine (impl_isCaches.calls A0 c0 t0 A1 c1 t1 A2 c2 t2 A3 c3 t3 A4 c4 t4 (n : Int) true _ (Kd.C_below HT0.out HS.below) hc0 (Kd.C_below HT1.out HS.below) hc1 (Kd.C_below HT2.out HS.below) hc2 (Kd.C_below HT3.out HS.below) hc3 (Kd.C_below HT4.out HS.below) hc4 HV.out).mono ?_
  rintro e w1 ⟨rfl, hb⟩
  replace HS := HS.step hb
  clear hb
  go_wp2_with fail
  refine (impl_areOps.calls A5 c5 ops (n : Int) true _ (Kd.C_below HT5.out HS.below) hc5 HO.out).mono ?_
  rintro e w2 ⟨rfl, hb⟩
  replace HS := HS.step hb
  clear hb
  have hfs : impl_firstSystem.f (n : Int) = some (List.replicate n 0, List.replicate n false, true) := by
    have := N3.out
    unfold impl_firstSystem.f
    rw [Int.toNat_natCast]
    exact (if_pos (by omega)).trans ((if_pos (by omega)).trans (if_pos (by omega)))
  have HFS := Aside0.mk hfs
  clear hfs
  go_wp2_with fail
  refine (impl_firstSystem.calls (n : Int) _ _ _ _ HFS.out).mono ?_
  rintro e w3 ⟨v0_, v1_, rfl, hR0, hR1, hb⟩
  obtain ⟨b0, d0, rfl, hd0, mx0, lo0, hi0, RB0, sh0⟩ := RowB.of_R' hR0 (by have := N1.out; simp; omega)
  obtain ⟨b1, d1, rfl, hd1, mx1, lo1, hi1, RB1, sh1⟩ := RowB.of_R' hR1 (by have := N1.out; simp; omega)
  simp only [List.length_replicate] at hd0 hd1
  have hb2 : w.heap.size < w2.heap.size := blk_lt (HS.blk (cs := #[.slice A0 t0.length c0, .slice A1 t1.length c1, .slice A2 t2.length c2, .slice A3 t3.length c3, .slice A4 t4.length c4]) (t := 54) (List.mem_cons_of_mem _ List.mem_cons_self))
  have hb2q : w.heap.size + 1 < w2.heap.size := blk_lt (HS.blk (cs := #[.slice none 0 0, .slice none 0 0, .bool false]) (t := 73) List.mem_cons_self)
  replace HS := HS.step hb
  have HG := Aside0.mk (HS.blk (cs := #[.slice A0 t0.length c0, .slice A1 t1.length c1, .slice A2 t2.length c2, .slice A3 t3.length c3, .slice A4 t4.length c4]) (t := 54) (List.mem_cons_of_mem _ List.mem_cons_self))
  have HQ := Aside0.mk (HS.blk (cs := #[.slice none 0 0, .slice none 0 0, .bool false]) (t := 73) List.mem_cons_self)
  have HB3 := Aside0.mk HS.below
  have ne01 : b0 ≠ b1 := by
    rintro rfl
    obtain ⟨s, h⟩ := RB0
    obtain ⟨s', h'⟩ := RB1
    rw [h] at h'
    simp at h'
  clear hR0 hR1 hb HS
  have X0 := Aside0.mk RB0
  have X1 := Aside0.mk RB1
  clear RB0 RB1
  simp only [List.length_replicate]
  go_wp2_with fail
  have hb3 : w.heap.size + 1 < w2.heap.size := hb2q
  have LO0 : Aside0 (w.heap.size + 1 < b0 ∧ b0 < w3.heap.size) := ⟨by omega⟩
  have LO1 : Aside0 (w.heap.size + 1 < b1 ∧ b1 < w3.heap.size) := ⟨by omega⟩
  clear hb3 hb2q
  have hd_0 : ∀ ad, A0 = some ad → ¬ SysS w3.heap.size b0 b1 ad.block := fun ad e h => by
    obtain ⟨ad', e', q', _⟩ := at_T58 HT0.out 0 (by omega) (by have := L0.out; omega)
    have h1 := World.block_lt_of_cell? _ _ q'
    rw [blk_add] at h1
    rw [e] at e'
    obtain rfl := Option.some.inj e'
    have h2 := HB3.out.size
    have h3 := LO0.out
    have h4 := LO1.out
    rcases h with h | h | h <;> omega
  have hd_1 : ∀ ad, A1 = some ad → ¬ SysS w3.heap.size b0 b1 ad.block := fun ad e h => by
    obtain ⟨ad', e', q', _⟩ := at_T58 HT1.out 0 (by omega) (by have := L1.out; omega)
    have h1 := World.block_lt_of_cell? _ _ q'
    rw [blk_add] at h1
    rw [e] at e'
    obtain rfl := Option.some.inj e'
    have h2 := HB3.out.size
    have h3 := LO0.out
    have h4 := LO1.out
    rcases h with h | h | h <;> omega
  have hd_2 : ∀ ad, A2 = some ad → ¬ SysS w3.heap.size b0 b1 ad.block := fun ad e h => by
    obtain ⟨ad', e', q', _⟩ := at_T58 HT2.out 0 (by omega) (by have := L2.out; omega)
    have h1 := World.block_lt_of_cell? _ _ q'
    rw [blk_add] at h1
    rw [e] at e'
    obtain rfl := Option.some.inj e'
    have h2 := HB3.out.size
    have h3 := LO0.out
    have h4 := LO1.out
    rcases h with h | h | h <;> omega
  have hd_3 : ∀ ad, A3 = some ad → ¬ SysS w3.heap.size b0 b1 ad.block := fun ad e h => by
    obtain ⟨ad', e', q', _⟩ := at_T58 HT3.out 0 (by omega) (by have := L3.out; omega)
    have h1 := World.block_lt_of_cell? _ _ q'
    rw [blk_add] at h1
    rw [e] at e'
    obtain rfl := Option.some.inj e'
    have h2 := HB3.out.size
    have h3 := LO0.out
    have h4 := LO1.out
    rcases h with h | h | h <;> omega
  have hd_4 : ∀ ad, A4 = some ad → ¬ SysS w3.heap.size b0 b1 ad.block := fun ad e h => by
    obtain ⟨ad', e', q', _⟩ := at_T58 HT4.out 0 (by omega) (by have := L4.out; omega)
    have h1 := World.block_lt_of_cell? _ _ q'
    rw [blk_add] at h1
    rw [e] at e'
    obtain rfl := Option.some.inj e'
    have h2 := HB3.out.size
    have h3 := LO0.out
    have h4 := LO1.out
    rcases h with h | h | h <;> omega
  have HD0 := Aside0.mk hd_0
  clear hd_0
  have HD1 := Aside0.mk hd_1
  clear hd_1
  have HD2 := Aside0.mk hd_2
  clear hd_2
  have HD3 := Aside0.mk hd_3
  clear hd_3
  have HD4 := Aside0.mk hd_4
  clear hd_4
  have HD0_ := Aside0.mk hd0
  have HD1_ := Aside0.mk hd1
  have NE := Aside0.mk ne01
  have HDX := Aside0.mk (And.intro mx0 mx1)
  have SH0 := Aside0.mk sh0
  have SH1 := Aside0.mk sh1
  clear mx0 mx1 sh0 sh1
  clear hd0 hd1 lo0 lo1 hi0 hi1 hb2 ne01 HFS HV HO hc0 hc1 hc2 hc3 hc4 hc5
  have hba := below_alloc (Below.refl w3.heap.size w3) (.cells #[.slice (some ⟨b0, 0, none⟩) n d0, .slice (some ⟨b1, 0, none⟩) n d1, .bool true] 73)
  have BA := Aside0.mk hba
  have GA : Aside0 (SysBox w3.heap.size b0 b1 n d0 d1 true (w3.alloc (.cells #[.slice (some ⟨b0, 0, none⟩) n d0, .slice (some ⟨b1, 0, none⟩) n d1, .bool true] 73))) := ⟨heap_alloc_new w3 _⟩
  clear hba
  go_loopg [30] ops.length (fun gg s30 wr => ∃ (kk : Nat) (c : List Int) (f : List Bool) (m : Bool), kk ≤ ops.length ∧ ops.length - kk ≤ gg ∧ s30 = .int .i64 kk ∧ Aside0 (runI t0 t1 t2 t3 t4 (ops.drop kk) (kk : Int) c f m = (C, F, M, Q)) ∧ Aside0 (SysBox w3.heap.size b0 b1 n d0 d1 m wr) ∧ Aside0 (Copies wr b0 c) ∧ Aside0 (Freshs wr b1 f) ∧ Aside0 (c.length = n) ∧ Aside0 (f.length = n) ∧ Aside0 (∀ x ∈ c, 0 ≤ x ∧ x ≤ 3) ∧ Aside0 (shapeOf wr.heap[b0]? = some (d0, 2, (0, 0)) ∧ shapeOf wr.heap[b1]? = some (d1, 4, (0, 0))) ∧ Aside0 (wr.heap[w.heap.size]? = some (.cells #[.slice A0 t0.length c0, .slice A1 t1.length c1, .slice A2 t2.length c2, .slice A3 t3.length c3, .slice A4 t4.length c4] 54 (0, 0))) ∧ Aside0 (wr.heap[w.heap.size + 1]? = some (.cells #[.slice none 0 0, .slice none 0 0, .bool false] 73 (0, 0))) ∧ Aside0 (Below w.heap.size w wr))
  case atStart => exact ⟨0, _, _, _, Nat.zero_le _, by omega, rfl, ⟨by simpa using HR.out⟩, GA, ⟨X0.out.below BA.out⟩, ⟨X1.out.below BA.out⟩, ⟨by simp⟩, ⟨by simp⟩, ⟨fun x hx => by rw [List.eq_of_mem_replicate hx]; omega⟩, ⟨by rw [BA.out.block _ LO0.out.2, BA.out.block _ LO1.out.2]; exact ⟨SH0.out, SH1.out⟩⟩, ⟨blk_below HG.out BA.out⟩, ⟨blk_below HQ.out BA.out⟩, ⟨below_le HB3.out BA.out⟩⟩
  case round =>
    clear HR X0 X1 GA BA SH0 SH1
    have NB : Aside0 (b0 ≠ w.heap.size + 1 ∧ b1 ≠ w.heap.size + 1) := ⟨by have := LO0.out; have := LO1.out; omega⟩
    obtain ⟨kk, c, f, m, hkk, hg, rfl, BI, GW, ZW, FW, HC, HF, HVC, SH, PW, QW, BW⟩ := hrel
    by_cases hlt : kk < ops.length
    · have hltz : (kk : Int) < (ops.length : Int) := by omega
      obtain ⟨ad, e, hx0, hx1⟩ := at_T118 (Kd.C_below HT5.out BW.out) (kk : Int) (by omega) hltz
      subst e
      obtain ⟨o, ho⟩ : ∃ o, o = rd_T118 ops (kk : Int) := ⟨_, rfl⟩
      have hmem : o ∈ ops := by rw [ho]; unfold rd_T118; rw [Int.toNat_natCast, getD_lt ops kk _ hlt]; exact List.getElem_mem _
      obtain ⟨⟨hk0, hk2⟩, hi0, hi1⟩ := HOP.out o hmem
      simp only [Int.toNat_natCast] at hx0 hx1
      rw [← ho] at hx0 hx1
      have HBI := BI.out
      rw [drop_cons ops kk z118 hlt, show ops.getD kk z118 = o from ho.symm] at HBI
      obtain ⟨o0, o1⟩ := o
      obtain ⟨i, rfl⟩ : ∃ i : Nat, o1 = (i : Int) := ⟨o1.toNat, by simp only at hi0; omega⟩
      simp only at hx0 hx1 hk0 hk2 hi0 hi1 HBI
      simp only [runI, Int.toNat_natCast] at HBI
      have HI := Aside0.mk (show i < n by omega)
      have HK := Aside0.mk (And.intro hk0 hk2)
      have BI := Aside0.mk HBI
      clear HBI hmem ho hk0 hk2 hi0 hi1
      have q0 : wr.cell? ⟨w.heap.size, 0, none⟩ = some (.slice A0 t0.length c0) := (blk_cell PW.out 0).trans rfl
      have q1 : wr.cell? ⟨w.heap.size, 1, none⟩ = some (.slice A1 t1.length c1) := (blk_cell PW.out 1).trans rfl
      have q2 : wr.cell? ⟨w.heap.size, 2, none⟩ = some (.slice A2 t2.length c2) := (blk_cell PW.out 2).trans rfl
      have q3 : wr.cell? ⟨w.heap.size, 3, none⟩ = some (.slice A3 t3.length c3) := (blk_cell PW.out 3).trans rfl
      have q4 : wr.cell? ⟨w.heap.size, 4, none⟩ = some (.slice A4 t4.length c4) := (blk_cell PW.out 4).trans rfl
      have hba := below_alloc (Below.refl wr.heap.size wr) (.cells #[.int .i64 o0, .int .i64 (i : Int)] 118)
      replace q0 := pw_cell_below hba q0
      replace q1 := pw_cell_below hba q1
      replace q2 := pw_cell_below hba q2
      replace q3 := pw_cell_below hba q3
      replace q4 := pw_cell_below hba q4
      have SH := Aside0.mk (show shapeOf (wr.alloc (.cells #[.int .i64 o0, .int .i64 (i : Int)] 118)).heap[b0]? = some (d0, 2, (0, 0)) ∧ shapeOf (wr.alloc (.cells #[.int .i64 o0, .int .i64 (i : Int)] 118)).heap[b1]? = some (d1, 4, (0, 0)) by rw [hba.block _ ZW.out.lt, hba.block _ FW.out.lt]; exact SH.out)
      have GW := Aside0.mk (blk_below GW.out hba)
      have ZW := Aside0.mk (ZW.out.below hba)
      have FW := Aside0.mk (FW.out.below hba)
      have PW := Aside0.mk (blk_below PW.out hba)
      have QW := Aside0.mk (blk_below QW.out hba)
      have BW' := Aside0.mk (below_le BW.out hba)
      clear hba BW
      go_wp2_with fail
      clear q0 q1 q2 q3 q4
      refine (implStep w3.heap.size b0 b1 d0 d1 n m c f o0 i A0 A1 A2 A3 A4 c0 c1 c2 c3 c4 t0 t1 t2 t3 t4 _ GW.out ZW.out FW.out HC.out HF.out NE.out (by have := LO0.out; omega) (by have := LO1.out; omega) (by have := N3.out; omega) HI.out HD1_.out HD0_.out (Kd.C_below HT0.out BW'.out) (Kd.C_below HT1.out BW'.out) (Kd.C_below HT2.out BW'.out) (Kd.C_below HT3.out BW'.out) (Kd.C_below HT4.out BW'.out) L0.out L1.out L2.out L3.out L4.out HD0.out HD1.out HD2.out HD3.out HD4.out HVC.out V0.out V1.out V3.out V4.out HK.out.1 HK.out.2).mono ?_
      rintro e w5 ⟨c', f', m', fl, sn, bk, rfl, hs, hg5, h05, h15, hc5, hf5, hv5, hbk0, hbk1, ho5⟩
      have BI := BI.out
      simp only [hs] at BI
      have hbel : Below w.heap.size w w5 := BW'.out.trans (ho5.below BW'.out.size (by have := LO0.out; have := LO1.out; have := HB3.out.size; rintro q (e | e | e) <;> omega))
      have P5 := Aside0.mk (ho5.blk PW.out (by have := LO0.out; have := LO1.out; have := HB3.out.size; rintro (e | e | e) <;> omega))
      have Q5 := Aside0.mk (ho5.blk QW.out (by have := LO0.out; have := LO1.out; have := HB3.out.size; rintro (e | e | e) <;> omega))
      have S5 : Aside0 (shapeOf w5.heap[b0]? = some (d0, 2, (0, 0)) ∧ shapeOf w5.heap[b1]? = some (d1, 4, (0, 0))) := ⟨by rw [ho5.shape _ ZW.out.lt, ho5.shape _ FW.out.lt]; exact SH.out⟩
      have HBL := Aside0.mk hbel
      have G5 := Aside0.mk hg5
      have Z5 := Aside0.mk h05
      have F5 := Aside0.mk h15
      have C5 := Aside0.mk hc5
      have D5 := Aside0.mk hf5
      have V5 := Aside0.mk hv5
      clear hs hg5 h05 h15 hc5 hf5 hv5 hbk0 hbk1 ho5 hbel
      cases fl with
      | true =>
        simp only [if_true, Prod.mk.injEq] at BI
        obtain ⟨rfl, rfl, rfl, rfl⟩ := BI
        have g0 := (blk_cell G5.out 0).trans rfl
        have g1 := (blk_cell G5.out 1).trans rfl
        have g2 := (blk_cell G5.out 2).trans rfl
        have q0 := (blk_cell Q5.out 0).trans rfl
        have q1 := (blk_cell Q5.out 1).trans rfl
        have q2 := (blk_cell Q5.out 2).trans rfl
        have z0 := blk_frozen Q5.out 0
        have z1 := blk_frozen Q5.out 1
        have z2 := blk_frozen Q5.out 2
        have nx := Aside0.mk (show w3.heap.size ≠ w.heap.size + 1 by have := LO0.out; omega)
        go_wp2_with fail
        refine bodyPost_ret (results_ctt rfl _ _ (w.heap.size + 1) 73 _ (0, 0) _ rfl (set_same (set_same (set_same Q5.out _) _) _) Try.underlying73 rfl (by kernel_rfl)) rfl ?_
        refine ⟨b0, b1, d0, d1, rfl, ((Z5.out.other _ NB.out.1).other _ NB.out.1).other _ NB.out.1, ((F5.out.other _ NB.out.2).other _ NB.out.2).other _ NB.out.2, C5.out, D5.out, HD0_.out, HD1_.out, HDX.out.1, HDX.out.2, NE.out, by have := LO0.out; omega, by have := LO1.out; omega, ?_, ?_, ((HBL.out.setCell (Nat.le_succ _) _).setCell (Nat.le_succ _) _).setCell (Nat.le_succ _) _⟩
        · rw [shape_setCell, shape_setCell, shape_setCell]; exact S5.out.1
        · rw [shape_setCell, shape_setCell, shape_setCell]; exact S5.out.2
      | false =>
        simp only [if_neg (show ¬ (false = true) by decide)] at BI
        have BI := Aside0.mk BI
        go_wp2_with fail
        go_roundg (ops.length - (kk + 1))
        case measure => omega
        case rel => exact ⟨kk + 1, c', f', m', by omega, by omega, by rw [wrap_succ hlt (by have := HL.out; omega)], ⟨by simpa using BI.out⟩, G5, Z5, F5, C5, D5, V5, S5, P5, Q5, HBL⟩
    · have hltz : ¬ (kk : Int) < (ops.length : Int) := by omega
      obtain rfl : kk = ops.length := by omega
      have BI := BI.out
      rw [List.drop_length] at BI
      simp only [runI, Prod.mk.injEq] at BI
      obtain ⟨rfl, rfl, rfl, rfl⟩ := BI
      have g0 := (blk_cell GW.out 0).trans rfl
      have g1 := (blk_cell GW.out 1).trans rfl
      have g2 := (blk_cell GW.out 2).trans rfl
      have q0 := (blk_cell QW.out 0).trans rfl
      have q1 := (blk_cell QW.out 1).trans rfl
      have q2 := (blk_cell QW.out 2).trans rfl
      have z0 := blk_frozen QW.out 0
      have z1 := blk_frozen QW.out 1
      have z2 := blk_frozen QW.out 2
      go_wp2_with fail
      refine bodyPost_ret (results_ctt rfl _ _ (w.heap.size + 1) 73 _ (0, 0) _ rfl (set_same (set_same (set_same QW.out _) _) _) Try.underlying73 rfl (by kernel_rfl)) rfl ?_
      refine ⟨b0, b1, d0, d1, rfl, ((ZW.out.other _ NB.out.1).other _ NB.out.1).other _ NB.out.1, ((FW.out.other _ NB.out.2).other _ NB.out.2).other _ NB.out.2, HC.out, HF.out, HD0_.out, HD1_.out, HDX.out.1, HDX.out.2, NE.out, by have := LO0.out; omega, by have := LO1.out; omega, ?_, ?_, ((BW.out.setCell (Nat.le_succ _) _).setCell (Nat.le_succ _) _).setCell (Nat.le_succ _) _⟩
      · rw [shape_setCell, shape_setCell, shape_setCell]; exact SH.out.1
      · rw [shape_setCell, shape_setCell, shape_setCell]; exact SH.out.2
def capsB (n : Int) : Bool := decide (1 ≤ n) && decide (n ≤ 3)
theorem isCaches_f (t0 t1 t2 t3 t4 : List S58) (n : Int) : impl_isCaches.f t0 t1 t2 t3 t4 n = some (vprot t0 t1 t2 t3 t4 && capsB n) := by
  unfold impl_isCaches.f impl_ValidProtocol.f capsB
  rw [Option.bind_some]
  cases vprot t0 t1 t2 t3 t4 with
  | false => rfl
  | true =>
    rw [if_pos rfl]
    unfold impl_inRange.f
    by_cases h0 : 1 ≤ n <;> simp [h0]
def opsB (ops : List S118) (n : Int) : Bool := decide (ops.length ≤ 40) && ops.all (xOpOk n)
theorem areOps_f (ops : List S118) (n : Int) (h : capsB n = true) : impl_areOps.f ops n = some (opsB ops n) := by
  unfold capsB at h
  rw [Bool.and_eq_true, decide_eq_true_eq, decide_eq_true_eq] at h
  exact if_pos ⟨by omega, by omega⟩
theorem ops_facts {ops : List S118} {n : Nat} (h : opsB ops (n : Int) = true) : ops.length ≤ 40 ∧ ∀ o ∈ ops, (0 ≤ o.f0 ∧ o.f0 ≤ 2) ∧ 0 ≤ o.f1 ∧ o.f1 < n := by
  unfold opsB at h
  rw [Bool.and_eq_true, decide_eq_true_eq, List.all_eq_true] at h
  refine ⟨h.1, fun o ho => ?_⟩
  have := h.2 o ho
  unfold xOpOk at this
  simp only [Bool.and_eq_true, decide_eq_true_eq] at this
  omega
def fitB (t0 t1 t2 t3 t4 : List S58) (n : Int) (ops : List S118) : Bool := (vprot t0 t1 t2 t3 t4 && capsB n) && opsB ops n
set_option maxHeartbeats 1600000 in
set_option maxRecDepth 100000 in
theorem xRunBad (A0 A1 A2 A3 A4 A5 : Option Addr) (c0 c1 c2 c3 c4 c5 : Nat) (t0 t1 t2 t3 t4 : List S58) (n : Int) (ops : List S118) (w : World)
    (hr0 : Kd.C k58 w A0 t0.length t0) (hc0 : t0.length ≤ c0) (hr1 : Kd.C k58 w A1 t1.length t1) (hc1 : t1.length ≤ c1) (hr2 : Kd.C k58 w A2 t2.length t2) (hc2 : t2.length ≤ c2) (hr3 : Kd.C k58 w A3 t3.length t3) (hc3 : t3.length ≤ c3) (hr4 : Kd.C k58 w A4 t4.length t4) (hc4 : t4.length ≤ c4) (hr5 : Kd.C k118 w A5 ops.length ops) (hc5 : ops.length ≤ c5)
    (hf : fitB t0 t1 t2 t3 t4 n ops = false) :
    Calls Try.prog 42 #[.agg #[.slice A0 t0.length c0, .slice A1 t1.length c1, .slice A2 t2.length c2, .slice A3 t3.length c3, .slice A4 t4.length c4], .int .i64 n, .slice A5 ops.length c5] w fun e w' => e = .returned (.tuple #[.agg #[.slice none 0 0, .slice none 0 0, .bool false], .int .i64 0, .bool false]) ∧ Below w.heap.size w w' := by
  have HT0 := Aside0.mk hr0
  have HT1 := Aside0.mk hr1
  have HT2 := Aside0.mk hr2
  have HT3 := Aside0.mk hr3
  have HT4 := Aside0.mk hr4
  have HT5 := Aside0.mk hr5
  have HS := St.box (St.box (St.start w) #[.slice A0 t0.length c0, .slice A1 t1.length c1, .slice A2 t2.length c2, .slice A3 t3.length c3, .slice A4 t4.length c4] 54) #[.slice none 0 0, .slice none 0 0, .bool false] 73
  simp only [World.size_alloc] at HS
  clear hr0 hr1 hr2 hr3 hr4 hr5
  unfold fitB at hf
  have hv := isCaches_f t0 t1 t2 t3 t4 n
  cases hb : (vprot t0 t1 t2 t3 t4 && capsB n) with
  | false =>
    rw [hb] at hv
    have HV := Aside0.mk hv
    clear hv hf hb
    go_enter Try.func42, Try.ntmps42
    go_wp2_with fail
    refine (impl_isCaches.calls A0 c0 t0 A1 c1 t1 A2 c2 t2 A3 c3 t3 A4 c4 t4 n false _ (Kd.C_below HT0.out HS.below) hc0 (Kd.C_below HT1.out HS.below) hc1 (Kd.C_below HT2.out HS.below) hc2 (Kd.C_below HT3.out HS.below) hc3 (Kd.C_below HT4.out HS.below) hc4 HV.out).mono ?_
    rintro e w1 ⟨rfl, hb⟩
    replace HS := HS.step hb
    have HQ := HS.blk (cs := #[.slice none 0 0, .slice none 0 0, .bool false]) (t := 73) List.mem_cons_self
    have y0 := (blk_cell HQ 0).trans rfl
    have y1 := (blk_cell HQ 1).trans rfl
    have y2 := (blk_cell HQ 2).trans rfl
    have z0 := blk_frozen HQ 0
    have z1 := blk_frozen HQ 1
    have z2 := blk_frozen HQ 2
    go_wp2_with fail
    refine bodyPost_ret (results_ctt rfl _ _ (w.heap.size + 1) 73 _ (0, 0) _ rfl (set_same (set_same (set_same HQ _) _) _) Try.underlying73 rfl (by kernel_rfl)) rfl ?_
    exact ⟨rfl, ((HS.below.setCell (Nat.le_succ _) _).setCell (Nat.le_succ _) _).setCell (Nat.le_succ _) _⟩
  | true =>
    rw [hb, Bool.true_and] at hf
    have ho := areOps_f ops n (by rw [Bool.and_eq_true] at hb; exact hb.2)
    rw [hf] at ho
    rw [hb] at hv
    have HV := Aside0.mk hv
    have HO := Aside0.mk ho
    clear hv hf hb ho
    go_enter Try.func42, Try.ntmps42
    go_wp2_with fail
    refine (impl_isCaches.calls A0 c0 t0 A1 c1 t1 A2 c2 t2 A3 c3 t3 A4 c4 t4 n true _ (Kd.C_below HT0.out HS.below) hc0 (Kd.C_below HT1.out HS.below) hc1 (Kd.C_below HT2.out HS.below) hc2 (Kd.C_below HT3.out HS.below) hc3 (Kd.C_below HT4.out HS.below) hc4 HV.out).mono ?_
    rintro e w1 ⟨rfl, hb⟩
    replace HS := HS.step hb
    clear hb
    go_wp2_with fail
    refine (impl_areOps.calls A5 c5 ops n false _ (Kd.C_below HT5.out HS.below) hc5 HO.out).mono ?_
    rintro e w2 ⟨rfl, hb⟩
    replace HS := HS.step hb
    have HQ := HS.blk (cs := #[.slice none 0 0, .slice none 0 0, .bool false]) (t := 73) List.mem_cons_self
    have y0 := (blk_cell HQ 0).trans rfl
    have y1 := (blk_cell HQ 1).trans rfl
    have y2 := (blk_cell HQ 2).trans rfl
    have z0 := blk_frozen HQ 0
    have z1 := blk_frozen HQ 1
    have z2 := blk_frozen HQ 2
    go_wp2_with fail
    refine bodyPost_ret (results_ctt rfl _ _ (w.heap.size + 1) 73 _ (0, 0) _ rfl (set_same (set_same (set_same HQ _) _) _) Try.underlying73 rfl (by kernel_rfl)) rfl ?_
    exact ⟨rfl, ((HS.below.setCell (Nat.le_succ _) _).setCell (Nat.le_succ _) _).setCell (Nat.le_succ _) _⟩
def runR (t0 t1 t2 t3 t4 : List S58) (n : Int) (ops : List S118) : List Int × List Bool × Bool × Int × Bool := if fitB t0 t1 t2 t3 t4 n ops = true then
    ((runI t0 t1 t2 t3 t4 ops 0 (List.replicate n.toNat 0) (List.replicate n.toNat false) true).1, (runI t0 t1 t2 t3 t4 ops 0 (List.replicate n.toNat 0) (List.replicate n.toNat false) true).2.1, (runI t0 t1 t2 t3 t4 ops 0 (List.replicate n.toNat 0) (List.replicate n.toNat false) true).2.2.1, (runI t0 t1 t2 t3 t4 ops 0 (List.replicate n.toNat 0) (List.replicate n.toNat false) true).2.2.2, true)
  else ([], [], false, 0, false)
theorem xRunAll (A0 A1 A2 A3 A4 A5 : Option Addr) (c0 c1 c2 c3 c4 c5 : Nat) (t0 t1 t2 t3 t4 : List S58) (n : Int) (ops : List S118) (w : World)
    (hr0 : Kd.C k58 w A0 t0.length t0) (hc0 : t0.length ≤ c0) (hr1 : Kd.C k58 w A1 t1.length t1) (hc1 : t1.length ≤ c1) (hr2 : Kd.C k58 w A2 t2.length t2) (hc2 : t2.length ≤ c2) (hr3 : Kd.C k58 w A3 t3.length t3) (hc3 : t3.length ≤ c3) (hr4 : Kd.C k58 w A4 t4.length t4) (hc4 : t4.length ≤ c4) (hr5 : Kd.C k118 w A5 ops.length ops) (hc5 : ops.length ≤ c5)
    (c : List Int) (f : List Bool) (m : Bool) (q : Int) (ok : Bool) (hR : runR t0 t1 t2 t3 t4 n ops = (c, f, m, q, ok)) :
    Calls Try.prog 42 #[.agg #[.slice A0 t0.length c0, .slice A1 t1.length c1, .slice A2 t2.length c2, .slice A3 t3.length c3, .slice A4 t4.length c4], .int .i64 n, .slice A5 ops.length c5] w fun e w' => ∃ v0 v1, e = .returned (.tuple #[.agg #[v0, v1, .bool m], .int .i64 q, .bool ok]) ∧ Kd.R (Kd.int .i64) 2 w' w.heap.size (fun k_ => some k_ ≠ (v1 : Value).ownBlock) v0 c ∧ Kd.R Kd.bool 4 w' w.heap.size (fun k_ => some k_ ≠ (v0 : Value).ownBlock) v1 f ∧ c.length ≤ 3 ∧ f.length ≤ 3 ∧ Below w.heap.size w w' := by
  unfold runR at hR
  by_cases hf : fitB t0 t1 t2 t3 t4 n ops = true
  · rw [if_pos hf] at hR
    unfold fitB at hf
    rw [Bool.and_eq_true] at hf
    have hca := isCaches_f t0 t1 t2 t3 t4 n
    rw [hf.1] at hca
    have hf1 := hf.1
    rw [Bool.and_eq_true] at hf1
    have hcap := hf1.2
    have hao := areOps_f ops n hcap
    rw [hf.2] at hao
    have hob := hf.2
    unfold capsB at hcap
    rw [Bool.and_eq_true, decide_eq_true_eq, decide_eq_true_eq] at hcap
    obtain ⟨n, rfl⟩ : ∃ k : Nat, n = (k : Int) := ⟨n.toNat, by omega⟩
    obtain ⟨hl, hop⟩ := ops_facts hob
    obtain ⟨⟨e0, e1, e2, e3, e4⟩, v0, v1, v3, v4, _⟩ := vprot_facts hf1.1
    rw [Int.toNat_natCast] at hR
    simp only [Prod.mk.injEq] at hR
    obtain ⟨h1, h2, h3, h4, rfl⟩ := hR
    refine (xRun A0 A1 A2 A3 A4 A5 c0 c1 c2 c3 c4 c5 t0 t1 t2 t3 t4 n ops w hr0 hc0 hr1 hc1 hr2 hc2 hr3 hc3 hr4 hc4 hr5 hc5 hca hao (by omega) (by omega) hl hop e0 e1 e2 e3 e4 v0 v1 v3 v4 c f m q (by rw [← h1, ← h2, ← h3, ← h4])).mono ?_
    rintro e w' ⟨b0, b1, d0, d1, rfl, hZ, hF, hc, hf', hd0, hd1, mx0, mx1, hne, lo0, lo1, s0, s1, hb⟩
    refine ⟨_, _, rfl, ?_, ?_, by omega, by omega, hb⟩
    · rw [← hc]; exact RowB.toR hZ s0 (by omega) mx0 lo0 (by simp [Value.ownBlock]; exact hne)
    · rw [← hf']; exact RowB.toR hF s1 (by omega) mx1 lo1 (by simp [Value.ownBlock]; exact fun e => hne e.symm)
  · rw [if_neg hf] at hR
    simp only [Prod.mk.injEq] at hR
    obtain ⟨rfl, rfl, rfl, rfl, rfl⟩ := hR
    refine (xRunBad A0 A1 A2 A3 A4 A5 c0 c1 c2 c3 c4 c5 t0 t1 t2 t3 t4 n ops w hr0 hc0 hr1 hc1 hr2 hc2 hr3 hc3 hr4 hc4 hr5 hc5 (Bool.eq_false_iff.2 hf)).mono ?_
    rintro e w' ⟨rfl, hb⟩
    exact ⟨_, _, rfl, Kd.R_nil _ _ _ _ _, Kd.R_nil _ _ _ _ _, by simp, by simp, hb⟩
def impl_RunSystem.f (t0 t1 t2 t3 t4 : List S58) (n : Int) (ops : List S118) : Option (List Int × List Bool × Bool × Int × Bool) := some (runR t0 t1 t2 t3 t4 n ops)
theorem impl_RunSystem.calls (A0_0 : Option Addr) (c0_0 : Nat) (l0_0 : List S58) (A0_1 : Option Addr) (c0_1 : Nat) (l0_1 : List S58) (A0_2 : Option Addr) (c0_2 : Nat) (l0_2 : List S58) (A0_3 : Option Addr) (c0_3 : Nat) (l0_3 : List S58) (A0_4 : Option Addr) (c0_4 : Nat) (l0_4 : List S58) (a1 : Int) (A2 : Option Addr) (c2 : Nat) (l2 : List S118) (r1 : List Int) (r2 : List Bool) (r3 : Bool) (r4 : Int) (r5 : Bool) (w : World) (hr0_0 : Kd.C k58 w A0_0 l0_0.length l0_0) (hc0_0 : l0_0.length ≤ c0_0) (hr0_1 : Kd.C k58 w A0_1 l0_1.length l0_1) (hc0_1 : l0_1.length ≤ c0_1) (hr0_2 : Kd.C k58 w A0_2 l0_2.length l0_2) (hc0_2 : l0_2.length ≤ c0_2) (hr0_3 : Kd.C k58 w A0_3 l0_3.length l0_3) (hc0_3 : l0_3.length ≤ c0_3) (hr0_4 : Kd.C k58 w A0_4 l0_4.length l0_4) (hc0_4 : l0_4.length ≤ c0_4) (hr2 : Kd.C k118 w A2 l2.length l2) (hc2 : l2.length ≤ c2) (h : impl_RunSystem.f l0_0 l0_1 l0_2 l0_3 l0_4 a1 l2 = some (r1, r2, r3, r4, r5)) :
    Calls Try.prog 42 #[.agg #[.slice A0_0 l0_0.length c0_0, .slice A0_1 l0_1.length c0_1, .slice A0_2 l0_2.length c0_2, .slice A0_3 l0_3.length c0_3, .slice A0_4 l0_4.length c0_4], .int .i64 a1, .slice A2 l2.length c2] w fun e w' => ∃ v0_ v1_ : Value, e = .returned (.tuple #[.agg #[v0_, v1_, .bool r3], .int .i64 r4, .bool r5]) ∧ Kd.R (Kd.int .i64) 2 w' w.heap.size (fun k_ => some k_ ≠ (v1_ : Value).ownBlock) v0_ r1 ∧ Kd.R Kd.bool 4 w' w.heap.size (fun k_ => some k_ ≠ (v0_ : Value).ownBlock) v1_ r2 ∧ Below w.heap.size w w' := by
  unfold impl_RunSystem.f at h
  refine (xRunAll A0_0 A0_1 A0_2 A0_3 A0_4 A2 c0_0 c0_1 c0_2 c0_3 c0_4 c2 l0_0 l0_1 l0_2 l0_3 l0_4 a1 l2 w hr0_0 hc0_0 hr0_1 hc0_1 hr0_2 hc0_2 hr0_3 hc0_3 hr0_4 hc0_4 hr2 hc2 r1 r2 r3 r4 r5 (Option.some.inj h)).mono ?_
  rintro e w' ⟨v0, v1, rfl, h1, h2, _, _, hb⟩
  exact ⟨v0, v1, rfl, h1, h2, hb⟩


end Go.Proofs.Ytlaafbaheoeclaa.PFnExactRunSystem
