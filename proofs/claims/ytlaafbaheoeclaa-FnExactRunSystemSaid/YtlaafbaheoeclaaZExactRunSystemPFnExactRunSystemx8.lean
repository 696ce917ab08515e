-- Printed by this session's own program (wip/tools/xprint.py) over the kit's print; not trusted: Lean checks it.
import Derived.Test.YtlaafbaheoeclaaZExactRunSystemPFnExactRunSystemx0
import Derived.Test.YtlaafbaheoeclaaZExactRunSystemPFnExactRunSystemx3
import Derived.Test.YtlaafbaheoeclaaZExactRunSystemPFnExactRunSystemx4
import Derived.Test.YtlaafbaheoeclaaZExactRunSystemPFnExactRunSystemx6
import Derived.Test.YtlaafbaheoeclaaZExactRunSystemPFnExactRunSystemx7
namespace Go.Proofs.Ytlaafbaheoeclaa.PFnExactRunSystem
open Go.RowKit Go.Proofs.YtlaafbaheoeclaaW.PrintWords Go.Proofs.YtlaafbaheoeclaaW.PrintLast Go.Proofs.YtlaafbaheoeclaaW.PrintMore
attribute [local go_sem] max2_int min2_int max_two min_two max_three min_three max_four min_four   -- for this text's walks alone
set_option linter.unusedVariables false
set_option linter.unusedSimpArgs false

/-! ### spec_RunSystem: function 41 -/
/-- A block that holds a list and has as many cells as its slice's capacity says. -/
def RowD {α : Type} (enc : α → Value) (d : Nat) (W : World) (b : Nat) (l : List α) (t : TypeId) : Prop := RowB enc W b l t ∧ shapeOf W.heap[b]? = some (d, t, (0, 0)) ∧ d ≤ maxLen
section
variable {α : Type} {enc : α → Value} {d : Nat} {W W' : World} {b : Nat} {l : List α} {t : TypeId}
theorem RowD.lt (h : RowD enc d W b l t) : b < W.heap.size := h.1.lt
theorem RowD.cell (h : RowD enc d W b l t) {i : Nat} (hi : i < l.length) (z : α) : W.cell? ⟨b, i, none⟩ = some (enc (l.getD i z)) := h.1.cell hi z
theorem RowD.thaw (h : RowD enc d W b l t) (i : Nat) : W.frozen? ⟨b, i, none⟩ = false := h.1.thaw i
theorem RowD.put (h : RowD enc d W b l t) {i : Nat} (hi : i < l.length) (x : α) (v : Value) (hv : v = enc x) : RowD enc d (W.setCell ⟨b, i, none⟩ v) b (l.set i x) t := ⟨h.1.put hi x v hv, by rw [shape_setCell]; exact h.2.1, h.2.2⟩
theorem RowD.other (h : RowD enc d W b l t) {k i : Nat} (v : Value) (hne : b ≠ k) : RowD enc d (W.setCell ⟨k, i, none⟩ v) b l t := ⟨h.1.other v hne, by rw [shape_setCell]; exact h.2.1, h.2.2⟩
theorem RowD.below (h : RowD enc d W b l t) (k : Below W.heap.size W W') : RowD enc d W' b l t := ⟨h.1.below k, by rw [k.block b h.1.lt]; exact h.2.1, h.2.2⟩
theorem RowD.only (h : RowB enc W' b l t) {l0 : List α} (h0 : RowD enc d W b l0 t) {S : Nat → Prop} (k : Only W W' S) : RowD enc d W' b l t := ⟨h, by rw [k.shape b h0.1.lt]; exact h0.2.1, h0.2.2⟩
theorem RowD.toC {h1 : ∀ x, (enc x).oneCell' = true} (h : RowD enc d W b l t) (hl : l.length ≤ 9223372036854775807) : (Kd.scalar enc h1).C W (some ⟨b, 0, none⟩) l.length l := h.1.toC hl
theorem RowD.of_R {h1 : ∀ x, (enc x).oneCell' = true} {base : Nat} {ok : Nat → Prop} {v : Value} (h : (Kd.scalar enc h1).R t W base ok v l) (hp : 0 < l.length) : ∃ b d, v = .slice (some ⟨b, 0, none⟩) l.length d ∧ l.length ≤ d ∧ base ≤ b ∧ b < W.heap.size ∧ RowD enc d W b l t := by
  obtain ⟨b, d, e, h2, h3, h4, h5, h6, h7⟩ := RowB.of_R' h hp
  exact ⟨b, d, e, h2, h4, h5, h6, h7, h3⟩
theorem RowD.of_owns (h1 : ∀ x, (enc x).oneCell' = true) {n base : Nat} {v : Value} (h : W.ownsRow base t 1 v n (l.map enc)) (hp : 0 < n) (hn : n = l.length) : ∃ b d, v = .slice (some ⟨b, 0, none⟩) n d ∧ n ≤ d ∧ base ≤ b ∧ b < W.heap.size ∧ RowD enc d W b l t := by
  subst hn
  exact RowD.of_R (h1 := h1) (Kd.R_of_own (by simpa [encs] using h) (fun _ _ => trivial) : (Kd.scalar enc h1).R t W base (fun _ => True) v l) hp
end
abbrev CopiesD (d : Nat) (W : World) (b : Nat) (c : List Int) : Prop := RowD (Value.int .i64) d W b c 2
abbrev FreshsD (d : Nat) (W : World) (b : Nat) (f : List Bool) : Prop := RowD Value.bool d W b f 4
set_option maxHeartbeats 3200000 in
set_option maxRecDepth 100000 in
theorem specSee (g b0 b1 c0 c1 n : Nat) (m : Bool) (c : List Int) (f : List Bool) (cache : Int) (A : Option Addr) (ct : Nat) (tab : List S58) (w : World) (hg : SysBox g b0 b1 n c0 c1 m w)
    (h0 : Copies w b0 c) (h1 : Freshs w b1 f) (hc : c.length = n) (hf : f.length = n) (hne : b0 ≠ b1) (hn0 : g ≠ b0) (hn1 : g ≠ b1) (hm : n ≤ 1048576)
    (ht : Kd.C k58 w A tab.length tab) (ht4 : tab.length = 4) (hd : ∀ ad, A = some ad → ad.block ≠ b0 ∧ ad.block ≠ b1 ∧ ad.block ≠ g) (hv : ∀ x ∈ c, 0 ≤ x ∧ x ≤ 3) (htv : ∀ r ∈ tab, 0 ≤ r.f0 ∧ r.f0 ≤ 3) :
    Calls Try.prog 101 #[.slice A tab.length ct, .pointer (some ⟨g, 0, none⟩), .int .i64 cache] w fun e w' => ∃ c' f' m' bk, e = .returned (.int .i64 bk) ∧ seeAll tab cache c f m = (c', f', m', bk) ∧ SysBox g b0 b1 n c0 c1 m' w' ∧ Copies w' b0 c' ∧ Freshs w' b1 f' ∧ c'.length = n ∧ f'.length = n ∧ (∀ x ∈ c', 0 ≤ x ∧ x ≤ 3) ∧ 0 ≤ bk ∧ bk ≤ n ∧ Only w w' (fun k => k = b0 ∨ k = b1 ∨ k = g) := by
  have HG := Aside0.mk hg
  have H0 := Aside0.mk h0
  have H1 := Aside0.mk h1
  have HC := Aside0.mk hc
  have HF := Aside0.mk hf
  have HT := Aside0.mk ht
  have HT4 := Aside0.mk ht4
  have HD := Aside0.mk hd
  have HV := Aside0.mk hv
  have HTV := Aside0.mk htv
  obtain ⟨ad0, hA⟩ : ∃ ad, A = some ad := by obtain ⟨ad, e, _⟩ := at_T58 ht 0 (by omega) (by omega); exact ⟨ad, e⟩
  have hab := hd ad0 hA
  obtain ⟨hab0, hab1, habg⟩ := hab
  subst hA
  have hlt4 : (tab.length : Int) = 4 := by omega
  clear hg h0 h1 hc hf ht ht4 hd hv htv
  go_enter Try.func101, Try.ntmps101
  go_wp2
  go_loopg [7, 8] n (fun gg s7 s8 wr => ∃ (kk : Nat) (cc : List Int) (ff : List Bool) (mm : Bool) (bb : Int), kk ≤ n ∧ n - kk ≤ gg ∧ s8 = .int .i64 kk ∧ s7 = .int .i64 bb ∧ 0 ≤ bb ∧ bb ≤ kk ∧ Aside0 (SysBox g b0 b1 n c0 c1 mm wr) ∧ Aside0 (Copies wr b0 cc) ∧ Aside0 (Freshs wr b1 ff) ∧ Aside0 (cc.length = n) ∧ Aside0 (ff.length = n) ∧ Aside0 (∀ x ∈ cc, 0 ≤ x ∧ x ≤ 3) ∧ Aside0 (seeAll tab cache c f m = seeFrom tab cache (n - kk) kk cc ff mm bb) ∧ Aside0 (Only w wr (fun k => k = b0 ∨ k = b1 ∨ k = g)))
  case atStart => exact ⟨0, c, f, m, 0, by omega, by omega, rfl, rfl, by omega, by omega, HG, H0, H1, HC, HF, HV, ⟨by unfold seeAll; rw [HC.out]; rfl⟩, ⟨Only.refl _ _⟩⟩
  case round =>
    obtain ⟨kk, cc, ff, mm, bb, hkk, hgg, rfl, rfl, hb0, hbk, RG, R0, R1, RC, RF, RV, RS, RO⟩ := hrel
    obtain ⟨wo, rfl⟩ : ∃ wo : World, wo = wr := ⟨_, rfl⟩
    by_cases hlt : kk < n
    · have hltz : (kk : Int) < (n : Int) := by omega
      have RS1 : Aside0 (n - kk = (n - (kk + 1)) + 1) := ⟨by omega⟩
      have q0 : wo.cell? ⟨g, 0, none⟩ = some (.slice (some ⟨b0, 0, none⟩) n c0) := blk_cell RG.out 0
      have q1 : wo.cell? ⟨g, 1, none⟩ = some (.slice (some ⟨b1, 0, none⟩) n c1) := blk_cell RG.out 1
      have q2 : wo.cell? ⟨g, 2, none⟩ = some (.bool mm) := blk_cell RG.out 2
      have qz : wo.frozen? ⟨g, 2, none⟩ = false := blk_frozen RG.out 2
      have x0 := R0.out.cell (show kk < cc.length by have := RC.out; omega) 0
      have x1 := R1.out.cell (show kk < ff.length by have := RF.out; omega) false
      obtain ⟨x, hx⟩ : ∃ x, x = cc.getD kk 0 := ⟨_, rfl⟩
      obtain ⟨y, hy⟩ : ∃ y, y = ff.getD kk false := ⟨_, rfl⟩
      have hxv : 0 ≤ x ∧ x ≤ 3 := by
        rw [hx, getD_lt cc kk 0 (by have := RC.out; omega)]
        exact RV.out _ (List.getElem_mem _)
      obtain ⟨hxv0, hxv3⟩ := hxv
      rw [← hx] at x0
      rw [← hy] at x1
      have HX := Aside0.mk hx
      have HY := Aside0.mk hy
      clear hx hy
      obtain ⟨t0, t1, t2, t3, t4⟩ := at_T58 HT.out x hxv0 (by omega)
      cases t1
      have hx4 : x < 4 := by omega
      have hx5 : x < (tab.length : Int) := by omega
      have hx6 := eq_true hxv0
      have y0 := RO.out.cell t2 (by intro e; rcases e with e | e | e <;> first | exact hab0 ((blk_add _ _).symm.trans e) | exact hab1 ((blk_add _ _).symm.trans e) | exact habg ((blk_add _ _).symm.trans e))
      have y1 := RO.out.cell t3 (by intro e; rcases e with e | e | e <;> first | exact hab0 ((blk_add _ _).symm.trans e) | exact hab1 ((blk_add _ _).symm.trans e) | exact habg ((blk_add _ _).symm.trans e))
      have y2 := RO.out.cell t4 (by intro e; rcases e with e | e | e <;> first | exact hab0 ((blk_add _ _).symm.trans e) | exact hab1 ((blk_add _ _).symm.trans e) | exact habg ((blk_add _ _).symm.trans e))
      have T2 := Aside0.mk t2
      have T3 := Aside0.mk t3
      have T4 := Aside0.mk t4
      clear t2 t3 t4
      have hrv : Aside0 (0 ≤ (rd_T58 tab x).f0 ∧ (rd_T58 tab x).f0 ≤ 3) := ⟨HTV.out _ (by
        unfold rd_T58
        rw [getD_lt tab x.toNat _ (by have := HT4.out; omega)]
        exact List.getElem_mem _)⟩
      obtain ⟨r, hr⟩ : ∃ r, r = rd_T58 tab x := ⟨_, rfl⟩
      rw [← hr] at y0 y1 y2 hrv T2 T3 T4
      have HR : Aside0 (tab.getD (cc.getD kk 0).toNat z58 = r) := ⟨by rw [hr, ← HX.out]; rfl⟩
      clear hr
      obtain ⟨f0, f1, f2⟩ := r
      simp only at y0 y1 y2 T2 T3 T4
      obtain ⟨ec, hec⟩ : ∃ b, ((kk : Int) == cache) = b := ⟨_, rfl⟩
      obtain ⟨ex, hex⟩ : ∃ b, (x == 0) = b := ⟨_, rfl⟩
      have RT : Aside0 (seeFrom tab cache (n - kk) kk cc ff mm bb = if ec = true then seeFrom tab cache (n - (kk + 1)) (kk + 1) cc ff mm bb else if ex = true then seeFrom tab cache (n - (kk + 1)) (kk + 1) cc ff mm bb else seeFrom tab cache (n - (kk + 1)) (kk + 1) (cc.set kk f0) (ff.set kk (y && !decide (f0 = 0))) (if f2 = true then y else mm) (if f2 = true then bb + 1 else bb)) := ⟨by
        rw [RS1.out]
        simp only [seeFrom]
        rw [HR.out, hec, ← HX.out, hex, ← HY.out]⟩
      obtain ⟨e0, he0⟩ : ∃ b, (f0 == 0) = b := ⟨_, rfl⟩
      have hn0' : (f0 != 0) = !e0 := by rw [← he0]; rfl
      have HE0 : Aside0 (decide (f0 = 0) = e0) := ⟨by rw [← he0]; rfl⟩
      clear he0
      have hcase : ec = true ∨ (ec = false ∧ ex = true) ∨ (ec = false ∧ ex = false ∧ f2 = true) ∨ (ec = false ∧ ex = false ∧ f2 = false) := by cases ec <;> cases ex <;> cases f2 <;> simp
      rcases hcase with rfl | ⟨rfl, rfl⟩ | ⟨rfl, rfl, rfl⟩ | ⟨rfl, rfl, rfl⟩
      · go_wp2
        go_roundg (n - (kk + 1))
        case measure => omega
        case rel => exact ⟨kk + 1, cc, ff, mm, bb, by omega, by omega, by go_num, rfl, by omega, by omega, RG, R0, R1, RC, RF, RV, ⟨RS.out.trans RT.out⟩, RO⟩
      · go_wp2
        go_roundg (n - (kk + 1))
        case measure => omega
        case rel => exact ⟨kk + 1, cc, ff, mm, bb, by omega, by omega, by go_num, rfl, by omega, by omega, RG, R0, R1, RC, RF, RV, ⟨RS.out.trans RT.out⟩, RO⟩
      · go_wp2_with ((with_reducible refine gate_store (t := 4) (p := 47) rfl ?_); refine store_event (t := 4) (p := 47) (v := .tmp 45) (w1 := wo.setCell ⟨g, 2, none⟩ (.bool y)) ?hg ?ho ?hn ?hr ?_; (case ho => rfl); (case hg => rfl); (case hn => rfl); (case hr => first | (go_simp; done) | (go_simp; rfl)); intro w2 hw; have RG2 : Aside0 (SysBox g b0 b1 n c0 c1 y w2) := ⟨by rw [hw]; exact set_same RG.out _⟩; have R02 : Aside0 (Copies w2 b0 cc) := ⟨by rw [hw]; exact R0.out.other _ hn0.symm⟩; have R12 : Aside0 (Freshs w2 b1 ff) := ⟨by rw [hw]; exact R1.out.other _ hn1.symm⟩; have RO2 : Aside0 (Only w w2 (fun k => k = b0 ∨ k = b1 ∨ k = g)) := ⟨by rw [hw]; exact RO.out.setCell _ _ (.inr (.inr rfl))⟩; have q0 : w2.cell? ⟨g, 0, none⟩ = some (.slice (some ⟨b0, 0, none⟩) n c0) := blk_cell RG2.out 0; have q1 : w2.cell? ⟨g, 1, none⟩ = some (.slice (some ⟨b1, 0, none⟩) n c1) := blk_cell RG2.out 1; have y0 := RO2.out.cell T2.out (by intro e; rcases e with e | e | e <;> first | exact hab0 ((blk_add _ _).symm.trans e) | exact hab1 ((blk_add _ _).symm.trans e) | exact habg ((blk_add _ _).symm.trans e)); have x0 : w2.cell? ⟨b0, kk, none⟩ = some (.int .i64 x) := (by have := R02.out.cell (show kk < cc.length by have := RC.out; omega) 0; rw [← HX.out] at this; exact this); have z0 := R02.out.thaw kk; clear hw)
        go_still_tail 11, (by kernel_rfl)
        go_wp2_with ((with_reducible refine gate_store (t := 2) (p := 60) rfl ?_); refine store_event (t := 2) (p := 60) (v := .tmp 59) (w1 := w2.drew.setCell ⟨b0, kk, none⟩ (.int .i64 f0)) ?hg ?ho ?hn ?hr ?_; (case ho => rfl); (case hg => rfl); (case hn => rfl); (case hr => first | (go_simp; done) | (go_simp; rfl)); intro w3 hw; have RG3 : Aside0 (SysBox g b0 b1 n c0 c1 y w3) := ⟨by rw [hw]; exact set_other RG2.out _ hn0⟩; have R03 : Aside0 (Copies w3 b0 (cc.set kk f0)) := ⟨by rw [hw]; exact R02.out.put (by have := RC.out; omega) f0 _ rfl⟩; have R13 : Aside0 (Freshs w3 b1 ff) := ⟨by rw [hw]; exact R12.out.other _ hne.symm⟩; have RO3 : Aside0 (Only w w3 (fun k => k = b0 ∨ k = b1 ∨ k = g)) := ⟨by rw [hw]; exact RO2.out.drew.setCell _ _ (.inl rfl)⟩; have q0 : w3.cell? ⟨g, 0, none⟩ = some (.slice (some ⟨b0, 0, none⟩) n c0) := blk_cell RG3.out 0; have q1 : w3.cell? ⟨g, 1, none⟩ = some (.slice (some ⟨b1, 0, none⟩) n c1) := blk_cell RG3.out 1; have y0 := RO3.out.cell T2.out (by intro e; rcases e with e | e | e <;> first | exact hab0 ((blk_add _ _).symm.trans e) | exact hab1 ((blk_add _ _).symm.trans e) | exact habg ((blk_add _ _).symm.trans e)); have x1 : w3.cell? ⟨b1, kk, none⟩ = some (.bool y) := (by have := R13.out.cell (show kk < ff.length by have := RF.out; omega) false; rw [← HY.out] at this; exact this); have z1 := R13.out.thaw kk; clear hw)
        have hq : (y = false) ∨ (y = true ∧ e0 = true) ∨ (y = true ∧ e0 = false) := by cases y <;> cases e0 <;> simp
        rcases hq with rfl | ⟨rfl, rfl⟩ | ⟨rfl, rfl⟩
        · go_region
          go_wp2
          go_roundg (n - (kk + 1))
          case measure => omega
          case rel =>
            refine ⟨kk + 1, cc.set kk f0, ff.set kk false, false, bb + 1, by omega, by omega, by go_num, rfl, by omega, by omega, ⟨set_other RG3.out _ hn1⟩, ⟨R03.out.other _ hne⟩, ⟨R13.out.put (by have := RF.out; omega) _ _ rfl⟩, ⟨by rw [List.length_set]; exact RC.out⟩, ⟨by rw [List.length_set]; exact RF.out⟩, ⟨fun z hz => ?_⟩, ⟨RS.out.trans (RT.out.trans (by rw [HE0.out]; rfl))⟩, ⟨(RO3.out.setCell _ _ (.inr (.inl rfl))).drew⟩⟩
            rcases List.mem_or_eq_of_mem_set hz with hz | hz
            · exact RV.out z hz
            · rw [hz]; exact hrv.out
        · go_region
          go_wp2
          go_roundg (n - (kk + 1))
          case measure => omega
          case rel =>
            refine ⟨kk + 1, cc.set kk f0, ff.set kk false, true, bb + 1, by omega, by omega, by go_num, rfl, by omega, by omega, ⟨set_other RG3.out _ hn1⟩, ⟨R03.out.other _ hne⟩, ⟨R13.out.put (by have := RF.out; omega) _ _ rfl⟩, ⟨by rw [List.length_set]; exact RC.out⟩, ⟨by rw [List.length_set]; exact RF.out⟩, ⟨fun z hz => ?_⟩, ⟨RS.out.trans (RT.out.trans (by rw [HE0.out]; rfl))⟩, ⟨(RO3.out.setCell _ _ (.inr (.inl rfl))).drew⟩⟩
            rcases List.mem_or_eq_of_mem_set hz with hz | hz
            · exact RV.out z hz
            · rw [hz]; exact hrv.out
        · go_region
          go_wp2
          go_roundg (n - (kk + 1))
          case measure => omega
          case rel =>
            refine ⟨kk + 1, cc.set kk f0, ff.set kk true, true, bb + 1, by omega, by omega, by go_num, rfl, by omega, by omega, ⟨set_other RG3.out _ hn1⟩, ⟨R03.out.other _ hne⟩, ⟨R13.out.put (by have := RF.out; omega) _ _ rfl⟩, ⟨by rw [List.length_set]; exact RC.out⟩, ⟨by rw [List.length_set]; exact RF.out⟩, ⟨fun z hz => ?_⟩, ⟨RS.out.trans (RT.out.trans (by rw [HE0.out]; rfl))⟩, ⟨(RO3.out.setCell _ _ (.inr (.inl rfl))).drew⟩⟩
            rcases List.mem_or_eq_of_mem_set hz with hz | hz
            · exact RV.out z hz
            · rw [hz]; exact hrv.out
      · have z0 := R0.out.thaw kk
        go_wp2
        go_still_tail 11, (by kernel_rfl)
        go_wp2_with ((with_reducible refine gate_store (t := 2) (p := 60) rfl ?_); refine store_event (t := 2) (p := 60) (v := .tmp 59) (w1 := wo.drew.setCell ⟨b0, kk, none⟩ (.int .i64 f0)) ?hg ?ho ?hn ?hr ?_; (case ho => rfl); (case hg => rfl); (case hn => rfl); (case hr => first | (go_simp; done) | (go_simp; rfl)); intro w3 hw; have RG3 : Aside0 (SysBox g b0 b1 n c0 c1 mm w3) := ⟨by rw [hw]; exact set_other RG.out _ hn0⟩; have R03 : Aside0 (Copies w3 b0 (cc.set kk f0)) := ⟨by rw [hw]; exact R0.out.put (by have := RC.out; omega) f0 _ rfl⟩; have R13 : Aside0 (Freshs w3 b1 ff) := ⟨by rw [hw]; exact R1.out.other _ hne.symm⟩; have RO3 : Aside0 (Only w w3 (fun k => k = b0 ∨ k = b1 ∨ k = g)) := ⟨by rw [hw]; exact RO.out.drew.setCell _ _ (.inl rfl)⟩; have q0 : w3.cell? ⟨g, 0, none⟩ = some (.slice (some ⟨b0, 0, none⟩) n c0) := blk_cell RG3.out 0; have q1 : w3.cell? ⟨g, 1, none⟩ = some (.slice (some ⟨b1, 0, none⟩) n c1) := blk_cell RG3.out 1; have y0 := RO3.out.cell T2.out (by intro e; rcases e with e | e | e <;> first | exact hab0 ((blk_add _ _).symm.trans e) | exact hab1 ((blk_add _ _).symm.trans e) | exact habg ((blk_add _ _).symm.trans e)); have x1 : w3.cell? ⟨b1, kk, none⟩ = some (.bool y) := (by have := R13.out.cell (show kk < ff.length by have := RF.out; omega) false; rw [← HY.out] at this; exact this); have z1 := R13.out.thaw kk; clear hw)
        have hq : (y = false) ∨ (y = true ∧ e0 = true) ∨ (y = true ∧ e0 = false) := by cases y <;> cases e0 <;> simp
        rcases hq with rfl | ⟨rfl, rfl⟩ | ⟨rfl, rfl⟩
        · go_region
          go_wp2
          go_roundg (n - (kk + 1))
          case measure => omega
          case rel =>
            refine ⟨kk + 1, cc.set kk f0, ff.set kk false, mm, bb, by omega, by omega, by go_num, rfl, by omega, by omega, ⟨set_other RG3.out _ hn1⟩, ⟨R03.out.other _ hne⟩, ⟨R13.out.put (by have := RF.out; omega) _ _ rfl⟩, ⟨by rw [List.length_set]; exact RC.out⟩, ⟨by rw [List.length_set]; exact RF.out⟩, ⟨fun z hz => ?_⟩, ⟨RS.out.trans (RT.out.trans (by rw [HE0.out]; rfl))⟩, ⟨(RO3.out.setCell _ _ (.inr (.inl rfl))).drew⟩⟩
            rcases List.mem_or_eq_of_mem_set hz with hz | hz
            · exact RV.out z hz
            · rw [hz]; exact hrv.out
        · go_region
          go_wp2
          go_roundg (n - (kk + 1))
          case measure => omega
          case rel =>
            refine ⟨kk + 1, cc.set kk f0, ff.set kk false, mm, bb, by omega, by omega, by go_num, rfl, by omega, by omega, ⟨set_other RG3.out _ hn1⟩, ⟨R03.out.other _ hne⟩, ⟨R13.out.put (by have := RF.out; omega) _ _ rfl⟩, ⟨by rw [List.length_set]; exact RC.out⟩, ⟨by rw [List.length_set]; exact RF.out⟩, ⟨fun z hz => ?_⟩, ⟨RS.out.trans (RT.out.trans (by rw [HE0.out]; rfl))⟩, ⟨(RO3.out.setCell _ _ (.inr (.inl rfl))).drew⟩⟩
            rcases List.mem_or_eq_of_mem_set hz with hz | hz
            · exact RV.out z hz
            · rw [hz]; exact hrv.out
        · go_region
          go_wp2
          go_roundg (n - (kk + 1))
          case measure => omega
          case rel =>
            refine ⟨kk + 1, cc.set kk f0, ff.set kk true, mm, bb, by omega, by omega, by go_num, rfl, by omega, by omega, ⟨set_other RG3.out _ hn1⟩, ⟨R03.out.other _ hne⟩, ⟨R13.out.put (by have := RF.out; omega) _ _ rfl⟩, ⟨by rw [List.length_set]; exact RC.out⟩, ⟨by rw [List.length_set]; exact RF.out⟩, ⟨fun z hz => ?_⟩, ⟨RS.out.trans (RT.out.trans (by rw [HE0.out]; rfl))⟩, ⟨(RO3.out.setCell _ _ (.inr (.inl rfl))).drew⟩⟩
            rcases List.mem_or_eq_of_mem_set hz with hz | hz
            · exact RV.out z hz
            · rw [hz]; exact hrv.out
    · obtain rfl : kk = n := by omega
      have q0 : wo.cell? ⟨g, 0, none⟩ = some (.slice (some ⟨b0, 0, none⟩) kk c0) := blk_cell RG.out 0
      go_wp2
      go_ret
      refine ⟨cc, ff, mm, bb, rfl, ?_, RG.out, R0.out, R1.out, RC.out, RF.out, RV.out, by omega, by omega, RO.out⟩
      rw [RS.out, Nat.sub_self]
      rfl
/-- Whether a cache other than i, from d on, has a copy. -/
def othersFrom (c : List Int) (i : Nat) : Nat → Nat → Bool
  | 0, _ => false
  | k + 1, d => if d = i then othersFrom c i k (d + 1) else if c.getD d 0 = 0 then othersFrom c i k (d + 1) else true
def others (c : List Int) (i : Nat) : Bool := othersFrom c i c.length 0
/-- What spec's step makes of a system. -/
def stepS (t0 t1 t2 t3 t4 : List S58) (c : List Int) (f : List Bool) (m : Bool) (kind : Int) (i : Nat) : List Int × List Bool × Bool × Bool × Bool × Int :=
  let q := c.getD i 0
  if kind = 0 then
    if q = 0 then
      let s := seeAll t3 i c f m
      let c2 := s.1.set i (t0.getD 0 z58).f0
      finI (if others c2 i then c2.set i (t0.getD 0 z58).f1 else c2) (s.2.1.set i s.2.2.1) s.2.2.1 (!s.2.2.1) true s.2.2.2
    else
      let r := t0.getD q.toNat z58
      finI (c.set i r.f0) f m (!(f.getD i false)) false 0
  else if kind = 1 then
    let sn := decide (q = 0) || decide (q = 1)
    let s := if sn then seeAll t4 i c f m else (c, f, m, 0)
    let r := t1.getD q.toNat z58
    finI (s.1.set i r.f0) ((List.replicate s.2.1.length false).set i (!decide (r.f0 = 0))) r.f2 false sn (if r.f2 then s.2.2.2 + 1 else s.2.2.2)
  else
    let r := t2.getD q.toNat z58
    finI (c.set i 0) (f.set i false) (if r.f2 then f.getD i false else m) false false (if r.f2 then 1 else 0)
theorem others_ev (c : List Int) (f : List Bool) (m : Bool) (i : Nat) (hc : c.length ≤ 1048576) : Ev (fun k => spec_l10Others.f k c f m (i : Int)) (others c i) := by
  unfold spec_l10Others.f others
  have key : ∀ k d, c.length - d = k → d ≤ c.length → Ev (fun n => spec_l10Others.l0 n (i : Int) (d : Int) c f m) (othersFrom c i k d) := by
    intro k
    induction k with
    | zero =>
      intro d hd hle
      refine Ev.succ ?_
      simp only [spec_l10Others.l0]
      exact Ev.neg (by omega) (Ev.some rfl)
    | succ k ih =>
      intro d hd hle
      refine Ev.succ ?_
      simp only [spec_l10Others.l0, othersFrom]
      refine Ev.pos (by omega) ?_
      rw [wrap_succ (show d < c.length by omega) (by omega)]
      have hn := ih (d + 1) (by omega) (by omega)
      by_cases e : d = i
      · subst e
        rw [if_pos rfl]
        exact Ev.pos rfl hn
      · rw [if_neg e]
        refine Ev.neg (by omega) (Ev.pos (by omega) ?_)
        have hr : rd c (d : Int) = c.getD d 0 := rfl
        rw [hr]
        by_cases z : c.getD d 0 = 0
        · rw [if_pos z]
          exact Ev.pos z hn
        · rw [if_neg z]
          exact Ev.neg z (Ev.some rfl)
  exact key c.length 0 (by omega) (by omega)
theorem set_mark_ {α : Type} (A l : List α) (i : Nat) (v : α) (h : i = A.length) (hi : i < l.length) : (A ++ l.drop i).set i v = (A ++ [v]) ++ l.drop (i + 1) := by
  subst h
  rw [List.set_append_right _ _ (Nat.le_refl _), Nat.sub_self, List.drop_eq_getElem_cons hi, List.set_cons_zero]
  simp
set_option maxHeartbeats 6400000 in
set_option maxRecDepth 100000 in
theorem specStep0 (gq g1 c0 c1 n : Nat) (ad0 ad1 : Addr) (A0 A1 A2 A3 A4 : Option Addr) (k0_ k1_ k2_ k3_ k4_ : Nat) (t0 t1 t2 t3 t4 : List S58) (m : Bool) (c : List Int) (f : List Bool) (kind : Int) (i : Nat) (w : World)
    (hb1 : w.heap[g1]? = some (.cells #[.slice (some ad0) c.length c0, .slice (some ad1) f.length c1, .bool m] 73 (0, 0))) (hr0 : Kd.C (Kd.int .i64) w (some ad0) c.length c) (hr1 : Kd.C Kd.bool w (some ad1) f.length f) (hbp : w.heap[gq]? = some (.cells #[.slice A0 t0.length k0_, .slice A1 t1.length k1_, .slice A2 t2.length k2_, .slice A3 t3.length k3_, .slice A4 t4.length k4_] 54 (0, 0)))
    (ht0 : Kd.C k58 w A0 t0.length t0) (ht1 : Kd.C k58 w A1 t1.length t1) (ht2 : Kd.C k58 w A2 t2.length t2) (ht3 : Kd.C k58 w A3 t3.length t3) (ht4 : Kd.C k58 w A4 t4.length t4)
    (l0 : t0.length = 4) (l1 : t1.length = 4) (l2 : t2.length = 4) (l3 : t3.length = 4) (l4 : t4.length = 4) (hv : ∀ x ∈ c, 0 ≤ x ∧ x ≤ 3) (v0 : ∀ r ∈ t0, (0 ≤ r.f0 ∧ r.f0 ≤ 3) ∧ 0 ≤ r.f1 ∧ r.f1 ≤ 3) (v1 : ∀ r ∈ t1, 0 ≤ r.f0 ∧ r.f0 ≤ 3) (v3 : ∀ r ∈ t3, 0 ≤ r.f0 ∧ r.f0 ≤ 3) (v4 : ∀ r ∈ t4, 0 ≤ r.f0 ∧ r.f0 ≤ 3) (hk0 : 0 ≤ kind) (hk2 : kind ≤ 2) (hc0 : c.length ≤ c0) (hc1 : f.length ≤ c1) (hc : c.length = n) (hf : f.length = n) (hm : n ≤ 1048576) (hi : i < n) :
    Calls Try.prog 75 #[.pointer (some ⟨gq, 0, none⟩), .pointer (some ⟨g1, 0, none⟩), .agg #[.int .i64 kind, .int .i64 (i : Int)]] w fun e w' => ∃ b0 b1 d0 d1 c' f' m' fl sn bk, e = .returned (.tuple #[.agg #[.slice (some ⟨b0, 0, none⟩) n d0, .slice (some ⟨b1, 0, none⟩) n d1, .bool m'], .bool fl, .bool sn, .int .i64 bk]) ∧ stepS t0 t1 t2 t3 t4 c f m kind i = (c', f', m', fl, sn, bk) ∧ CopiesD d0 w' b0 c' ∧ FreshsD d1 w' b1 f' ∧ c'.length = n ∧ f'.length = n ∧ n ≤ d0 ∧ n ≤ d1 ∧ b0 ≠ b1 ∧ w.heap.size ≤ b0 ∧ w.heap.size ≤ b1 ∧ (∀ x ∈ c', 0 ≤ x ∧ x ≤ 3) ∧ 0 ≤ bk ∧ bk ≤ n + 1 ∧ Below w.heap.size w w' := by
  have HR0 := Aside0.mk hr0
  have HR1 := Aside0.mk hr1
  have HC0 := Aside0.mk hc0
  have HC1 := Aside0.mk hc1
  have HC := Aside0.mk hc
  have HF := Aside0.mk hf
  have HB1 := Aside0.mk hb1
  have HT0 := Aside0.mk ht0
  have HT1 := Aside0.mk ht1
  have HT2 := Aside0.mk ht2
  have HT3 := Aside0.mk ht3
  have HT4 := Aside0.mk ht4
  have L0 := Aside0.mk l0
  have L1 := Aside0.mk l1
  have L2 := Aside0.mk l2
  have L3 := Aside0.mk l3
  have L4 := Aside0.mk l4
  have HV := Aside0.mk hv
  have V0 := Aside0.mk v0
  have V1 := Aside0.mk v1
  have V3 := Aside0.mk v3
  have V4 := Aside0.mk v4
  have HBP := Aside0.mk hbp
  clear hr0 hr1 hc0 hc1 hc hf hb1 ht0 ht1 ht2 ht3 ht4 l0 l1 l2 l3 l4 hv v0 v1 v3 v4 hbp
  go_enter Try.func75, Try.ntmps75
  go_upto_region 1 with (first
    | ((with_reducible refine gate_dst (N := 5) rfl ?_); refine box_event ?hg (N := 5) ?hd (cs := #[.int .i64 kind, .int .i64 (i : Int)]) (t := 118) ?hr ?_; (case hd => rfl); (case hg => rfl); (case hr => first | (go_simp; done) | (go_simp; rfl)); intro go hgo w3 hbox hb; have BO := Aside0.mk hbox; have BB := Aside0.mk hb; have GO := Aside0.mk hgo; clear hbox hb hgo)
    | ((with_reducible refine gate_dst (N := 6) rfl ?_); refine box_event ?hg (N := 6) ?hd (cs := #[.slice none 0 0, .slice none 0 0, .bool false]) (t := 73) ?hr ?_; (case hd => rfl); (case hg => rfl); (case hr => first | (go_simp; done) | (go_simp; rfl)); intro gr hgr w4 hbox hb; have BR := Aside0.mk hbox; have BB2 := Aside0.mk hb; have GR := Aside0.mk hgr; clear hbox hb hgr))
  have q0 : w4.drew.cell? ⟨g1, 0, none⟩ = some (.slice (some ad0) c.length c0) := blk_cell ((BB2.out.block g1 (Nat.lt_of_lt_of_le (blk_lt HB1.out) BB.out.size)).trans ((BB.out.block g1 (blk_lt HB1.out)).trans HB1.out)) 0
  have q1 : w4.drew.cell? ⟨g1, 1, none⟩ = some (.slice (some ad1) f.length c1) := blk_cell ((BB2.out.block g1 (Nat.lt_of_lt_of_le (blk_lt HB1.out) BB.out.size)).trans ((BB.out.block g1 (blk_lt HB1.out)).trans HB1.out)) 1
  have q2 : w4.drew.cell? ⟨g1, 2, none⟩ = some (.bool m) := blk_cell ((BB2.out.block g1 (Nat.lt_of_lt_of_le (blk_lt HB1.out) BB.out.size)).trans ((BB.out.block g1 (blk_lt HB1.out)).trans HB1.out)) 2
  have CL : Aside0 (∀ W, Below w.heap.size w W → Calls Try.prog 100 #[.slice (some ad0) c.length c0] W fun e w' => ∃ v, e = .returned v ∧ Kd.R (Kd.int .i64) 2 w' W.heap.size (fun _ => True) v c ∧ Below W.heap.size W w') := ⟨fun W hb => spec_l00Own.calls (some ad0) c0 c c W (Kd.C_below HR0.out hb) HC0.out (by
    have : c.length = n := HC.out
    unfold spec_l00Own.f
    simp
    omega)⟩
  have HBW : Below w.heap.size w w4 := below_le BB.out BB2.out
  obtain ⟨i0, hi0, hz0, hz1, hz2⟩ := info_parts info4
  go_cut [10] (fun s10 wx => ∃ gx b0 b1 d0 d1 : Nat, s10 = .pointer (some ⟨gx, 0, none⟩) ∧ Aside0 (SysBox gx b0 b1 n d0 d1 m wx) ∧ Aside0 (CopiesD d0 wx b0 c) ∧ Aside0 (FreshsD d1 wx b1 f) ∧ n ≤ d0 ∧ n ≤ d1 ∧ b0 ≠ b1 ∧ gx ≠ b0 ∧ gx ≠ b1 ∧ w4.heap.size ≤ b0 ∧ w4.heap.size ≤ b1 ∧ w4.heap.size ≤ gx ∧ Aside0 (Below w4.heap.size w4 wx))
  case first =>
    as_aux_lemma =>
      refine start_ (n := 18) (S := fun w' => w'.cell? ⟨g1, 0, none⟩ = some (.slice (some ad0) c.length c0) ∧ w'.cell? ⟨g1, 1, none⟩ = some (.slice (some ad1) f.length c1) ∧ w'.cell? ⟨g1, 2, none⟩ = some (.bool m) ∧ Below w4.heap.size w4 w') (ds := [17]) #[false, false, false, false, false, false, false, false, false, false, false, false, false, false, false, false, false, false] (by kernel_rfl) rfl rfl ⟨q0, q1, q2, below_drew (Below.refl _ _)⟩ (fun hHeld => ?_)
      refine pure_ (i := 0) (N := some 19) (v := ?_) (a' := ?_) #[true, false, false, false, false, false, false, false, false, false, false, false, false, false, false, false, false, false] rfl rfl (by kernel_rfl) (fun _ _ _ h => h) (Or.inl ⟨by rfl, ?_⟩) ?_ ?_
      rotate_left
      · intro w'
        go_simp
        with_reducible rfl
      rotate_left
      · simp only [Act.put, List.setIfInBounds_toArray, List.set_cons_zero, List.set_cons_succ, i64_w, i32_w]
        rfl
      refine pure_ (i := 1) (N := some 20) (v := ?_) (a' := ?_) #[true, true, false, false, false, false, false, false, false, false, false, false, false, false, false, false, false, false] rfl rfl (by kernel_rfl) (fun _ _ _ h => h) (Or.inl ⟨by rfl, ?_⟩) ?_ ?_
      rotate_left
      · intro w'
        go_simp
        with_reducible rfl
      rotate_left
      · simp only [Act.put, List.setIfInBounds_toArray, List.set_cons_zero, List.set_cons_succ, i64_w, i32_w]
        rfl
      refine pure_ (i := 2) (N := some 21) (v := ?_) (a' := ?_) #[true, true, true, false, false, false, false, false, false, false, false, false, false, false, false, false, false, false] rfl rfl (by kernel_rfl) (fun _ _ _ h => h) (Or.inl ⟨by rfl, ?_⟩) ?_ ?_
      rotate_left
      · intro w'
        go_simp
        with_reducible rfl
      rotate_left
      · simp only [Act.put, List.setIfInBounds_toArray, List.set_cons_zero, List.set_cons_succ, i64_w, i32_w]
        rfl
      refine pure_ (i := 6) (N := some 25) (v := ?_) (a' := ?_) #[true, true, true, false, false, false, true, false, false, false, false, false, false, false, false, false, false, false] rfl rfl (by kernel_rfl) (fun _ _ _ h => h) (Or.inl ⟨by rfl, ?_⟩) ?_ ?_
      rotate_left
      · intro w'
        go_simp
        with_reducible rfl
      rotate_left
      · simp only [Act.put, List.setIfInBounds_toArray, List.set_cons_zero, List.set_cons_succ, i64_w, i32_w]
        rfl
      refine pure_ (i := 7) (N := some 26) (v := ?_) (a' := ?_) #[true, true, true, false, false, false, true, true, false, false, false, false, false, false, false, false, false, false] rfl rfl (by kernel_rfl) (fun _ _ _ h => h) (Or.inl ⟨by rfl, ?_⟩) ?_ ?_
      rotate_left
      · intro w'
        go_simp
        with_reducible rfl
      rotate_left
      · simp only [Act.put, List.setIfInBounds_toArray, List.set_cons_zero, List.set_cons_succ, i64_w, i32_w]
        rfl
      refine pure_ (i := 8) (N := some 27) (v := ?_) (a' := ?_) #[true, true, true, false, false, false, true, true, true, false, false, false, false, false, false, false, false, false] rfl rfl (by kernel_rfl) (fun _ _ _ h => h) (Or.inl ⟨by rfl, ?_⟩) ?_ ?_
      rotate_left
      · intro w'
        go_simp
        with_reducible rfl
      rotate_left
      · simp only [Act.put, List.setIfInBounds_toArray, List.set_cons_zero, List.set_cons_succ, i64_w, i32_w]
        rfl
      refine pure_ (i := 11) (N := some 30) (v := ?_) (a' := ?_) #[true, true, true, false, false, false, true, true, true, false, false, true, false, false, false, false, false, false] rfl rfl (by kernel_rfl) (fun _ _ _ h => h) (Or.inl ⟨by rfl, ?_⟩) ?_ ?_
      rotate_left
      · intro w'
        go_simp
        with_reducible rfl
      rotate_left
      · simp only [Act.put, List.setIfInBounds_toArray, List.set_cons_zero, List.set_cons_succ, i64_w, i32_w]
        rfl
      refine pure_ (i := 12) (N := some 31) (v := ?_) (a' := ?_) #[true, true, true, false, false, false, true, true, true, false, false, true, true, false, false, false, false, false] rfl rfl (by kernel_rfl) (fun _ _ _ h => h) (Or.inl ⟨by rfl, ?_⟩) ?_ ?_
      rotate_left
      · intro w'
        go_simp
        with_reducible rfl
      rotate_left
      · simp only [Act.put, List.setIfInBounds_toArray, List.set_cons_zero, List.set_cons_succ, i64_w, i32_w]
        rfl
      refine pure_ (i := 13) (N := some 32) (v := ?_) (a' := ?_) #[true, true, true, false, false, false, true, true, true, false, false, true, true, true, false, false, false, false] rfl rfl (by kernel_rfl) (fun _ _ _ h => h) (Or.inl ⟨by rfl, ?_⟩) ?_ ?_
      rotate_left
      · intro w'
        go_simp
        with_reducible rfl
      rotate_left
      · simp only [Act.put, List.setIfInBounds_toArray, List.set_cons_zero, List.set_cons_succ, i64_w, i32_w]
        rfl
      refine take_ (i := 3) (N := some 22) (v := ?_) (a' := ?_) #[true, true, true, true, false, false, true, true, true, false, false, true, true, true, false, false, false, false] rfl rfl (by kernel_rfl) (fun _ _ _ h => h) (Or.inl ⟨by rfl, ?_⟩) hHeld ?_ ?_
      rotate_left
      · rintro w' ⟨s0, s1, s2, s3⟩
        go_simp
        with_reducible rfl
      rotate_left
      · simp only [Act.put, List.setIfInBounds_toArray, List.set_cons_zero, List.set_cons_succ, i64_w, i32_w]
        rfl
      refine take_ (i := 9) (N := some 28) (v := ?_) (a' := ?_) #[true, true, true, true, false, false, true, true, true, true, false, true, true, true, false, false, false, false] rfl rfl (by kernel_rfl) (fun _ _ _ h => h) (Or.inl ⟨by rfl, ?_⟩) hHeld ?_ ?_
      rotate_left
      · rintro w' ⟨s0, s1, s2, s3⟩
        go_simp
        with_reducible rfl
      rotate_left
      · simp only [Act.put, List.setIfInBounds_toArray, List.set_cons_zero, List.set_cons_succ, i64_w, i32_w]
        rfl
      refine take_ (i := 14) (N := some 33) (v := ?_) (a' := ?_) #[true, true, true, true, false, false, true, true, true, true, false, true, true, true, true, false, false, false] rfl rfl (by kernel_rfl) (fun _ _ _ h => h) (Or.inl ⟨by rfl, ?_⟩) hHeld ?_ ?_
      rotate_left
      · rintro w' ⟨s0, s1, s2, s3⟩
        go_simp
        with_reducible rfl
      rotate_left
      · simp only [Act.put, List.setIfInBounds_toArray, List.set_cons_zero, List.set_cons_succ, i64_w, i32_w]
        rfl
      refine join_ (σ := Nat × Nat × Nat × Nat × Nat × Nat) 1 #[true, true, true, true, true, true, true, true, true, true, true, true, true, true, true, true, true, false] (fun s => [(23, .slice (some ⟨s.1, 0, none⟩) c.length s.2.1), (24, .slice (some ⟨s.2.2.1, 0, none⟩) 0 0), (29, .slice (some ⟨s.2.2.2.1, 0, none⟩) f.length s.2.2.2.2.1), (10, .pointer (some ⟨s.2.2.2.2.2, 0, none⟩)), (34, .agg #[.slice (some ⟨s.1, 0, none⟩) c.length s.2.1, .slice (some ⟨s.2.2.2.1, 0, none⟩) f.length s.2.2.2.2.1, .bool m])]) (fun s w' => CopiesD s.2.1 w' s.1 c ∧ FreshsD s.2.2.2.2.1 w' s.2.2.2.1 f ∧ w'.heap[s.2.2.2.2.2]? = some (.cells #[.slice none 0 0, .slice none 0 0, .bool false] 73 (0, 0)) ∧ c.length ≤ s.2.1 ∧ f.length ≤ s.2.2.2.2.1 ∧ s.1 ≠ s.2.2.2.1 ∧ s.1 ≠ s.2.2.2.2.2 ∧ s.2.2.2.1 ≠ s.2.2.2.2.2 ∧ w4.heap.size ≤ s.1 ∧ w4.heap.size ≤ s.2.2.2.1 ∧ w4.heap.size ≤ s.2.2.2.2.2 ∧ (w'.cell? ⟨g1, 0, none⟩ = some (.slice (some ad0) c.length c0)) ∧ (w'.cell? ⟨g1, 1, none⟩ = some (.slice (some ad1) f.length c1)) ∧ (w'.cell? ⟨g1, 2, none⟩ = some (.bool m)) ∧ (Below w4.heap.size w4 w')) ?_ ?_
      rotate_left
      · intro hCont
        refine three_ (i := 4) (j := 5) (k := 16) (Ni := some 23) (Nj := some 24) (Nk := some 10) #[true, true, true, true, true, false, true, true, true, true, false, true, true, true, true, false, false, false] #[true, true, true, true, false, true, true, true, true, true, false, true, true, true, true, false, false, false] #[true, true, true, true, false, false, true, true, true, true, false, true, true, true, true, false, true, false] rfl rfl rfl rfl rfl rfl (by kernel_rfl) (by decide) (by decide) (by decide) (fun K hK => ?_) (fun K hK => ?_) (fun K hK => ?_)
        · skip
          refine goes_ Try.func100 (by kernel_rfl) rfl #[.slice (some ad0) c.length c0] (by rfl) rfl rfl (by simp only [List.map_toArray, List.map_cons, List.map_nil]; rfl) ?_
          with_reducible refine (CL.out _ (below_le HBW hHeld.2.2.2)).mono ?_
          rintro e w4_ ⟨v23, rfl, hR, hb⟩
          refine ⟨_, rfl, ?_⟩
          obtain ⟨b0, d0, rfl, hd0, ge_b0, lt_b0, R_b0⟩ := RowD.of_R hR (by have := HC.out; omega)
          have R_b0 := Aside0.mk R_b0
          have ge_b0 : w4.heap.size ≤ b0 := ge_b0
          have lo_b0 : w4.heap.size ≤ b0 := Nat.le_trans hHeld.2.2.2.size (by first | exact ge_b0 | exact Nat.le_refl _)
          refine hK.out _ _ ⟨((Below.cell hb (World.block_lt_of_cell? _ _ hHeld.1)).trans hHeld.1), ((Below.cell hb (World.block_lt_of_cell? _ _ hHeld.2.1)).trans hHeld.2.1), ((Below.cell hb (World.block_lt_of_cell? _ _ hHeld.2.2.1)).trans hHeld.2.2.1), (below_le hHeld.2.2.2 hb)⟩ (fun hHeld => ?_)
          clear hK K
          refine norm_ (a' := ?_) ?_ ?_
          rotate_left
          · show Act.put _ (some 23) _ = _
            simp only [Act.put, List.setIfInBounds_toArray, List.set_cons_zero, List.set_cons_succ, i64_w, i32_w]
            rfl
          refine two_ (i := 5) (j := 16) (Ni := some 24) (Nj := some 10) #[true, true, true, true, true, true, true, true, true, true, false, true, true, true, true, false, false, false] #[true, true, true, true, true, false, true, true, true, true, false, true, true, true, true, false, true, false] rfl rfl rfl rfl (by kernel_rfl) (by decide) (by decide) (fun K hK => ?_) (fun K hK => ?_)
          · skip
            refine value_ (w1 := ?_) (v := ?_) (by rfl) rfl ?_ ?_
            rotate_left 2
            · go_simp
              constructor
              · rfl
              · rfl
            have hb : Below w4_.heap.size w4_ (w4_.alloc (.cells #[] 4)) := below_alloc (Below.refl _ _) _
            have hnew : (w4_.alloc (.cells #[] 4)).heap[w4_.heap.size]? = some (.cells #[] 4) := heap_alloc_new w4_ (.cells #[] 4)
            have hlt : w4_.heap.size < (w4_.alloc (.cells #[] 4)).heap.size := by simp
            obtain ⟨w5_, hw_⟩ : ∃ w, w = w4_.alloc (.cells #[] 4) := ⟨_, rfl⟩
            rw [← hw_] at hb hnew hlt ⊢
            clear hw_
            have R_b0 := Aside0.mk (R_b0.out.below hb)
            have lt_b0 : b0 < w5_.heap.size := Nat.lt_of_lt_of_le lt_b0 hb.size
            refine hK.out _ _ ⟨((Below.cell hb (World.block_lt_of_cell? _ _ hHeld.1)).trans hHeld.1), ((Below.cell hb (World.block_lt_of_cell? _ _ hHeld.2.1)).trans hHeld.2.1), ((Below.cell hb (World.block_lt_of_cell? _ _ hHeld.2.2.1)).trans hHeld.2.2.1), (below_le hHeld.2.2.2 hb)⟩ (fun hHeld => ?_)
            clear hK K
            refine norm_ (a' := ?_) ?_ ?_
            rotate_left
            · show Act.put _ (some 24) _ = _
              simp only [Act.put, List.setIfInBounds_toArray, List.set_cons_zero, List.set_cons_succ, i64_w, i32_w]
              rfl
            refine two_ (i := 10) (j := 16) (Ni := some 29) (Nj := some 10) #[true, true, true, true, true, true, true, true, true, true, true, true, true, true, true, false, false, false] #[true, true, true, true, true, true, true, true, true, true, false, true, true, true, true, false, true, false] rfl rfl rfl rfl (by kernel_rfl) (by decide) (by decide) (fun K hK => ?_) (fun K hK => ?_)
            · skip
              refine step_append_grows rfl (.tmp 24) (.tmp 28) 71 rfl 4 i0 (.bool false) 1 1 Try.underlying71 hi0 hz0 hz1 hz2 rfl (by decide) (some ⟨w4_.heap.size, 0, none⟩) 0 0 [] rfl (fun h => by cases h) rfl (fun b hb j u hu => by simp at hu) ad1 f.length c1 (f.map Value.bool) rfl (by simp) (RowB.C_cells (Kd.C_below HR1.out (below_le HBW hHeld.2.2.2))) (by intro u hu; obtain ⟨y, _, rfl⟩ := List.mem_map.1 hu; rfl) (by have := HF.out; omega) (by unfold maxLen; have := HF.out; omega) (by have := HF.out; omega) ?_
              intro v29 w10_ hown hg
              have hb : Below w5_.heap.size w5_ w10_ := ⟨hg.os, hg.tape, hg.output, hg.size, fun k hk => hg.block k hk (by simp)⟩
              rw [Nat.zero_add] at hown
              obtain ⟨b1, d1, rfl, hd1, ge_b1, lt_b1, R_b1⟩ := RowD.of_owns (l := f) (fun _ => rfl) hown (by have := HF.out; omega) rfl
              have R_b1 := Aside0.mk R_b1
              have ge_b1 : w5_.heap.size ≤ b1 := ge_b1
              have ne_b0_b1 : b0 ≠ b1 := by omega
              have lo_b1 : w4.heap.size ≤ b1 := Nat.le_trans hHeld.2.2.2.size (by first | exact ge_b1 | exact Nat.le_refl _)
              have R_b0 := Aside0.mk (R_b0.out.below hb)
              have lt_b0 : b0 < w10_.heap.size := Nat.lt_of_lt_of_le lt_b0 hb.size
              refine hK.out _ _ ⟨((Below.cell hb (World.block_lt_of_cell? _ _ hHeld.1)).trans hHeld.1), ((Below.cell hb (World.block_lt_of_cell? _ _ hHeld.2.1)).trans hHeld.2.1), ((Below.cell hb (World.block_lt_of_cell? _ _ hHeld.2.2.1)).trans hHeld.2.2.1), (below_le hHeld.2.2.2 hb)⟩ (fun hHeld => ?_)
              clear hK K
              refine norm_ (a' := ?_) ?_ ?_
              rotate_left
              · show Act.put _ (some 29) _ = _
                simp only [Act.put, List.setIfInBounds_toArray, List.set_cons_zero, List.set_cons_succ, i64_w, i32_w]
                rfl
              refine pure_ (i := 15) (N := some 34) (v := ?_) (a' := ?_) #[true, true, true, true, true, true, true, true, true, true, true, true, true, true, true, true, false, false] rfl rfl (by kernel_rfl) (fun _ _ _ h => h) (Or.inl ⟨by rfl, ?_⟩) ?_ ?_
              rotate_left
              · intro w'
                go_simp
                with_reducible rfl
              rotate_left
              · simp only [Act.put, List.setIfInBounds_toArray, List.set_cons_zero, List.set_cons_succ, i64_w, i32_w]
                rfl
              refine one_ (i := 16) (N := some 10) #[true, true, true, true, true, true, true, true, true, true, true, true, true, true, true, true, true, false] rfl rfl (by kernel_rfl) (by decide) (fun K hK => ?_)
              refine value_ (w1 := ?_) (v := ?_) (by rfl) rfl ?_ ?_
              rotate_left 2
              · go_simp
                constructor
                · rfl
                · rfl
              have hb : Below w10_.heap.size w10_ (w10_.alloc (.cells #[.slice none 0 0, .slice none 0 0, .bool false] 73)) := below_alloc (Below.refl _ _) _
              have hnew : (w10_.alloc (.cells #[.slice none 0 0, .slice none 0 0, .bool false] 73)).heap[w10_.heap.size]? = some (.cells #[.slice none 0 0, .slice none 0 0, .bool false] 73) := heap_alloc_new w10_ (.cells #[.slice none 0 0, .slice none 0 0, .bool false] 73)
              have hlt : w10_.heap.size < (w10_.alloc (.cells #[.slice none 0 0, .slice none 0 0, .bool false] 73)).heap.size := by simp
              obtain ⟨w16_, hw_⟩ : ∃ w, w = w10_.alloc (.cells #[.slice none 0 0, .slice none 0 0, .bool false] 73) := ⟨_, rfl⟩
              rw [← hw_] at hb hnew hlt ⊢
              clear hw_
              have R_gx := Aside0.mk hnew
              have ne_b0_gx : b0 ≠ w10_.heap.size := by omega
              have ne_b1_gx : b1 ≠ w10_.heap.size := by omega
              have lo_gx : w4.heap.size ≤ w10_.heap.size := Nat.le_trans hHeld.2.2.2.size (by first | exact ge_gx | exact Nat.le_refl _)
              have lt_gx : w10_.heap.size < w16_.heap.size := hlt
              have R_b0 := Aside0.mk (R_b0.out.below hb)
              have lt_b0 : b0 < w16_.heap.size := Nat.lt_of_lt_of_le lt_b0 hb.size
              have R_b1 := Aside0.mk (R_b1.out.below hb)
              have lt_b1 : b1 < w16_.heap.size := Nat.lt_of_lt_of_le lt_b1 hb.size
              refine hK.out _ _ ⟨((Below.cell hb (World.block_lt_of_cell? _ _ hHeld.1)).trans hHeld.1), ((Below.cell hb (World.block_lt_of_cell? _ _ hHeld.2.1)).trans hHeld.2.1), ((Below.cell hb (World.block_lt_of_cell? _ _ hHeld.2.2.1)).trans hHeld.2.2.1), (below_le hHeld.2.2.2 hb)⟩ (fun hHeld => ?_)
              clear hK K
              refine norm_ (a' := ?_) ?_ ?_
              rotate_left
              · show Act.put _ (some 10) _ = _
                simp only [Act.put, List.setIfInBounds_toArray, List.set_cons_zero, List.set_cons_succ, i64_w, i32_w]
                rfl
              exact norm_ (by simp only [putAll, Act.put, List.setIfInBounds_toArray, List.set_cons_zero, List.set_cons_succ]) (hCont (b0, d0, w4_.heap.size, b1, d1, w10_.heap.size) _ ⟨R_b0.out, R_b1.out, R_gx.out, hd0, hd1, ne_b0_b1, ne_b0_gx, ne_b1_gx, lo_b0, lo_b1, lo_gx, hHeld⟩)
            · skip
              refine value_ (w1 := ?_) (v := ?_) (by rfl) rfl ?_ ?_
              rotate_left 2
              · go_simp
                constructor
                · rfl
                · rfl
              have hb : Below w5_.heap.size w5_ (w5_.alloc (.cells #[.slice none 0 0, .slice none 0 0, .bool false] 73)) := below_alloc (Below.refl _ _) _
              have hnew : (w5_.alloc (.cells #[.slice none 0 0, .slice none 0 0, .bool false] 73)).heap[w5_.heap.size]? = some (.cells #[.slice none 0 0, .slice none 0 0, .bool false] 73) := heap_alloc_new w5_ (.cells #[.slice none 0 0, .slice none 0 0, .bool false] 73)
              have hlt : w5_.heap.size < (w5_.alloc (.cells #[.slice none 0 0, .slice none 0 0, .bool false] 73)).heap.size := by simp
              obtain ⟨w16_, hw_⟩ : ∃ w, w = w5_.alloc (.cells #[.slice none 0 0, .slice none 0 0, .bool false] 73) := ⟨_, rfl⟩
              rw [← hw_] at hb hnew hlt ⊢
              clear hw_
              have R_gx := Aside0.mk hnew
              have ne_b0_gx : b0 ≠ w5_.heap.size := by omega
              have lo_gx : w4.heap.size ≤ w5_.heap.size := Nat.le_trans hHeld.2.2.2.size (by first | exact ge_gx | exact Nat.le_refl _)
              have lt_gx : w5_.heap.size < w16_.heap.size := hlt
              have R_b0 := Aside0.mk (R_b0.out.below hb)
              have lt_b0 : b0 < w16_.heap.size := Nat.lt_of_lt_of_le lt_b0 hb.size
              refine hK.out _ _ ⟨((Below.cell hb (World.block_lt_of_cell? _ _ hHeld.1)).trans hHeld.1), ((Below.cell hb (World.block_lt_of_cell? _ _ hHeld.2.1)).trans hHeld.2.1), ((Below.cell hb (World.block_lt_of_cell? _ _ hHeld.2.2.1)).trans hHeld.2.2.1), (below_le hHeld.2.2.2 hb)⟩ (fun hHeld => ?_)
              clear hK K
              refine norm_ (a' := ?_) ?_ ?_
              rotate_left
              · show Act.put _ (some 10) _ = _
                simp only [Act.put, List.setIfInBounds_toArray, List.set_cons_zero, List.set_cons_succ, i64_w, i32_w]
                rfl
              refine one_ (i := 10) (N := some 29) #[true, true, true, true, true, true, true, true, true, true, true, true, true, true, true, false, true, false] rfl rfl (by kernel_rfl) (by decide) (fun K hK => ?_)
              refine step_append_grows rfl (.tmp 24) (.tmp 28) 71 rfl 4 i0 (.bool false) 1 1 Try.underlying71 hi0 hz0 hz1 hz2 rfl (by decide) (some ⟨w4_.heap.size, 0, none⟩) 0 0 [] rfl (fun h => by cases h) rfl (fun b hb j u hu => by simp at hu) ad1 f.length c1 (f.map Value.bool) rfl (by simp) (RowB.C_cells (Kd.C_below HR1.out (below_le HBW hHeld.2.2.2))) (by intro u hu; obtain ⟨y, _, rfl⟩ := List.mem_map.1 hu; rfl) (by have := HF.out; omega) (by unfold maxLen; have := HF.out; omega) (by have := HF.out; omega) ?_
              intro v29 w10_ hown hg
              have hb : Below w16_.heap.size w16_ w10_ := ⟨hg.os, hg.tape, hg.output, hg.size, fun k hk => hg.block k hk (by simp)⟩
              rw [Nat.zero_add] at hown
              obtain ⟨b1, d1, rfl, hd1, ge_b1, lt_b1, R_b1⟩ := RowD.of_owns (l := f) (fun _ => rfl) hown (by have := HF.out; omega) rfl
              have R_b1 := Aside0.mk R_b1
              have ge_b1 : w16_.heap.size ≤ b1 := ge_b1
              have ne_b0_b1 : b0 ≠ b1 := by omega
              have ne_gx_b1 : w5_.heap.size ≠ b1 := by omega
              have lo_b1 : w4.heap.size ≤ b1 := Nat.le_trans hHeld.2.2.2.size (by first | exact ge_b1 | exact Nat.le_refl _)
              have R_b0 := Aside0.mk (R_b0.out.below hb)
              have lt_b0 : b0 < w10_.heap.size := Nat.lt_of_lt_of_le lt_b0 hb.size
              have R_gx := Aside0.mk ((hb.block _ lt_gx).trans R_gx.out)
              have lt_gx : w5_.heap.size < w10_.heap.size := Nat.lt_of_lt_of_le lt_gx hb.size
              refine hK.out _ _ ⟨((Below.cell hb (World.block_lt_of_cell? _ _ hHeld.1)).trans hHeld.1), ((Below.cell hb (World.block_lt_of_cell? _ _ hHeld.2.1)).trans hHeld.2.1), ((Below.cell hb (World.block_lt_of_cell? _ _ hHeld.2.2.1)).trans hHeld.2.2.1), (below_le hHeld.2.2.2 hb)⟩ (fun hHeld => ?_)
              clear hK K
              refine norm_ (a' := ?_) ?_ ?_
              rotate_left
              · show Act.put _ (some 29) _ = _
                simp only [Act.put, List.setIfInBounds_toArray, List.set_cons_zero, List.set_cons_succ, i64_w, i32_w]
                rfl
              refine pure_ (i := 15) (N := some 34) (v := ?_) (a' := ?_) #[true, true, true, true, true, true, true, true, true, true, true, true, true, true, true, true, true, false] rfl rfl (by kernel_rfl) (fun _ _ _ h => h) (Or.inl ⟨by rfl, ?_⟩) ?_ ?_
              rotate_left
              · intro w'
                go_simp
                with_reducible rfl
              rotate_left
              · simp only [Act.put, List.setIfInBounds_toArray, List.set_cons_zero, List.set_cons_succ, i64_w, i32_w]
                rfl
              exact norm_ (by simp only [putAll, Act.put, List.setIfInBounds_toArray, List.set_cons_zero, List.set_cons_succ]) (hCont (b0, d0, w4_.heap.size, b1, d1, w5_.heap.size) _ ⟨R_b0.out, R_b1.out, R_gx.out, hd0, hd1, ne_b0_b1, ne_b0_gx, (Ne.symm ne_gx_b1), lo_b0, lo_b1, lo_gx, hHeld⟩)
          · skip
            refine value_ (w1 := ?_) (v := ?_) (by rfl) rfl ?_ ?_
            rotate_left 2
            · go_simp
              constructor
              · rfl
              · rfl
            have hb : Below w4_.heap.size w4_ (w4_.alloc (.cells #[.slice none 0 0, .slice none 0 0, .bool false] 73)) := below_alloc (Below.refl _ _) _
            have hnew : (w4_.alloc (.cells #[.slice none 0 0, .slice none 0 0, .bool false] 73)).heap[w4_.heap.size]? = some (.cells #[.slice none 0 0, .slice none 0 0, .bool false] 73) := heap_alloc_new w4_ (.cells #[.slice none 0 0, .slice none 0 0, .bool false] 73)
            have hlt : w4_.heap.size < (w4_.alloc (.cells #[.slice none 0 0, .slice none 0 0, .bool false] 73)).heap.size := by simp
            obtain ⟨w16_, hw_⟩ : ∃ w, w = w4_.alloc (.cells #[.slice none 0 0, .slice none 0 0, .bool false] 73) := ⟨_, rfl⟩
            rw [← hw_] at hb hnew hlt ⊢
            clear hw_
            have R_gx := Aside0.mk hnew
            have ne_b0_gx : b0 ≠ w4_.heap.size := by omega
            have lo_gx : w4.heap.size ≤ w4_.heap.size := Nat.le_trans hHeld.2.2.2.size (by first | exact ge_gx | exact Nat.le_refl _)
            have lt_gx : w4_.heap.size < w16_.heap.size := hlt
            have R_b0 := Aside0.mk (R_b0.out.below hb)
            have lt_b0 : b0 < w16_.heap.size := Nat.lt_of_lt_of_le lt_b0 hb.size
            refine hK.out _ _ ⟨((Below.cell hb (World.block_lt_of_cell? _ _ hHeld.1)).trans hHeld.1), ((Below.cell hb (World.block_lt_of_cell? _ _ hHeld.2.1)).trans hHeld.2.1), ((Below.cell hb (World.block_lt_of_cell? _ _ hHeld.2.2.1)).trans hHeld.2.2.1), (below_le hHeld.2.2.2 hb)⟩ (fun hHeld => ?_)
            clear hK K
            refine norm_ (a' := ?_) ?_ ?_
            rotate_left
            · show Act.put _ (some 10) _ = _
              simp only [Act.put, List.setIfInBounds_toArray, List.set_cons_zero, List.set_cons_succ, i64_w, i32_w]
              rfl
            refine one_ (i := 5) (N := some 24) #[true, true, true, true, true, true, true, true, true, true, false, true, true, true, true, false, true, false] rfl rfl (by kernel_rfl) (by decide) (fun K hK => ?_)
            refine value_ (w1 := ?_) (v := ?_) (by rfl) rfl ?_ ?_
            rotate_left 2
            · go_simp
              constructor
              · rfl
              · rfl
            have hb : Below w16_.heap.size w16_ (w16_.alloc (.cells #[] 4)) := below_alloc (Below.refl _ _) _
            have hnew : (w16_.alloc (.cells #[] 4)).heap[w16_.heap.size]? = some (.cells #[] 4) := heap_alloc_new w16_ (.cells #[] 4)
            have hlt : w16_.heap.size < (w16_.alloc (.cells #[] 4)).heap.size := by simp
            obtain ⟨w5_, hw_⟩ : ∃ w, w = w16_.alloc (.cells #[] 4) := ⟨_, rfl⟩
            rw [← hw_] at hb hnew hlt ⊢
            clear hw_
            have R_b0 := Aside0.mk (R_b0.out.below hb)
            have lt_b0 : b0 < w5_.heap.size := Nat.lt_of_lt_of_le lt_b0 hb.size
            have R_gx := Aside0.mk ((hb.block _ lt_gx).trans R_gx.out)
            have lt_gx : w4_.heap.size < w5_.heap.size := Nat.lt_of_lt_of_le lt_gx hb.size
            refine hK.out _ _ ⟨((Below.cell hb (World.block_lt_of_cell? _ _ hHeld.1)).trans hHeld.1), ((Below.cell hb (World.block_lt_of_cell? _ _ hHeld.2.1)).trans hHeld.2.1), ((Below.cell hb (World.block_lt_of_cell? _ _ hHeld.2.2.1)).trans hHeld.2.2.1), (below_le hHeld.2.2.2 hb)⟩ (fun hHeld => ?_)
            clear hK K
            refine norm_ (a' := ?_) ?_ ?_
            rotate_left
            · show Act.put _ (some 24) _ = _
              simp only [Act.put, List.setIfInBounds_toArray, List.set_cons_zero, List.set_cons_succ, i64_w, i32_w]
              rfl
            refine one_ (i := 10) (N := some 29) #[true, true, true, true, true, true, true, true, true, true, true, true, true, true, true, false, true, false] rfl rfl (by kernel_rfl) (by decide) (fun K hK => ?_)
            refine step_append_grows rfl (.tmp 24) (.tmp 28) 71 rfl 4 i0 (.bool false) 1 1 Try.underlying71 hi0 hz0 hz1 hz2 rfl (by decide) (some ⟨w16_.heap.size, 0, none⟩) 0 0 [] rfl (fun h => by cases h) rfl (fun b hb j u hu => by simp at hu) ad1 f.length c1 (f.map Value.bool) rfl (by simp) (RowB.C_cells (Kd.C_below HR1.out (below_le HBW hHeld.2.2.2))) (by intro u hu; obtain ⟨y, _, rfl⟩ := List.mem_map.1 hu; rfl) (by have := HF.out; omega) (by unfold maxLen; have := HF.out; omega) (by have := HF.out; omega) ?_
            intro v29 w10_ hown hg
            have hb : Below w5_.heap.size w5_ w10_ := ⟨hg.os, hg.tape, hg.output, hg.size, fun k hk => hg.block k hk (by simp)⟩
            rw [Nat.zero_add] at hown
            obtain ⟨b1, d1, rfl, hd1, ge_b1, lt_b1, R_b1⟩ := RowD.of_owns (l := f) (fun _ => rfl) hown (by have := HF.out; omega) rfl
            have R_b1 := Aside0.mk R_b1
            have ge_b1 : w5_.heap.size ≤ b1 := ge_b1
            have ne_b0_b1 : b0 ≠ b1 := by omega
            have ne_gx_b1 : w4_.heap.size ≠ b1 := by omega
            have lo_b1 : w4.heap.size ≤ b1 := Nat.le_trans hHeld.2.2.2.size (by first | exact ge_b1 | exact Nat.le_refl _)
            have R_b0 := Aside0.mk (R_b0.out.below hb)
            have lt_b0 : b0 < w10_.heap.size := Nat.lt_of_lt_of_le lt_b0 hb.size
            have R_gx := Aside0.mk ((hb.block _ lt_gx).trans R_gx.out)
            have lt_gx : w4_.heap.size < w10_.heap.size := Nat.lt_of_lt_of_le lt_gx hb.size
            refine hK.out _ _ ⟨((Below.cell hb (World.block_lt_of_cell? _ _ hHeld.1)).trans hHeld.1), ((Below.cell hb (World.block_lt_of_cell? _ _ hHeld.2.1)).trans hHeld.2.1), ((Below.cell hb (World.block_lt_of_cell? _ _ hHeld.2.2.1)).trans hHeld.2.2.1), (below_le hHeld.2.2.2 hb)⟩ (fun hHeld => ?_)
            clear hK K
            refine norm_ (a' := ?_) ?_ ?_
            rotate_left
            · show Act.put _ (some 29) _ = _
              simp only [Act.put, List.setIfInBounds_toArray, List.set_cons_zero, List.set_cons_succ, i64_w, i32_w]
              rfl
            refine pure_ (i := 15) (N := some 34) (v := ?_) (a' := ?_) #[true, true, true, true, true, true, true, true, true, true, true, true, true, true, true, true, true, false] rfl rfl (by kernel_rfl) (fun _ _ _ h => h) (Or.inl ⟨by rfl, ?_⟩) ?_ ?_
            rotate_left
            · intro w'
              go_simp
              with_reducible rfl
            rotate_left
            · simp only [Act.put, List.setIfInBounds_toArray, List.set_cons_zero, List.set_cons_succ, i64_w, i32_w]
              rfl
            exact norm_ (by simp only [putAll, Act.put, List.setIfInBounds_toArray, List.set_cons_zero, List.set_cons_succ]) (hCont (b0, d0, w16_.heap.size, b1, d1, w4_.heap.size) _ ⟨R_b0.out, R_b1.out, R_gx.out, hd0, hd1, ne_b0_b1, ne_b0_gx, (Ne.symm ne_gx_b1), lo_b0, lo_b1, lo_gx, hHeld⟩)
        · skip
          refine value_ (w1 := ?_) (v := ?_) (by rfl) rfl ?_ ?_
          rotate_left 2
          · go_simp
            constructor
            · rfl
            · rfl
          have hb : Below w4.drew.heap.size w4.drew ((w4.alloc (.cells #[] 4)).drew) := below_alloc (Below.refl _ _) _
          have hnew : ((w4.alloc (.cells #[] 4)).drew).heap[w4.heap.size]? = some (.cells #[] 4) := heap_alloc_new w4.drew (.cells #[] 4)
          have hlt : w4.heap.size < ((w4.alloc (.cells #[] 4)).drew).heap.size := by simp
          obtain ⟨w5_, hw_⟩ : ∃ w, w = (w4.alloc (.cells #[] 4)).drew := ⟨_, rfl⟩
          rw [← hw_] at hb hnew hlt ⊢
          clear hw_
          refine hK.out _ _ ⟨((Below.cell hb (World.block_lt_of_cell? _ _ hHeld.1)).trans hHeld.1), ((Below.cell hb (World.block_lt_of_cell? _ _ hHeld.2.1)).trans hHeld.2.1), ((Below.cell hb (World.block_lt_of_cell? _ _ hHeld.2.2.1)).trans hHeld.2.2.1), (below_le hHeld.2.2.2 hb)⟩ (fun hHeld => ?_)
          clear hK K
          refine norm_ (a' := ?_) ?_ ?_
          rotate_left
          · show Act.put _ (some 24) _ = _
            simp only [Act.put, List.setIfInBounds_toArray, List.set_cons_zero, List.set_cons_succ, i64_w, i32_w]
            rfl
          refine two_ (i := 4) (j := 16) (Ni := some 23) (Nj := some 10) #[true, true, true, true, true, true, true, true, true, true, false, true, true, true, true, false, false, false] #[true, true, true, true, false, true, true, true, true, true, false, true, true, true, true, false, true, false] rfl rfl rfl rfl (by kernel_rfl) (by decide) (by decide) (fun K hK => ?_) (fun K hK => ?_)
          · skip
            refine goes_ Try.func100 (by kernel_rfl) rfl #[.slice (some ad0) c.length c0] (by rfl) rfl rfl (by simp only [List.map_toArray, List.map_cons, List.map_nil]; rfl) ?_
            with_reducible refine (CL.out _ (below_le HBW hHeld.2.2.2)).mono ?_
            rintro e w4_ ⟨v23, rfl, hR, hb⟩
            refine ⟨_, rfl, ?_⟩
            obtain ⟨b0, d0, rfl, hd0, ge_b0, lt_b0, R_b0⟩ := RowD.of_R hR (by have := HC.out; omega)
            have R_b0 := Aside0.mk R_b0
            have ge_b0 : w5_.heap.size ≤ b0 := ge_b0
            have lo_b0 : w4.heap.size ≤ b0 := Nat.le_trans hHeld.2.2.2.size (by first | exact ge_b0 | exact Nat.le_refl _)
            refine hK.out _ _ ⟨((Below.cell hb (World.block_lt_of_cell? _ _ hHeld.1)).trans hHeld.1), ((Below.cell hb (World.block_lt_of_cell? _ _ hHeld.2.1)).trans hHeld.2.1), ((Below.cell hb (World.block_lt_of_cell? _ _ hHeld.2.2.1)).trans hHeld.2.2.1), (below_le hHeld.2.2.2 hb)⟩ (fun hHeld => ?_)
            clear hK K
            refine norm_ (a' := ?_) ?_ ?_
            rotate_left
            · show Act.put _ (some 23) _ = _
              simp only [Act.put, List.setIfInBounds_toArray, List.set_cons_zero, List.set_cons_succ, i64_w, i32_w]
              rfl
            refine two_ (i := 10) (j := 16) (Ni := some 29) (Nj := some 10) #[true, true, true, true, true, true, true, true, true, true, true, true, true, true, true, false, false, false] #[true, true, true, true, true, true, true, true, true, true, false, true, true, true, true, false, true, false] rfl rfl rfl rfl (by kernel_rfl) (by decide) (by decide) (fun K hK => ?_) (fun K hK => ?_)
            · skip
              refine step_append_grows rfl (.tmp 24) (.tmp 28) 71 rfl 4 i0 (.bool false) 1 1 Try.underlying71 hi0 hz0 hz1 hz2 rfl (by decide) (some ⟨w4.heap.size, 0, none⟩) 0 0 [] rfl (fun h => by cases h) rfl (fun b hb j u hu => by simp at hu) ad1 f.length c1 (f.map Value.bool) rfl (by simp) (RowB.C_cells (Kd.C_below HR1.out (below_le HBW hHeld.2.2.2))) (by intro u hu; obtain ⟨y, _, rfl⟩ := List.mem_map.1 hu; rfl) (by have := HF.out; omega) (by unfold maxLen; have := HF.out; omega) (by have := HF.out; omega) ?_
              intro v29 w10_ hown hg
              have hb : Below w4_.heap.size w4_ w10_ := ⟨hg.os, hg.tape, hg.output, hg.size, fun k hk => hg.block k hk (by simp)⟩
              rw [Nat.zero_add] at hown
              obtain ⟨b1, d1, rfl, hd1, ge_b1, lt_b1, R_b1⟩ := RowD.of_owns (l := f) (fun _ => rfl) hown (by have := HF.out; omega) rfl
              have R_b1 := Aside0.mk R_b1
              have ge_b1 : w4_.heap.size ≤ b1 := ge_b1
              have ne_b0_b1 : b0 ≠ b1 := by omega
              have lo_b1 : w4.heap.size ≤ b1 := Nat.le_trans hHeld.2.2.2.size (by first | exact ge_b1 | exact Nat.le_refl _)
              have R_b0 := Aside0.mk (R_b0.out.below hb)
              have lt_b0 : b0 < w10_.heap.size := Nat.lt_of_lt_of_le lt_b0 hb.size
              refine hK.out _ _ ⟨((Below.cell hb (World.block_lt_of_cell? _ _ hHeld.1)).trans hHeld.1), ((Below.cell hb (World.block_lt_of_cell? _ _ hHeld.2.1)).trans hHeld.2.1), ((Below.cell hb (World.block_lt_of_cell? _ _ hHeld.2.2.1)).trans hHeld.2.2.1), (below_le hHeld.2.2.2 hb)⟩ (fun hHeld => ?_)
              clear hK K
              refine norm_ (a' := ?_) ?_ ?_
              rotate_left
              · show Act.put _ (some 29) _ = _
                simp only [Act.put, List.setIfInBounds_toArray, List.set_cons_zero, List.set_cons_succ, i64_w, i32_w]
                rfl
              refine pure_ (i := 15) (N := some 34) (v := ?_) (a' := ?_) #[true, true, true, true, true, true, true, true, true, true, true, true, true, true, true, true, false, false] rfl rfl (by kernel_rfl) (fun _ _ _ h => h) (Or.inl ⟨by rfl, ?_⟩) ?_ ?_
              rotate_left
              · intro w'
                go_simp
                with_reducible rfl
              rotate_left
              · simp only [Act.put, List.setIfInBounds_toArray, List.set_cons_zero, List.set_cons_succ, i64_w, i32_w]
                rfl
              refine one_ (i := 16) (N := some 10) #[true, true, true, true, true, true, true, true, true, true, true, true, true, true, true, true, true, false] rfl rfl (by kernel_rfl) (by decide) (fun K hK => ?_)
              refine value_ (w1 := ?_) (v := ?_) (by rfl) rfl ?_ ?_
              rotate_left 2
              · go_simp
                constructor
                · rfl
                · rfl
              have hb : Below w10_.heap.size w10_ (w10_.alloc (.cells #[.slice none 0 0, .slice none 0 0, .bool false] 73)) := below_alloc (Below.refl _ _) _
              have hnew : (w10_.alloc (.cells #[.slice none 0 0, .slice none 0 0, .bool false] 73)).heap[w10_.heap.size]? = some (.cells #[.slice none 0 0, .slice none 0 0, .bool false] 73) := heap_alloc_new w10_ (.cells #[.slice none 0 0, .slice none 0 0, .bool false] 73)
              have hlt : w10_.heap.size < (w10_.alloc (.cells #[.slice none 0 0, .slice none 0 0, .bool false] 73)).heap.size := by simp
              obtain ⟨w16_, hw_⟩ : ∃ w, w = w10_.alloc (.cells #[.slice none 0 0, .slice none 0 0, .bool false] 73) := ⟨_, rfl⟩
              rw [← hw_] at hb hnew hlt ⊢
              clear hw_
              have R_gx := Aside0.mk hnew
              have ne_b0_gx : b0 ≠ w10_.heap.size := by omega
              have ne_b1_gx : b1 ≠ w10_.heap.size := by omega
              have lo_gx : w4.heap.size ≤ w10_.heap.size := Nat.le_trans hHeld.2.2.2.size (by first | exact ge_gx | exact Nat.le_refl _)
              have lt_gx : w10_.heap.size < w16_.heap.size := hlt
              have R_b0 := Aside0.mk (R_b0.out.below hb)
              have lt_b0 : b0 < w16_.heap.size := Nat.lt_of_lt_of_le lt_b0 hb.size
              have R_b1 := Aside0.mk (R_b1.out.below hb)
              have lt_b1 : b1 < w16_.heap.size := Nat.lt_of_lt_of_le lt_b1 hb.size
              refine hK.out _ _ ⟨((Below.cell hb (World.block_lt_of_cell? _ _ hHeld.1)).trans hHeld.1), ((Below.cell hb (World.block_lt_of_cell? _ _ hHeld.2.1)).trans hHeld.2.1), ((Below.cell hb (World.block_lt_of_cell? _ _ hHeld.2.2.1)).trans hHeld.2.2.1), (below_le hHeld.2.2.2 hb)⟩ (fun hHeld => ?_)
              clear hK K
              refine norm_ (a' := ?_) ?_ ?_
              rotate_left
              · show Act.put _ (some 10) _ = _
                simp only [Act.put, List.setIfInBounds_toArray, List.set_cons_zero, List.set_cons_succ, i64_w, i32_w]
                rfl
              exact norm_ (by simp only [putAll, Act.put, List.setIfInBounds_toArray, List.set_cons_zero, List.set_cons_succ]) (hCont (b0, d0, w4.heap.size, b1, d1, w10_.heap.size) _ ⟨R_b0.out, R_b1.out, R_gx.out, hd0, hd1, ne_b0_b1, ne_b0_gx, ne_b1_gx, lo_b0, lo_b1, lo_gx, hHeld⟩)
            · skip
              refine value_ (w1 := ?_) (v := ?_) (by rfl) rfl ?_ ?_
              rotate_left 2
              · go_simp
                constructor
                · rfl
                · rfl
              have hb : Below w4_.heap.size w4_ (w4_.alloc (.cells #[.slice none 0 0, .slice none 0 0, .bool false] 73)) := below_alloc (Below.refl _ _) _
              have hnew : (w4_.alloc (.cells #[.slice none 0 0, .slice none 0 0, .bool false] 73)).heap[w4_.heap.size]? = some (.cells #[.slice none 0 0, .slice none 0 0, .bool false] 73) := heap_alloc_new w4_ (.cells #[.slice none 0 0, .slice none 0 0, .bool false] 73)
              have hlt : w4_.heap.size < (w4_.alloc (.cells #[.slice none 0 0, .slice none 0 0, .bool false] 73)).heap.size := by simp
              obtain ⟨w16_, hw_⟩ : ∃ w, w = w4_.alloc (.cells #[.slice none 0 0, .slice none 0 0, .bool false] 73) := ⟨_, rfl⟩
              rw [← hw_] at hb hnew hlt ⊢
              clear hw_
              have R_gx := Aside0.mk hnew
              have ne_b0_gx : b0 ≠ w4_.heap.size := by omega
              have lo_gx : w4.heap.size ≤ w4_.heap.size := Nat.le_trans hHeld.2.2.2.size (by first | exact ge_gx | exact Nat.le_refl _)
              have lt_gx : w4_.heap.size < w16_.heap.size := hlt
              have R_b0 := Aside0.mk (R_b0.out.below hb)
              have lt_b0 : b0 < w16_.heap.size := Nat.lt_of_lt_of_le lt_b0 hb.size
              refine hK.out _ _ ⟨((Below.cell hb (World.block_lt_of_cell? _ _ hHeld.1)).trans hHeld.1), ((Below.cell hb (World.block_lt_of_cell? _ _ hHeld.2.1)).trans hHeld.2.1), ((Below.cell hb (World.block_lt_of_cell? _ _ hHeld.2.2.1)).trans hHeld.2.2.1), (below_le hHeld.2.2.2 hb)⟩ (fun hHeld => ?_)
              clear hK K
              refine norm_ (a' := ?_) ?_ ?_
              rotate_left
              · show Act.put _ (some 10) _ = _
                simp only [Act.put, List.setIfInBounds_toArray, List.set_cons_zero, List.set_cons_succ, i64_w, i32_w]
                rfl
              refine one_ (i := 10) (N := some 29) #[true, true, true, true, true, true, true, true, true, true, true, true, true, true, true, false, true, false] rfl rfl (by kernel_rfl) (by decide) (fun K hK => ?_)
              refine step_append_grows rfl (.tmp 24) (.tmp 28) 71 rfl 4 i0 (.bool false) 1 1 Try.underlying71 hi0 hz0 hz1 hz2 rfl (by decide) (some ⟨w4.heap.size, 0, none⟩) 0 0 [] rfl (fun h => by cases h) rfl (fun b hb j u hu => by simp at hu) ad1 f.length c1 (f.map Value.bool) rfl (by simp) (RowB.C_cells (Kd.C_below HR1.out (below_le HBW hHeld.2.2.2))) (by intro u hu; obtain ⟨y, _, rfl⟩ := List.mem_map.1 hu; rfl) (by have := HF.out; omega) (by unfold maxLen; have := HF.out; omega) (by have := HF.out; omega) ?_
              intro v29 w10_ hown hg
              have hb : Below w16_.heap.size w16_ w10_ := ⟨hg.os, hg.tape, hg.output, hg.size, fun k hk => hg.block k hk (by simp)⟩
              rw [Nat.zero_add] at hown
              obtain ⟨b1, d1, rfl, hd1, ge_b1, lt_b1, R_b1⟩ := RowD.of_owns (l := f) (fun _ => rfl) hown (by have := HF.out; omega) rfl
              have R_b1 := Aside0.mk R_b1
              have ge_b1 : w16_.heap.size ≤ b1 := ge_b1
              have ne_b0_b1 : b0 ≠ b1 := by omega
              have ne_gx_b1 : w4_.heap.size ≠ b1 := by omega
              have lo_b1 : w4.heap.size ≤ b1 := Nat.le_trans hHeld.2.2.2.size (by first | exact ge_b1 | exact Nat.le_refl _)
              have R_b0 := Aside0.mk (R_b0.out.below hb)
              have lt_b0 : b0 < w10_.heap.size := Nat.lt_of_lt_of_le lt_b0 hb.size
              have R_gx := Aside0.mk ((hb.block _ lt_gx).trans R_gx.out)
              have lt_gx : w4_.heap.size < w10_.heap.size := Nat.lt_of_lt_of_le lt_gx hb.size
              refine hK.out _ _ ⟨((Below.cell hb (World.block_lt_of_cell? _ _ hHeld.1)).trans hHeld.1), ((Below.cell hb (World.block_lt_of_cell? _ _ hHeld.2.1)).trans hHeld.2.1), ((Below.cell hb (World.block_lt_of_cell? _ _ hHeld.2.2.1)).trans hHeld.2.2.1), (below_le hHeld.2.2.2 hb)⟩ (fun hHeld => ?_)
              clear hK K
              refine norm_ (a' := ?_) ?_ ?_
              rotate_left
              · show Act.put _ (some 29) _ = _
                simp only [Act.put, List.setIfInBounds_toArray, List.set_cons_zero, List.set_cons_succ, i64_w, i32_w]
                rfl
              refine pure_ (i := 15) (N := some 34) (v := ?_) (a' := ?_) #[true, true, true, true, true, true, true, true, true, true, true, true, true, true, true, true, true, false] rfl rfl (by kernel_rfl) (fun _ _ _ h => h) (Or.inl ⟨by rfl, ?_⟩) ?_ ?_
              rotate_left
              · intro w'
                go_simp
                with_reducible rfl
              rotate_left
              · simp only [Act.put, List.setIfInBounds_toArray, List.set_cons_zero, List.set_cons_succ, i64_w, i32_w]
                rfl
              exact norm_ (by simp only [putAll, Act.put, List.setIfInBounds_toArray, List.set_cons_zero, List.set_cons_succ]) (hCont (b0, d0, w4.heap.size, b1, d1, w4_.heap.size) _ ⟨R_b0.out, R_b1.out, R_gx.out, hd0, hd1, ne_b0_b1, ne_b0_gx, (Ne.symm ne_gx_b1), lo_b0, lo_b1, lo_gx, hHeld⟩)
          · skip
            refine value_ (w1 := ?_) (v := ?_) (by rfl) rfl ?_ ?_
            rotate_left 2
            · go_simp
              constructor
              · rfl
              · rfl
            have hb : Below w5_.heap.size w5_ (w5_.alloc (.cells #[.slice none 0 0, .slice none 0 0, .bool false] 73)) := below_alloc (Below.refl _ _) _
            have hnew : (w5_.alloc (.cells #[.slice none 0 0, .slice none 0 0, .bool false] 73)).heap[w5_.heap.size]? = some (.cells #[.slice none 0 0, .slice none 0 0, .bool false] 73) := heap_alloc_new w5_ (.cells #[.slice none 0 0, .slice none 0 0, .bool false] 73)
            have hlt : w5_.heap.size < (w5_.alloc (.cells #[.slice none 0 0, .slice none 0 0, .bool false] 73)).heap.size := by simp
            obtain ⟨w16_, hw_⟩ : ∃ w, w = w5_.alloc (.cells #[.slice none 0 0, .slice none 0 0, .bool false] 73) := ⟨_, rfl⟩
            rw [← hw_] at hb hnew hlt ⊢
            clear hw_
            have R_gx := Aside0.mk hnew
            have lo_gx : w4.heap.size ≤ w5_.heap.size := Nat.le_trans hHeld.2.2.2.size (by first | exact ge_gx | exact Nat.le_refl _)
            have lt_gx : w5_.heap.size < w16_.heap.size := hlt
            refine hK.out _ _ ⟨((Below.cell hb (World.block_lt_of_cell? _ _ hHeld.1)).trans hHeld.1), ((Below.cell hb (World.block_lt_of_cell? _ _ hHeld.2.1)).trans hHeld.2.1), ((Below.cell hb (World.block_lt_of_cell? _ _ hHeld.2.2.1)).trans hHeld.2.2.1), (below_le hHeld.2.2.2 hb)⟩ (fun hHeld => ?_)
            clear hK K
            refine norm_ (a' := ?_) ?_ ?_
            rotate_left
            · show Act.put _ (some 10) _ = _
              simp only [Act.put, List.setIfInBounds_toArray, List.set_cons_zero, List.set_cons_succ, i64_w, i32_w]
              rfl
            refine one_ (i := 4) (N := some 23) #[true, true, true, true, true, true, true, true, true, true, false, true, true, true, true, false, true, false] rfl rfl (by kernel_rfl) (by decide) (fun K hK => ?_)
            refine goes_ Try.func100 (by kernel_rfl) rfl #[.slice (some ad0) c.length c0] (by rfl) rfl rfl (by simp only [List.map_toArray, List.map_cons, List.map_nil]; rfl) ?_
            with_reducible refine (CL.out _ (below_le HBW hHeld.2.2.2)).mono ?_
            rintro e w4_ ⟨v23, rfl, hR, hb⟩
            refine ⟨_, rfl, ?_⟩
            obtain ⟨b0, d0, rfl, hd0, ge_b0, lt_b0, R_b0⟩ := RowD.of_R hR (by have := HC.out; omega)
            have R_b0 := Aside0.mk R_b0
            have ge_b0 : w16_.heap.size ≤ b0 := ge_b0
            have ne_gx_b0 : w5_.heap.size ≠ b0 := by omega
            have lo_b0 : w4.heap.size ≤ b0 := Nat.le_trans hHeld.2.2.2.size (by first | exact ge_b0 | exact Nat.le_refl _)
            have R_gx := Aside0.mk ((hb.block _ lt_gx).trans R_gx.out)
            have lt_gx : w5_.heap.size < w4_.heap.size := Nat.lt_of_lt_of_le lt_gx hb.size
            refine hK.out _ _ ⟨((Below.cell hb (World.block_lt_of_cell? _ _ hHeld.1)).trans hHeld.1), ((Below.cell hb (World.block_lt_of_cell? _ _ hHeld.2.1)).trans hHeld.2.1), ((Below.cell hb (World.block_lt_of_cell? _ _ hHeld.2.2.1)).trans hHeld.2.2.1), (below_le hHeld.2.2.2 hb)⟩ (fun hHeld => ?_)
            clear hK K
            refine norm_ (a' := ?_) ?_ ?_
            rotate_left
            · show Act.put _ (some 23) _ = _
              simp only [Act.put, List.setIfInBounds_toArray, List.set_cons_zero, List.set_cons_succ, i64_w, i32_w]
              rfl
            refine one_ (i := 10) (N := some 29) #[true, true, true, true, true, true, true, true, true, true, true, true, true, true, true, false, true, false] rfl rfl (by kernel_rfl) (by decide) (fun K hK => ?_)
            refine step_append_grows rfl (.tmp 24) (.tmp 28) 71 rfl 4 i0 (.bool false) 1 1 Try.underlying71 hi0 hz0 hz1 hz2 rfl (by decide) (some ⟨w4.heap.size, 0, none⟩) 0 0 [] rfl (fun h => by cases h) rfl (fun b hb j u hu => by simp at hu) ad1 f.length c1 (f.map Value.bool) rfl (by simp) (RowB.C_cells (Kd.C_below HR1.out (below_le HBW hHeld.2.2.2))) (by intro u hu; obtain ⟨y, _, rfl⟩ := List.mem_map.1 hu; rfl) (by have := HF.out; omega) (by unfold maxLen; have := HF.out; omega) (by have := HF.out; omega) ?_
            intro v29 w10_ hown hg
            have hb : Below w4_.heap.size w4_ w10_ := ⟨hg.os, hg.tape, hg.output, hg.size, fun k hk => hg.block k hk (by simp)⟩
            rw [Nat.zero_add] at hown
            obtain ⟨b1, d1, rfl, hd1, ge_b1, lt_b1, R_b1⟩ := RowD.of_owns (l := f) (fun _ => rfl) hown (by have := HF.out; omega) rfl
            have R_b1 := Aside0.mk R_b1
            have ge_b1 : w4_.heap.size ≤ b1 := ge_b1
            have ne_gx_b1 : w5_.heap.size ≠ b1 := by omega
            have ne_b0_b1 : b0 ≠ b1 := by omega
            have lo_b1 : w4.heap.size ≤ b1 := Nat.le_trans hHeld.2.2.2.size (by first | exact ge_b1 | exact Nat.le_refl _)
            have R_gx := Aside0.mk ((hb.block _ lt_gx).trans R_gx.out)
            have lt_gx : w5_.heap.size < w10_.heap.size := Nat.lt_of_lt_of_le lt_gx hb.size
            have R_b0 := Aside0.mk (R_b0.out.below hb)
            have lt_b0 : b0 < w10_.heap.size := Nat.lt_of_lt_of_le lt_b0 hb.size
            refine hK.out _ _ ⟨((Below.cell hb (World.block_lt_of_cell? _ _ hHeld.1)).trans hHeld.1), ((Below.cell hb (World.block_lt_of_cell? _ _ hHeld.2.1)).trans hHeld.2.1), ((Below.cell hb (World.block_lt_of_cell? _ _ hHeld.2.2.1)).trans hHeld.2.2.1), (below_le hHeld.2.2.2 hb)⟩ (fun hHeld => ?_)
            clear hK K
            refine norm_ (a' := ?_) ?_ ?_
            rotate_left
            · show Act.put _ (some 29) _ = _
              simp only [Act.put, List.setIfInBounds_toArray, List.set_cons_zero, List.set_cons_succ, i64_w, i32_w]
              rfl
            refine pure_ (i := 15) (N := some 34) (v := ?_) (a' := ?_) #[true, true, true, true, true, true, true, true, true, true, true, true, true, true, true, true, true, false] rfl rfl (by kernel_rfl) (fun _ _ _ h => h) (Or.inl ⟨by rfl, ?_⟩) ?_ ?_
            rotate_left
            · intro w'
              go_simp
              with_reducible rfl
            rotate_left
            · simp only [Act.put, List.setIfInBounds_toArray, List.set_cons_zero, List.set_cons_succ, i64_w, i32_w]
              rfl
            exact norm_ (by simp only [putAll, Act.put, List.setIfInBounds_toArray, List.set_cons_zero, List.set_cons_succ]) (hCont (b0, d0, w4.heap.size, b1, d1, w5_.heap.size) _ ⟨R_b0.out, R_b1.out, R_gx.out, hd0, hd1, ne_b0_b1, (Ne.symm ne_gx_b0), (Ne.symm ne_gx_b1), lo_b0, lo_b1, lo_gx, hHeld⟩)
        · skip
          refine value_ (w1 := ?_) (v := ?_) (by rfl) rfl ?_ ?_
          rotate_left 2
          · go_simp
            constructor
            · rfl
            · rfl
          have hb : Below w4.drew.heap.size w4.drew ((w4.alloc (.cells #[.slice none 0 0, .slice none 0 0, .bool false] 73)).drew) := below_alloc (Below.refl _ _) _
          have hnew : ((w4.alloc (.cells #[.slice none 0 0, .slice none 0 0, .bool false] 73)).drew).heap[w4.heap.size]? = some (.cells #[.slice none 0 0, .slice none 0 0, .bool false] 73) := heap_alloc_new w4.drew (.cells #[.slice none 0 0, .slice none 0 0, .bool false] 73)
          have hlt : w4.heap.size < ((w4.alloc (.cells #[.slice none 0 0, .slice none 0 0, .bool false] 73)).drew).heap.size := by simp
          obtain ⟨w16_, hw_⟩ : ∃ w, w = (w4.alloc (.cells #[.slice none 0 0, .slice none 0 0, .bool false] 73)).drew := ⟨_, rfl⟩
          rw [← hw_] at hb hnew hlt ⊢
          clear hw_
          have R_gx := Aside0.mk hnew
          have lo_gx : w4.heap.size ≤ w4.heap.size := Nat.le_trans hHeld.2.2.2.size (by first | exact ge_gx | exact Nat.le_refl _)
          have lt_gx : w4.heap.size < w16_.heap.size := hlt
          refine hK.out _ _ ⟨((Below.cell hb (World.block_lt_of_cell? _ _ hHeld.1)).trans hHeld.1), ((Below.cell hb (World.block_lt_of_cell? _ _ hHeld.2.1)).trans hHeld.2.1), ((Below.cell hb (World.block_lt_of_cell? _ _ hHeld.2.2.1)).trans hHeld.2.2.1), (below_le hHeld.2.2.2 hb)⟩ (fun hHeld => ?_)
          clear hK K
          refine norm_ (a' := ?_) ?_ ?_
          rotate_left
          · show Act.put _ (some 10) _ = _
            simp only [Act.put, List.setIfInBounds_toArray, List.set_cons_zero, List.set_cons_succ, i64_w, i32_w]
            rfl
          refine two_ (i := 4) (j := 5) (Ni := some 23) (Nj := some 24) #[true, true, true, true, true, false, true, true, true, true, false, true, true, true, true, false, true, false] #[true, true, true, true, false, true, true, true, true, true, false, true, true, true, true, false, true, false] rfl rfl rfl rfl (by kernel_rfl) (by decide) (by decide) (fun K hK => ?_) (fun K hK => ?_)
          · skip
            refine goes_ Try.func100 (by kernel_rfl) rfl #[.slice (some ad0) c.length c0] (by rfl) rfl rfl (by simp only [List.map_toArray, List.map_cons, List.map_nil]; rfl) ?_
            with_reducible refine (CL.out _ (below_le HBW hHeld.2.2.2)).mono ?_
            rintro e w4_ ⟨v23, rfl, hR, hb⟩
            refine ⟨_, rfl, ?_⟩
            obtain ⟨b0, d0, rfl, hd0, ge_b0, lt_b0, R_b0⟩ := RowD.of_R hR (by have := HC.out; omega)
            have R_b0 := Aside0.mk R_b0
            have ge_b0 : w16_.heap.size ≤ b0 := ge_b0
            have ne_gx_b0 : w4.heap.size ≠ b0 := by omega
            have lo_b0 : w4.heap.size ≤ b0 := Nat.le_trans hHeld.2.2.2.size (by first | exact ge_b0 | exact Nat.le_refl _)
            have R_gx := Aside0.mk ((hb.block _ lt_gx).trans R_gx.out)
            have lt_gx : w4.heap.size < w4_.heap.size := Nat.lt_of_lt_of_le lt_gx hb.size
            refine hK.out _ _ ⟨((Below.cell hb (World.block_lt_of_cell? _ _ hHeld.1)).trans hHeld.1), ((Below.cell hb (World.block_lt_of_cell? _ _ hHeld.2.1)).trans hHeld.2.1), ((Below.cell hb (World.block_lt_of_cell? _ _ hHeld.2.2.1)).trans hHeld.2.2.1), (below_le hHeld.2.2.2 hb)⟩ (fun hHeld => ?_)
            clear hK K
            refine norm_ (a' := ?_) ?_ ?_
            rotate_left
            · show Act.put _ (some 23) _ = _
              simp only [Act.put, List.setIfInBounds_toArray, List.set_cons_zero, List.set_cons_succ, i64_w, i32_w]
              rfl
            refine one_ (i := 5) (N := some 24) #[true, true, true, true, true, true, true, true, true, true, false, true, true, true, true, false, true, false] rfl rfl (by kernel_rfl) (by decide) (fun K hK => ?_)
            refine value_ (w1 := ?_) (v := ?_) (by rfl) rfl ?_ ?_
            rotate_left 2
            · go_simp
              constructor
              · rfl
              · rfl
            have hb : Below w4_.heap.size w4_ (w4_.alloc (.cells #[] 4)) := below_alloc (Below.refl _ _) _
            have hnew : (w4_.alloc (.cells #[] 4)).heap[w4_.heap.size]? = some (.cells #[] 4) := heap_alloc_new w4_ (.cells #[] 4)
            have hlt : w4_.heap.size < (w4_.alloc (.cells #[] 4)).heap.size := by simp
            obtain ⟨w5_, hw_⟩ : ∃ w, w = w4_.alloc (.cells #[] 4) := ⟨_, rfl⟩
            rw [← hw_] at hb hnew hlt ⊢
            clear hw_
            have R_gx := Aside0.mk ((hb.block _ lt_gx).trans R_gx.out)
            have lt_gx : w4.heap.size < w5_.heap.size := Nat.lt_of_lt_of_le lt_gx hb.size
            have R_b0 := Aside0.mk (R_b0.out.below hb)
            have lt_b0 : b0 < w5_.heap.size := Nat.lt_of_lt_of_le lt_b0 hb.size
            refine hK.out _ _ ⟨((Below.cell hb (World.block_lt_of_cell? _ _ hHeld.1)).trans hHeld.1), ((Below.cell hb (World.block_lt_of_cell? _ _ hHeld.2.1)).trans hHeld.2.1), ((Below.cell hb (World.block_lt_of_cell? _ _ hHeld.2.2.1)).trans hHeld.2.2.1), (below_le hHeld.2.2.2 hb)⟩ (fun hHeld => ?_)
            clear hK K
            refine norm_ (a' := ?_) ?_ ?_
            rotate_left
            · show Act.put _ (some 24) _ = _
              simp only [Act.put, List.setIfInBounds_toArray, List.set_cons_zero, List.set_cons_succ, i64_w, i32_w]
              rfl
            refine one_ (i := 10) (N := some 29) #[true, true, true, true, true, true, true, true, true, true, true, true, true, true, true, false, true, false] rfl rfl (by kernel_rfl) (by decide) (fun K hK => ?_)
            refine step_append_grows rfl (.tmp 24) (.tmp 28) 71 rfl 4 i0 (.bool false) 1 1 Try.underlying71 hi0 hz0 hz1 hz2 rfl (by decide) (some ⟨w4_.heap.size, 0, none⟩) 0 0 [] rfl (fun h => by cases h) rfl (fun b hb j u hu => by simp at hu) ad1 f.length c1 (f.map Value.bool) rfl (by simp) (RowB.C_cells (Kd.C_below HR1.out (below_le HBW hHeld.2.2.2))) (by intro u hu; obtain ⟨y, _, rfl⟩ := List.mem_map.1 hu; rfl) (by have := HF.out; omega) (by unfold maxLen; have := HF.out; omega) (by have := HF.out; omega) ?_
            intro v29 w10_ hown hg
            have hb : Below w5_.heap.size w5_ w10_ := ⟨hg.os, hg.tape, hg.output, hg.size, fun k hk => hg.block k hk (by simp)⟩
            rw [Nat.zero_add] at hown
            obtain ⟨b1, d1, rfl, hd1, ge_b1, lt_b1, R_b1⟩ := RowD.of_owns (l := f) (fun _ => rfl) hown (by have := HF.out; omega) rfl
            have R_b1 := Aside0.mk R_b1
            have ge_b1 : w5_.heap.size ≤ b1 := ge_b1
            have ne_gx_b1 : w4.heap.size ≠ b1 := by omega
            have ne_b0_b1 : b0 ≠ b1 := by omega
            have lo_b1 : w4.heap.size ≤ b1 := Nat.le_trans hHeld.2.2.2.size (by first | exact ge_b1 | exact Nat.le_refl _)
            have R_gx := Aside0.mk ((hb.block _ lt_gx).trans R_gx.out)
            have lt_gx : w4.heap.size < w10_.heap.size := Nat.lt_of_lt_of_le lt_gx hb.size
            have R_b0 := Aside0.mk (R_b0.out.below hb)
            have lt_b0 : b0 < w10_.heap.size := Nat.lt_of_lt_of_le lt_b0 hb.size
            refine hK.out _ _ ⟨((Below.cell hb (World.block_lt_of_cell? _ _ hHeld.1)).trans hHeld.1), ((Below.cell hb (World.block_lt_of_cell? _ _ hHeld.2.1)).trans hHeld.2.1), ((Below.cell hb (World.block_lt_of_cell? _ _ hHeld.2.2.1)).trans hHeld.2.2.1), (below_le hHeld.2.2.2 hb)⟩ (fun hHeld => ?_)
            clear hK K
            refine norm_ (a' := ?_) ?_ ?_
            rotate_left
            · show Act.put _ (some 29) _ = _
              simp only [Act.put, List.setIfInBounds_toArray, List.set_cons_zero, List.set_cons_succ, i64_w, i32_w]
              rfl
            refine pure_ (i := 15) (N := some 34) (v := ?_) (a' := ?_) #[true, true, true, true, true, true, true, true, true, true, true, true, true, true, true, true, true, false] rfl rfl (by kernel_rfl) (fun _ _ _ h => h) (Or.inl ⟨by rfl, ?_⟩) ?_ ?_
            rotate_left
            · intro w'
              go_simp
              with_reducible rfl
            rotate_left
            · simp only [Act.put, List.setIfInBounds_toArray, List.set_cons_zero, List.set_cons_succ, i64_w, i32_w]
              rfl
            exact norm_ (by simp only [putAll, Act.put, List.setIfInBounds_toArray, List.set_cons_zero, List.set_cons_succ]) (hCont (b0, d0, w4_.heap.size, b1, d1, w4.heap.size) _ ⟨R_b0.out, R_b1.out, R_gx.out, hd0, hd1, ne_b0_b1, (Ne.symm ne_gx_b0), (Ne.symm ne_gx_b1), lo_b0, lo_b1, lo_gx, hHeld⟩)
          · skip
            refine value_ (w1 := ?_) (v := ?_) (by rfl) rfl ?_ ?_
            rotate_left 2
            · go_simp
              constructor
              · rfl
              · rfl
            have hb : Below w16_.heap.size w16_ (w16_.alloc (.cells #[] 4)) := below_alloc (Below.refl _ _) _
            have hnew : (w16_.alloc (.cells #[] 4)).heap[w16_.heap.size]? = some (.cells #[] 4) := heap_alloc_new w16_ (.cells #[] 4)
            have hlt : w16_.heap.size < (w16_.alloc (.cells #[] 4)).heap.size := by simp
            obtain ⟨w5_, hw_⟩ : ∃ w, w = w16_.alloc (.cells #[] 4) := ⟨_, rfl⟩
            rw [← hw_] at hb hnew hlt ⊢
            clear hw_
            have R_gx := Aside0.mk ((hb.block _ lt_gx).trans R_gx.out)
            have lt_gx : w4.heap.size < w5_.heap.size := Nat.lt_of_lt_of_le lt_gx hb.size
            refine hK.out _ _ ⟨((Below.cell hb (World.block_lt_of_cell? _ _ hHeld.1)).trans hHeld.1), ((Below.cell hb (World.block_lt_of_cell? _ _ hHeld.2.1)).trans hHeld.2.1), ((Below.cell hb (World.block_lt_of_cell? _ _ hHeld.2.2.1)).trans hHeld.2.2.1), (below_le hHeld.2.2.2 hb)⟩ (fun hHeld => ?_)
            clear hK K
            refine norm_ (a' := ?_) ?_ ?_
            rotate_left
            · show Act.put _ (some 24) _ = _
              simp only [Act.put, List.setIfInBounds_toArray, List.set_cons_zero, List.set_cons_succ, i64_w, i32_w]
              rfl
            refine one_ (i := 4) (N := some 23) #[true, true, true, true, true, true, true, true, true, true, false, true, true, true, true, false, true, false] rfl rfl (by kernel_rfl) (by decide) (fun K hK => ?_)
            refine goes_ Try.func100 (by kernel_rfl) rfl #[.slice (some ad0) c.length c0] (by rfl) rfl rfl (by simp only [List.map_toArray, List.map_cons, List.map_nil]; rfl) ?_
            with_reducible refine (CL.out _ (below_le HBW hHeld.2.2.2)).mono ?_
            rintro e w4_ ⟨v23, rfl, hR, hb⟩
            refine ⟨_, rfl, ?_⟩
            obtain ⟨b0, d0, rfl, hd0, ge_b0, lt_b0, R_b0⟩ := RowD.of_R hR (by have := HC.out; omega)
            have R_b0 := Aside0.mk R_b0
            have ge_b0 : w5_.heap.size ≤ b0 := ge_b0
            have ne_gx_b0 : w4.heap.size ≠ b0 := by omega
            have lo_b0 : w4.heap.size ≤ b0 := Nat.le_trans hHeld.2.2.2.size (by first | exact ge_b0 | exact Nat.le_refl _)
            have R_gx := Aside0.mk ((hb.block _ lt_gx).trans R_gx.out)
            have lt_gx : w4.heap.size < w4_.heap.size := Nat.lt_of_lt_of_le lt_gx hb.size
            refine hK.out _ _ ⟨((Below.cell hb (World.block_lt_of_cell? _ _ hHeld.1)).trans hHeld.1), ((Below.cell hb (World.block_lt_of_cell? _ _ hHeld.2.1)).trans hHeld.2.1), ((Below.cell hb (World.block_lt_of_cell? _ _ hHeld.2.2.1)).trans hHeld.2.2.1), (below_le hHeld.2.2.2 hb)⟩ (fun hHeld => ?_)
            clear hK K
            refine norm_ (a' := ?_) ?_ ?_
            rotate_left
            · show Act.put _ (some 23) _ = _
              simp only [Act.put, List.setIfInBounds_toArray, List.set_cons_zero, List.set_cons_succ, i64_w, i32_w]
              rfl
            refine one_ (i := 10) (N := some 29) #[true, true, true, true, true, true, true, true, true, true, true, true, true, true, true, false, true, false] rfl rfl (by kernel_rfl) (by decide) (fun K hK => ?_)
            refine step_append_grows rfl (.tmp 24) (.tmp 28) 71 rfl 4 i0 (.bool false) 1 1 Try.underlying71 hi0 hz0 hz1 hz2 rfl (by decide) (some ⟨w16_.heap.size, 0, none⟩) 0 0 [] rfl (fun h => by cases h) rfl (fun b hb j u hu => by simp at hu) ad1 f.length c1 (f.map Value.bool) rfl (by simp) (RowB.C_cells (Kd.C_below HR1.out (below_le HBW hHeld.2.2.2))) (by intro u hu; obtain ⟨y, _, rfl⟩ := List.mem_map.1 hu; rfl) (by have := HF.out; omega) (by unfold maxLen; have := HF.out; omega) (by have := HF.out; omega) ?_
            intro v29 w10_ hown hg
            have hb : Below w4_.heap.size w4_ w10_ := ⟨hg.os, hg.tape, hg.output, hg.size, fun k hk => hg.block k hk (by simp)⟩
            rw [Nat.zero_add] at hown
            obtain ⟨b1, d1, rfl, hd1, ge_b1, lt_b1, R_b1⟩ := RowD.of_owns (l := f) (fun _ => rfl) hown (by have := HF.out; omega) rfl
            have R_b1 := Aside0.mk R_b1
            have ge_b1 : w4_.heap.size ≤ b1 := ge_b1
            have ne_gx_b1 : w4.heap.size ≠ b1 := by omega
            have ne_b0_b1 : b0 ≠ b1 := by omega
            have lo_b1 : w4.heap.size ≤ b1 := Nat.le_trans hHeld.2.2.2.size (by first | exact ge_b1 | exact Nat.le_refl _)
            have R_gx := Aside0.mk ((hb.block _ lt_gx).trans R_gx.out)
            have lt_gx : w4.heap.size < w10_.heap.size := Nat.lt_of_lt_of_le lt_gx hb.size
            have R_b0 := Aside0.mk (R_b0.out.below hb)
            have lt_b0 : b0 < w10_.heap.size := Nat.lt_of_lt_of_le lt_b0 hb.size
            refine hK.out _ _ ⟨((Below.cell hb (World.block_lt_of_cell? _ _ hHeld.1)).trans hHeld.1), ((Below.cell hb (World.block_lt_of_cell? _ _ hHeld.2.1)).trans hHeld.2.1), ((Below.cell hb (World.block_lt_of_cell? _ _ hHeld.2.2.1)).trans hHeld.2.2.1), (below_le hHeld.2.2.2 hb)⟩ (fun hHeld => ?_)
            clear hK K
            refine norm_ (a' := ?_) ?_ ?_
            rotate_left
            · show Act.put _ (some 29) _ = _
              simp only [Act.put, List.setIfInBounds_toArray, List.set_cons_zero, List.set_cons_succ, i64_w, i32_w]
              rfl
            refine pure_ (i := 15) (N := some 34) (v := ?_) (a' := ?_) #[true, true, true, true, true, true, true, true, true, true, true, true, true, true, true, true, true, false] rfl rfl (by kernel_rfl) (fun _ _ _ h => h) (Or.inl ⟨by rfl, ?_⟩) ?_ ?_
            rotate_left
            · intro w'
              go_simp
              with_reducible rfl
            rotate_left
            · simp only [Act.put, List.setIfInBounds_toArray, List.set_cons_zero, List.set_cons_succ, i64_w, i32_w]
              rfl
            exact norm_ (by simp only [putAll, Act.put, List.setIfInBounds_toArray, List.set_cons_zero, List.set_cons_succ]) (hCont (b0, d0, w16_.heap.size, b1, d1, w4.heap.size) _ ⟨R_b0.out, R_b1.out, R_gx.out, hd0, hd1, ne_b0_b1, (Ne.symm ne_gx_b0), (Ne.symm ne_gx_b1), lo_b0, lo_b1, lo_gx, hHeld⟩)
      rintro ⟨b0, d0, g24, b1, d1, gx⟩ w' ⟨R_b0, R_b1, R_gx, hd0, hd1, ne01, ne0x, ne1x, lo0, lo1, lox, hHeld⟩
      simp only at R_b0 R_b1 R_gx hd0 hd1 ne01 ne0x ne1x lo0 lo1 lox
      refine norm_ (a' := ?_) ?_ ?_
      rotate_left
      · simp only [putAll, Act.put, List.setIfInBounds_toArray, List.set_cons_zero, List.set_cons_succ]
        rfl
      refine last_ (i := 17) (N := none) #[true, true, true, true, true, true, true, true, true, true, true, true, true, true, true, true, true, true] rfl rfl (by kernel_rfl) (by decide) (fun K hK => ?_)
      have x0 : w'.cell? ⟨gx, 0, none⟩ = some (.slice none 0 0) := blk_cell R_gx 0
      have x1 : w'.cell? ⟨gx, 1, none⟩ = some (.slice none 0 0) := blk_cell R_gx 1
      have x2 : w'.cell? ⟨gx, 2, none⟩ = some (.bool false) := blk_cell R_gx 2
      have z0 : w'.frozen? ⟨gx, 0, none⟩ = false := blk_frozen R_gx 0
      have z1 : w'.frozen? ⟨gx, 1, none⟩ = false := blk_frozen R_gx 1
      have z2 : w'.frozen? ⟨gx, 2, none⟩ = false := blk_frozen R_gx 2
      refine skip_ (w1 := ?_) (by rfl) rfl ?_ ?_
      rotate_left
      · go_simp
        rfl
      refine hK.out _ _ ?_
      clear hK K
      refine done_ (by kernel_rfl) ?_

      go_wp2_with fail
      go_meet
      have hn0 := HC.out
      have hn1 := HF.out
      refine ⟨gx, b0, b1, d0, d1, rfl, ⟨?_⟩, ⟨?_⟩, ⟨?_⟩, by omega, by omega, ne01, Ne.symm ne0x, Ne.symm ne1x, lo0, lo1, lox, ⟨?_⟩⟩
      · have h := set_same (i := 2) (set_same (i := 1) (set_same (i := 0) R_gx (.slice (some ⟨b0, 0, none⟩) c.length d0)) (.slice (some ⟨b1, 0, none⟩) f.length d1)) (.bool m)
        have e : (#[.slice (some ⟨b0, 0, none⟩) n d0, .slice (some ⟨b1, 0, none⟩) n d1, .bool m] : Array Value) = #[.slice (some ⟨b0, 0, none⟩) c.length d0, .slice (some ⟨b1, 0, none⟩) f.length d1, .bool m] := by rw [hn0, hn1]
        unfold SysBox
        rw [e]
        exact h
      · exact ((R_b0.other _ ne0x).other _ ne0x).other _ ne0x
      · exact ((R_b1.other _ ne1x).other _ ne1x).other _ ne1x
      · exact ((hHeld.2.2.2.setCell lox _).setCell lox _).setCell lox _
  case rest =>
    obtain ⟨gx, b0, b1, d0, d1, rfl, XG, X0, X1, hd0, hd1, ne01, nex0, nex1, lo0, lo1, lox, BX⟩ := hcut
    have BOx : Aside0 (wc.heap[go]? = some (.cells #[.int .i64 kind, .int .i64 (i : Int)] 118 (0, 0))) := ⟨(BX.out.block go (Nat.lt_of_lt_of_le (blk_lt BO.out) BB2.out.size)).trans ((BB2.out.block go (blk_lt BO.out)).trans BO.out)⟩
    have BRx : Aside0 (wc.heap[gr]? = some (.cells #[.slice none 0 0, .slice none 0 0, .bool false] 73 (0, 0))) := ⟨(BX.out.block gr (blk_lt BR.out)).trans BR.out⟩
    have hgo : go < w4.heap.size := Nat.lt_of_lt_of_le (blk_lt BO.out) BB2.out.size
    have hgr : gr < w4.heap.size := blk_lt BR.out
    have hgo0 : w.heap.size ≤ go := by have := GO.out; omega
    have hgr0 : w.heap.size ≤ gr := by have := GR.out; have := BB.out.size; omega
    have o0 : wc.cell? ⟨go, 0, none⟩ = some (.int .i64 kind) := blk_cell BOx.out 0
    have o1 : wc.cell? ⟨go, 1, none⟩ = some (.int .i64 (i : Int)) := blk_cell BOx.out 1
    have p0 : wc.cell? ⟨gx, 0, none⟩ = some (.slice (some ⟨b0, 0, none⟩) n d0) := blk_cell XG.out 0
    have hiz : (i : Int) < (n : Int) := by omega
    have hip : 0 ≤ (i : Int) := by omega
    have x0 := X0.out.cell (show i < c.length by have := HC.out; omega) 0
    obtain ⟨x, hx⟩ : ∃ x, x = c.getD i 0 := ⟨_, rfl⟩
    rw [← hx] at x0
    have HX := Aside0.mk hx
    clear hx q0 q1 q2
    obtain ⟨wd, rfl⟩ : ∃ wd : World, wd = wc := ⟨_, rfl⟩
    go_upto_block 0 with fail
    clear o0 o1 p0 x0
    go_cut [13, 14, 15] (fun s13 s14 s15 wx => ∃ (c' : List Int) (f' : List Bool) (m' fl sn : Bool) (bk : Int), s13 = .bool fl ∧ s14 = .bool sn ∧ s15 = .int .i64 bk ∧ Aside0 (stepS t0 t1 t2 t3 t4 c f m kind i = finI c' f' m' fl sn bk) ∧ Aside0 (SysBox gx b0 b1 n d0 d1 m' wx) ∧ Aside0 (CopiesD d0 wx b0 c') ∧ Aside0 (FreshsD d1 wx b1 f') ∧ Aside0 (c'.length = n) ∧ Aside0 (f'.length = n) ∧ Aside0 (∀ x ∈ c', 0 ≤ x ∧ x ≤ 3) ∧ Aside0 (0 ≤ bk) ∧ Aside0 (bk ≤ n + 1) ∧ Aside0 (Below w4.heap.size w4 wx))
    case first =>
      have hwx : w.heap.size ≤ w4.heap.size := HBW.size
      have BWd : Aside0 (Below w.heap.size w wd) := ⟨below_le HBW BX.out⟩
      have P0 : Aside0 (wd.heap[gq]? = some (.cells #[.slice A0 t0.length k0_, .slice A1 t1.length k1_, .slice A2 t2.length k2_, .slice A3 t3.length k3_, .slice A4 t4.length k4_] 54 (0, 0))) := ⟨(BWd.out.block gq (blk_lt HBP.out)).trans HBP.out⟩
      have hlen0 : (t0.length : Int) = 4 := by rw [L0.out]; rfl
      have hlen1 : (t1.length : Int) = 4 := by rw [L1.out]; rfl
      have hlen2 : (t2.length : Int) = 4 := by rw [L2.out]; rfl
      have hxv : 0 ≤ x ∧ x ≤ 3 := by
        rw [HX.out, getD_lt c i 0 (by have := HC.out; omega)]
        exact HV.out _ (List.getElem_mem _)
      obtain ⟨hxv0, hxv3⟩ := hxv
      have hx4 : x < 4 := by omega
      have hx6 := eq_true hxv0
      have hx5 : x < (t0.length : Int) := by omega
      have hx7 : x < (t1.length : Int) := by omega
      have hx8 : x < (t2.length : Int) := by omega
      have y0 := X1.out.cell (show i < f.length by have := HF.out; omega) false
      obtain ⟨y, hy⟩ : ∃ y, y = f.getD i false := ⟨_, rfl⟩
      rw [← hy] at y0
      have HY := Aside0.mk hy
      clear hy
      have hk : kind = 0 ∨ kind = 1 ∨ kind = 2 := by omega
      obtain ⟨ex, hex⟩ : ∃ b, (x == 0) = b := ⟨_, rfl⟩
      have hexn : (x != 0) = !ex := by rw [← hex]; rfl
      have HEX : Aside0 (decide (x = 0) = ex) := ⟨by rw [← hex]; rfl⟩
      have g0 : wd.cell? ⟨gx, 0, none⟩ = some (.slice (some ⟨b0, 0, none⟩) n d0) := blk_cell XG.out 0
      have g1_ : wd.cell? ⟨gx, 1, none⟩ = some (.slice (some ⟨b1, 0, none⟩) n d1) := blk_cell XG.out 1
      have g2 : wd.cell? ⟨gx, 2, none⟩ = some (.bool m) := blk_cell XG.out 2
      have z0 := X0.out.thaw i
      have z1 := X1.out.thaw i
      have zg : wd.frozen? ⟨gx, 2, none⟩ = false := blk_frozen XG.out 2
      have x0 := X0.out.cell (show i < c.length by have := HC.out; omega) 0
      rcases hk with rfl | rfl | rfl
      · as_aux_lemma =>
          cases ex with
          | false =>
            have p0 : wd.cell? ⟨gq, 0, none⟩ = some (.slice A0 t0.length k0_) := blk_cell P0.out 0
            obtain ⟨ad, e, r0, r1, r2⟩ := at_T58 (Kd.C_below HT0.out BWd.out) x hxv0 (by omega)
            subst e
            have hrv : Aside0 (0 ≤ (rd_T58 t0 x).f0 ∧ (rd_T58 t0 x).f0 ≤ 3) := ⟨(V0.out _ (by unfold rd_T58; rw [getD_lt t0 x.toNat _ (by have := L0.out; omega)]; exact List.getElem_mem _)).1⟩
            have SI : Aside0 (stepS t0 t1 t2 t3 t4 c f m 0 i = finI (c.set i (rd_T58 t0 x).f0) f m (!y) false 0) := ⟨by
              have hx0 : ¬ c.getD i 0 = 0 := by rw [← HX.out]; intro z; have := HEX.out; rw [decide_eq_true z] at this; exact absurd this (by simp)
              unfold stepS
              rw [if_pos rfl, if_neg hx0, ← HX.out, ← HY.out]
              rfl⟩
            obtain ⟨r, hr⟩ : ∃ r, r = rd_T58 t0 x := ⟨_, rfl⟩
            rw [← hr] at r0 r1 r2 hrv SI
            clear hr
            obtain ⟨f0, f1, f2⟩ := r
            simp only at r0 r1 r2 hrv SI
            go_wp2
            go_still_tail 12, (by kernel_rfl)
            go_wp2_with ((with_reducible refine gate_store (t := 2) (p := 65) rfl ?_); refine store_event (t := 2) (p := 65) (v := .tmp 64) (w1 := wd.drew.setCell ⟨b0, i, none⟩ (.int .i64 f0)) ?hg ?ho ?hn ?hr ?_; (case ho => rfl); (case hg => rfl); (case hn => rfl); (case hr => first | (go_simp; done) | (go_simp; rfl)); intro w5 hw; have R1 : Aside0 (SysBox gx b0 b1 n d0 d1 m w5) := ⟨by rw [hw]; exact set_other XG.out _ nex0⟩; have R2 : Aside0 (CopiesD d0 w5 b0 (c.set i f0)) := ⟨by rw [hw]; exact X0.out.put (by have := HC.out; omega) f0 _ rfl⟩; have R3 : Aside0 (FreshsD d1 w5 b1 f) := ⟨by rw [hw]; exact X1.out.other _ ne01.symm⟩; have R4 : Aside0 (Below w4.heap.size w4 w5) := ⟨by rw [hw]; exact (below_drew BX.out).setCell lo0 _⟩; clear hw)
            go_meet
            refine ⟨_, _, _, !y, false, 0, rfl, rfl, rfl, SI, R1, R2, R3, ⟨by rw [List.length_set]; exact HC.out⟩, HF, ⟨fun z hz => ?_⟩, ⟨by omega⟩, ⟨by omega⟩, R4⟩
            rcases List.mem_or_eq_of_mem_set hz with hz | hz
            · exact HV.out z hz
            · rw [hz]; exact hrv.out
          | true =>
            have HX0 : Aside0 (x = 0) := ⟨eq_of_beq hex⟩
            have p3 : wd.cell? ⟨gq, 3, none⟩ = some (.slice A3 t3.length k3_) := blk_cell P0.out 3
            have hd3 : ∀ ad, A3 = some ad → ad.block ≠ b0 ∧ ad.block ≠ b1 ∧ ad.block ≠ gx := fun ad e => by
              obtain ⟨ad', e', q', _⟩ := at_T58 HT3.out 0 (by omega) (by have := L3.out; omega)
              have := World.block_lt_of_cell? _ _ q'
              rw [blk_add] at this
              rw [e] at e'
              obtain rfl := Option.some.inj e'
              omega
            have HD3 := Aside0.mk hd3
            clear hd3
            go_wp2_with fail
            refine (specSee gx b0 b1 d0 d1 n m c f (i : Int) A3 k3_ t3 wd XG.out X0.out.1 X1.out.1 HC.out HF.out ne01 nex0 nex1 hm (Kd.C_below HT3.out BWd.out) L3.out HD3.out HV.out V3.out).mono ?_
            rintro e w5 ⟨c5, f5, m5, bk5, rfl, hs, hg5, h05, h15, hc5, hf5, hv5, hb5, hbn5, ho5⟩
            have G5 : Aside0 (SysBox gx b0 b1 n d0 d1 m5 w5) := ⟨hg5⟩
            have Z5 : Aside0 (CopiesD d0 w5 b0 c5) := ⟨RowD.only h05 X0.out ho5⟩
            have F5 : Aside0 (FreshsD d1 w5 b1 f5) := ⟨RowD.only h15 X1.out ho5⟩
            have B5 : Aside0 (Below w4.heap.size w4 w5) := ⟨BX.out.trans (ho5.below BX.out.size (by rintro k (e | e | e) <;> omega))⟩
            have HC5 := Aside0.mk hc5
            have HF5 := Aside0.mk hf5
            have HV5 := Aside0.mk hv5
            have HS5 := Aside0.mk hs
            have HB5 := Aside0.mk hb5
            have HBN5 := Aside0.mk hbn5
            clear g0 g1_ g2 z0 z1 zg x0 p3 hg5 h05 h15 ho5 hc5 hf5 hv5 hs hb5 hbn5
            have BW5 : Aside0 (Below w.heap.size w w5) := ⟨below_le HBW B5.out⟩
            have P5 : Aside0 (w5.heap[gq]? = some (.cells #[.slice A0 t0.length k0_, .slice A1 t1.length k1_, .slice A2 t2.length k2_, .slice A3 t3.length k3_, .slice A4 t4.length k4_] 54 (0, 0))) := ⟨(BW5.out.block gq (blk_lt HBP.out)).trans HBP.out⟩
            have g0 : w5.cell? ⟨gx, 0, none⟩ = some (.slice (some ⟨b0, 0, none⟩) n d0) := blk_cell G5.out 0
            have g1_ : w5.cell? ⟨gx, 1, none⟩ = some (.slice (some ⟨b1, 0, none⟩) n d1) := blk_cell G5.out 1
            have g2 : w5.cell? ⟨gx, 2, none⟩ = some (.bool m5) := blk_cell G5.out 2
            have z1 := F5.out.thaw i
            have y5 : w5.cell? ⟨b1, i, none⟩ = some (.bool _) := F5.out.cell (show i < f5.length by have := HF5.out; omega) false
            have hrv : Aside0 ((0 ≤ (rd_T58 t0 x).f0 ∧ (rd_T58 t0 x).f0 ≤ 3) ∧ 0 ≤ (rd_T58 t0 x).f1 ∧ (rd_T58 t0 x).f1 ≤ 3) := ⟨V0.out _ (by unfold rd_T58; rw [getD_lt t0 x.toNat _ (by have := L0.out; omega)]; exact List.getElem_mem _)⟩
            obtain ⟨ad, e, r0, r1, r2⟩ := at_T58 HT0.out x hxv0 (by omega)
            subst e
            have HRD : Aside0 (t0.getD 0 z58 = rd_T58 t0 x) := ⟨by rw [HX0.out]; rfl⟩
            obtain ⟨r, hr⟩ : ∃ r, r = rd_T58 t0 x := ⟨_, rfl⟩
            rw [← hr] at r0 r1 r2 hrv HRD
            clear hr
            obtain ⟨f0, f1, f2⟩ := r
            simp only at r0 r1 r2 hrv
            have T0 := Aside0.mk r0
            have T1 := Aside0.mk r1
            clear r0 r1 r2
            obtain ⟨ot, hot⟩ : ∃ b, others (c5.set i f0) i = b := ⟨_, rfl⟩
            have HOT := Aside0.mk hot
            clear hot
            have SI : Aside0 (stepS t0 t1 t2 t3 t4 c f m 0 i = finI (if ot = true then (c5.set i f0).set i f1 else c5.set i f0) (f5.set i m5) m5 (!m5) true bk5) := ⟨by
              have hx0 : c.getD i 0 = 0 := by rw [← HX.out]; exact HX0.out
              unfold stepS
              rw [if_pos rfl, if_pos hx0]
              simp only [HS5.out, HRD.out, HOT.out]⟩
            go_wp2_with ((with_reducible refine gate_store (t := 4) (p := 80) rfl ?_); refine store_event (t := 4) (p := 80) (v := .tmp 79) (w1 := w5.setCell ⟨b1, i, none⟩ (.bool m5)) ?hg ?ho ?hn ?hr ?_; (case ho => rfl); (case hg => rfl); (case hn => rfl); (case hr => first | (go_simp; done) | (go_simp; rfl)); intro w6 hw; have G6 : Aside0 (SysBox gx b0 b1 n d0 d1 m5 w6) := ⟨by rw [hw]; exact set_other G5.out _ nex1⟩; have Z6 : Aside0 (CopiesD d0 w6 b0 c5) := ⟨by rw [hw]; exact Z5.out.other _ ne01⟩; have F6 : Aside0 (FreshsD d1 w6 b1 (f5.set i m5)) := ⟨by rw [hw]; exact F5.out.put (by have := HF5.out; omega) m5 _ rfl⟩; have B6 : Aside0 (Below w4.heap.size w4 w6) := ⟨by rw [hw]; exact B5.out.setCell lo1 _⟩; clear hw)
            have BW6 : Aside0 (Below w.heap.size w w6) := ⟨below_le HBW B6.out⟩
            have g0 : w6.cell? ⟨gx, 0, none⟩ = some (.slice (some ⟨b0, 0, none⟩) n d0) := blk_cell G6.out 0
            have p0 : w6.cell? ⟨gq, 0, none⟩ = some (.slice (some ad) t0.length k0_) := blk_cell ((BW6.out.block gq (blk_lt HBP.out)).trans HBP.out) 0
            have r0 := (BW6.out.cell (World.block_lt_of_cell? w _ T0.out)).trans T0.out
            have x6 : w6.cell? ⟨b0, i, none⟩ = some (.int .i64 _) := Z6.out.cell (show i < c5.length by have := HC5.out; omega) 0
            have z6 := Z6.out.thaw i
            go_still_tail 12, (by kernel_rfl)
            go_wp2_with ((with_reducible refine gate_store (t := 2) (p := 92) rfl ?_); refine store_event (t := 2) (p := 92) (v := .tmp 91) (w1 := w6.drew.setCell ⟨b0, i, none⟩ (.int .i64 f0)) ?hg ?ho ?hn ?hr ?_; (case ho => rfl); (case hg => rfl); (case hn => rfl); (case hr => first | (go_simp; done) | (go_simp; rfl)); intro w7 hw; have G7 : Aside0 (SysBox gx b0 b1 n d0 d1 m5 w7) := ⟨by rw [hw]; exact set_other G6.out _ nex0⟩; have Z7 : Aside0 (CopiesD d0 w7 b0 (c5.set i f0)) := ⟨by rw [hw]; exact Z6.out.put (by have := HC5.out; omega) f0 _ rfl⟩; have F7 : Aside0 (FreshsD d1 w7 b1 (f5.set i m5)) := ⟨by rw [hw]; exact F6.out.other _ ne01.symm⟩; have B7 : Aside0 (Below w4.heap.size w4 w7) := ⟨by rw [hw]; exact (below_drew B6.out).setCell lo0 _⟩; clear hw)
            have OC : Aside0 (Calls Try.prog 102 #[.pointer (some ⟨gx, 0, none⟩), .int .i64 (i : Int)] w7 fun e w' => e = .returned (.bool ot) ∧ Below w7.heap.size w7 w') := ⟨by
              obtain ⟨kq, hkq⟩ := others_ev (c5.set i f0) (f5.set i m5) m5 i (by rw [List.length_set]; have := HC5.out; omega)
              rw [HOT.out] at hkq
              have hl0 : (c5.set i f0).length = n := by rw [List.length_set]; exact HC5.out
              have hl1 : (f5.set i m5).length = n := by rw [List.length_set]; exact HF5.out
              exact spec_l10Others.calls kq gx (some ⟨b0, 0, none⟩) d0 (c5.set i f0) (some ⟨b1, 0, none⟩) d1 (f5.set i m5) m5 (i : Int) ot w7 (by rw [hl0, hl1]; exact G7.out) (Z7.out.toC (by omega)) (by omega) (F7.out.toC (by omega)) (by omega) (hkq kq (Nat.le_refl _))⟩
            cases ot with
            | true =>
              go_wp2_with fail
              refine OC.out.mono ?_
              rintro e w8 ⟨rfl, hb8⟩
              have G8 : Aside0 (SysBox gx b0 b1 n d0 d1 m5 w8) := ⟨(hb8.block _ (blk_lt G7.out)).trans G7.out⟩
              have Z8 : Aside0 (CopiesD d0 w8 b0 (c5.set i f0)) := ⟨Z7.out.below hb8⟩
              have F8 : Aside0 (FreshsD d1 w8 b1 (f5.set i m5)) := ⟨F7.out.below hb8⟩
              have B8 : Aside0 (Below w4.heap.size w4 w8) := ⟨below_le B7.out hb8⟩
              have BW8 : Aside0 (Below w.heap.size w w8) := ⟨below_le HBW B8.out⟩
              clear hb8
              have g0 : w8.cell? ⟨gx, 0, none⟩ = some (.slice (some ⟨b0, 0, none⟩) n d0) := blk_cell G8.out 0
              have p0 : w8.cell? ⟨gq, 0, none⟩ = some (.slice (some ad) t0.length k0_) := blk_cell ((BW8.out.block gq (blk_lt HBP.out)).trans HBP.out) 0
              have r1 := (BW8.out.cell (World.block_lt_of_cell? w _ T1.out)).trans T1.out
              have x8 : w8.cell? ⟨b0, i, none⟩ = some (.int .i64 _) := Z8.out.cell (show i < (c5.set i f0).length by rw [List.length_set]; have := HC5.out; omega) 0
              have z8 := Z8.out.thaw i
              go_wp2
              go_still_tail 12, (by kernel_rfl)
              go_wp2_with ((with_reducible refine gate_store (t := 2) (p := 106) rfl ?_); refine store_event (t := 2) (p := 106) (v := .tmp 105) (w1 := w8.drew.setCell ⟨b0, i, none⟩ (.int .i64 f1)) ?hg ?ho ?hn ?hr ?_; (case ho => rfl); (case hg => rfl); (case hn => rfl); (case hr => first | (go_simp; done) | (go_simp; rfl)); intro w9 hw; have G9 : Aside0 (SysBox gx b0 b1 n d0 d1 m5 w9) := ⟨by rw [hw]; exact set_other G8.out _ nex0⟩; have Z9 : Aside0 (CopiesD d0 w9 b0 ((c5.set i f0).set i f1)) := ⟨by rw [hw]; exact Z8.out.put (by rw [List.length_set]; have := HC5.out; omega) f1 _ rfl⟩; have F9 : Aside0 (FreshsD d1 w9 b1 (f5.set i m5)) := ⟨by rw [hw]; exact F8.out.other _ ne01.symm⟩; have B9 : Aside0 (Below w4.heap.size w4 w9) := ⟨by rw [hw]; exact (below_drew B8.out).setCell lo0 _⟩; clear hw)
              go_meet
              refine ⟨_, _, _, !m5, true, bk5, rfl, rfl, rfl, SI, G9, Z9, F9, ⟨by simp only [if_true, List.length_set]; exact HC5.out⟩, ⟨by rw [List.length_set]; exact HF5.out⟩, ⟨fun z hz => ?_⟩, HB5, ⟨by have := HBN5.out; omega⟩, B9⟩
              have hz : z ∈ (c5.set i f0).set i f1 := hz
              rcases List.mem_or_eq_of_mem_set hz with hz | hz
              · rcases List.mem_or_eq_of_mem_set hz with hz | hz
                · exact HV5.out z hz
                · rw [hz]; exact hrv.out.1
              · rw [hz]; exact hrv.out.2
            | false =>
              go_wp2_with fail
              refine OC.out.mono ?_
              rintro e w8 ⟨rfl, hb8⟩
              go_wp2
              go_meet
              refine ⟨_, _, _, !m5, true, bk5, rfl, rfl, rfl, SI, ⟨(hb8.block _ (blk_lt G7.out)).trans G7.out⟩, ⟨Z7.out.below hb8⟩, ⟨F7.out.below hb8⟩, ⟨by simp only [Bool.false_eq_true, if_false, List.length_set]; exact HC5.out⟩, ⟨by rw [List.length_set]; exact HF5.out⟩, ⟨fun z hz => ?_⟩, HB5, ⟨by have := HBN5.out; omega⟩, ⟨below_le B7.out hb8⟩⟩
              have hz : z ∈ c5.set i f0 := hz
              rcases List.mem_or_eq_of_mem_set hz with hz | hz
              · exact HV5.out z hz
              · rw [hz]; exact hrv.out.1
      · obtain ⟨es, hes⟩ : ∃ b, (x == 1) = b := ⟨_, rfl⟩
        have HES : Aside0 (decide (x = 1) = es) := ⟨by rw [← hes]; rfl⟩
        have p1 : wd.cell? ⟨gq, 1, none⟩ = some (.slice A1 t1.length k1_) := blk_cell P0.out 1
        have p4 : wd.cell? ⟨gq, 4, none⟩ = some (.slice A4 t4.length k4_) := blk_cell P0.out 4
        cases ex with
        | true =>
          as_aux_lemma =>
            have hd4 : ∀ ad, A4 = some ad → ad.block ≠ b0 ∧ ad.block ≠ b1 ∧ ad.block ≠ gx := fun ad e => by
              obtain ⟨ad', e', q', _⟩ := at_T58 HT4.out 0 (by omega) (by have := L4.out; omega)
              have := World.block_lt_of_cell? _ _ q'
              rw [blk_add] at this
              rw [e] at e'
              obtain rfl := Option.some.inj e'
              omega
            have HD4 := Aside0.mk hd4
            clear hd4
            go_wp2_with fail
            refine (specSee gx b0 b1 d0 d1 n m c f (i : Int) A4 k4_ t4 wd XG.out X0.out.1 X1.out.1 HC.out HF.out ne01 nex0 nex1 hm (Kd.C_below HT4.out BWd.out) L4.out HD4.out HV.out V4.out).mono ?_
            rintro e w5 ⟨c5, f5, m5, bk5, rfl, hs, hg5, h05, h15, hc5, hf5, hv5, hb5, hbn5, ho5⟩
            have G5 : Aside0 (SysBox gx b0 b1 n d0 d1 m5 w5) := ⟨hg5⟩
            have Z5 : Aside0 (CopiesD d0 w5 b0 c5) := ⟨RowD.only h05 X0.out ho5⟩
            have F5 : Aside0 (FreshsD d1 w5 b1 f5) := ⟨RowD.only h15 X1.out ho5⟩
            have B5 : Aside0 (Below w4.heap.size w4 w5) := ⟨BX.out.trans (ho5.below BX.out.size (by rintro k (e | e | e) <;> omega))⟩
            have HC5 := Aside0.mk hc5
            have HF5 := Aside0.mk hf5
            have HV5 := Aside0.mk hv5
            have HS5 := Aside0.mk hs
            have HB5 := Aside0.mk hb5
            have HBN5 := Aside0.mk hbn5
            clear g0 g1_ g2 z0 z1 zg x0 y0 p1 p4 hg5 h05 h15 ho5 hc5 hf5 hv5 hs hb5 hbn5
            have hwr : IntKind.i64.wrap (bk5 + 1) = bk5 + 1 := by rw [i64_w]; exact wrap_id (by have := HB5.out; omega) (by have := HBN5.out; omega)
            have g0 : w5.cell? ⟨gx, 0, none⟩ = some (.slice (some ⟨b0, 0, none⟩) n d0) := blk_cell G5.out 0
            have g1_ : w5.cell? ⟨gx, 1, none⟩ = some (.slice (some ⟨b1, 0, none⟩) n d1) := blk_cell G5.out 1
            go_wp2_with fail
            clear g0 g1_
            have HSI : Aside0 (stepS t0 t1 t2 t3 t4 c f m 1 i = finI (c5.set i (rd_T58 t1 x).f0) ((List.replicate f5.length false).set i (!decide ((rd_T58 t1 x).f0 = 0))) (rd_T58 t1 x).f2 false true (if (rd_T58 t1 x).f2 then bk5 + 1 else bk5)) := ⟨by
              unfold stepS
              rw [if_neg (by omega), if_pos rfl, ← HX.out]
              simp only [HEX.out, HES.out, Bool.or_true, Bool.true_or, Bool.or_false, if_true, HS5.out]
              rfl⟩
            have hrv : Aside0 (0 ≤ (rd_T58 t1 x).f0 ∧ (rd_T58 t1 x).f0 ≤ 3) := ⟨V1.out _ (by unfold rd_T58; rw [getD_lt t1 x.toNat _ (by have := L1.out; omega)]; exact List.getElem_mem _)⟩
            obtain ⟨ad, e, r0, r1, r2⟩ := at_T58 HT1.out x hxv0 (by omega)
            subst e
            obtain ⟨r, hr⟩ : ∃ r, r = rd_T58 t1 x := ⟨_, rfl⟩
            rw [← hr] at r0 r1 r2 hrv HSI
            clear hr
            obtain ⟨f0, f1, f2⟩ := r
            simp only at r0 r1 r2 hrv HSI
            obtain ⟨ef, hef⟩ : ∃ b, (f0 != 0) = b := ⟨_, rfl⟩
            have HEF : Aside0 ((!decide (f0 = 0)) = ef) := ⟨by rw [← hef]; rfl⟩
            have R0 := Aside0.mk r0
            have R2 := Aside0.mk r2
            clear r0 r1 r2
            go_loopg [16] n (fun gg s16 wr => ∃ dd : Nat, dd ≤ n ∧ n - dd ≤ gg ∧ s16 = .int .i64 dd ∧ Aside0 (SysBox gx b0 b1 n d0 d1 m5 wr) ∧ Aside0 (CopiesD d0 wr b0 c5) ∧ Aside0 (FreshsD d1 wr b1 (List.replicate dd false ++ f5.drop dd)) ∧ Aside0 (Below w4.heap.size w4 wr))
            case atStart => exact ⟨0, Nat.zero_le _, by omega, rfl, G5, Z5, ⟨by simpa using F5.out⟩, B5⟩
            case round =>
              obtain ⟨dd, hdd, hg, rfl, GW, ZW, FW, BW_⟩ := hrel
              have g0 : wr.cell? ⟨gx, 0, none⟩ = some (.slice (some ⟨b0, 0, none⟩) n d0) := blk_cell GW.out 0
              have g1_ : wr.cell? ⟨gx, 1, none⟩ = some (.slice (some ⟨b1, 0, none⟩) n d1) := blk_cell GW.out 1
              have hlf : (List.replicate dd false ++ f5.drop dd).length = n := by have := HF5.out; simp; omega
              by_cases hlt : dd < n
              · have hltz : (dd : Int) < (n : Int) := by omega
                have y0 : wr.cell? ⟨b1, dd, none⟩ = some (.bool _) := FW.out.cell (show dd < (List.replicate dd false ++ f5.drop dd).length by omega) false
                have z1 := FW.out.thaw dd
                go_wp2_with ((with_reducible refine gate_store (t := 4) (p := 131) rfl ?_); refine store_event (t := 4) (p := 131) (v := .const (.bool false)) (w1 := wr.setCell ⟨b1, dd, none⟩ (.bool false)) ?hg ?ho ?hn ?hr ?_; (case ho => rfl); (case hg => rfl); (case hn => rfl); (case hr => first | (go_simp; done) | (go_simp; rfl)); intro w6 hw; have G6 : Aside0 (SysBox gx b0 b1 n d0 d1 m5 w6) := ⟨by rw [hw]; exact set_other GW.out _ nex1⟩; have Z6 : Aside0 (CopiesD d0 w6 b0 c5) := ⟨by rw [hw]; exact ZW.out.other _ ne01⟩; have F6 : Aside0 (FreshsD d1 w6 b1 ((List.replicate dd false ++ f5.drop dd).set dd false)) := ⟨by rw [hw]; exact FW.out.put (by omega) false _ rfl⟩; have B6 : Aside0 (Below w4.heap.size w4 w6) := ⟨by rw [hw]; exact BW_.out.setCell lo1 _⟩; clear hw)
                go_roundg (n - (dd + 1))
                case measure => omega
                case rel =>
                  refine ⟨dd + 1, by omega, by omega, by go_num, G6, Z6, ⟨?_⟩, B6⟩
                  have := F6.out
                  rw [set_mark_ _ _ _ _ (by simp) (by have := HF5.out; omega)] at this
                  rw [show List.replicate (dd + 1) false = List.replicate dd false ++ [false] from List.replicate_succ']
                  exact this
              · have hltz : ¬ (dd : Int) < (n : Int) := by omega
                obtain rfl : dd = n := by omega
                have FW : Aside0 (FreshsD d1 wr b1 (List.replicate f5.length false)) := ⟨by have h := FW.out; rw [List.drop_eq_nil_of_le (by have := HF5.out; omega), List.append_nil] at h; rw [HF5.out]; exact h⟩
                have BWr : Aside0 (Below w.heap.size w wr) := ⟨below_le HBW BW_.out⟩
                have p1 : wr.cell? ⟨gq, 1, none⟩ = some (.slice (some ad) t1.length k1_) := blk_cell ((BWr.out.block gq (blk_lt HBP.out)).trans HBP.out) 1
                have r0 := (BWr.out.cell (World.block_lt_of_cell? w _ R0.out)).trans R0.out
                have r2 := (BWr.out.cell (World.block_lt_of_cell? w _ R2.out)).trans R2.out
                have x0 : wr.cell? ⟨b0, i, none⟩ = some (.int .i64 _) := ZW.out.cell (show i < c5.length by have := HC5.out; omega) 0
                have z0 := ZW.out.thaw i
                have hiz : (i : Int) < (dd : Int) := by omega
                go_wp2_with fail
                go_still_tail 12, (by kernel_rfl)
                go_wp2_with ((with_reducible refine gate_store (t := 2) (p := 143) rfl ?_); refine store_event (t := 2) (p := 143) (v := .tmp 142) (w1 := wr.drew.setCell ⟨b0, i, none⟩ (.int .i64 f0)) ?hg ?ho ?hn ?hr ?_; (case ho => rfl); (case hg => rfl); (case hn => rfl); (case hr => first | (go_simp; done) | (go_simp; rfl)); intro w7 hw; have G7 : Aside0 (SysBox gx b0 b1 dd d0 d1 m5 w7) := ⟨by rw [hw]; exact set_other GW.out _ nex0⟩; have Z7 : Aside0 (CopiesD d0 w7 b0 (c5.set i f0)) := ⟨by rw [hw]; exact ZW.out.put (by have := HC5.out; omega) f0 _ rfl⟩; have F7 : Aside0 (FreshsD d1 w7 b1 (List.replicate f5.length false)) := ⟨by rw [hw]; exact FW.out.other _ ne01.symm⟩; have B7 : Aside0 (Below w4.heap.size w4 w7) := ⟨by rw [hw]; exact (below_drew BW_.out).setCell lo0 _⟩; have BW7 : Aside0 (Below w.heap.size w w7) := ⟨below_le HBW B7.out⟩; have g0 : w7.cell? ⟨gx, 0, none⟩ = some (.slice (some ⟨b0, 0, none⟩) dd d0) := blk_cell G7.out 0; have g1_ : w7.cell? ⟨gx, 1, none⟩ = some (.slice (some ⟨b1, 0, none⟩) dd d1) := blk_cell G7.out 1; have p1 : w7.cell? ⟨gq, 1, none⟩ = some (.slice (some ad) t1.length k1_) := blk_cell ((BW7.out.block gq (blk_lt HBP.out)).trans HBP.out) 1; have r0 := (BW7.out.cell (World.block_lt_of_cell? w _ R0.out)).trans R0.out; have r2 := (BW7.out.cell (World.block_lt_of_cell? w _ R2.out)).trans R2.out; have y0 : w7.cell? ⟨b1, i, none⟩ = some (.bool _) := F7.out.cell (show i < (List.replicate f5.length false).length by have := HF5.out; simp; omega) false; have z1 := F7.out.thaw i; clear hw)
                go_still_tail 13, (by kernel_rfl)
                rcases f2 with _ | _
                · go_wp2_with (first | ((with_reducible refine gate_store (t := 4) (p := 156) rfl ?_); refine store_event (t := 4) (p := 156) (v := .tmp 155) (w1 := w7.drew.setCell ⟨b1, i, none⟩ (.bool ef)) ?hg ?ho ?hn ?hr ?_; (case ho => rfl); (case hg => rfl); (case hn => rfl); (case hr => first | (go_simp; done) | (go_simp; rfl)); intro w8 hw; have G8 : Aside0 (SysBox gx b0 b1 dd d0 d1 m5 w8) := ⟨by rw [hw]; exact set_other G7.out _ nex1⟩; have Z8 : Aside0 (CopiesD d0 w8 b0 (c5.set i f0)) := ⟨by rw [hw]; exact Z7.out.other _ ne01⟩; have F8 : Aside0 (FreshsD d1 w8 b1 ((List.replicate f5.length false).set i ef)) := ⟨by rw [hw]; exact F7.out.put (by have := HF5.out; simp; omega) ef _ rfl⟩; have B8 : Aside0 (Below w4.heap.size w4 w8) := ⟨by rw [hw]; exact (below_drew B7.out).setCell lo1 _⟩; have BW8 : Aside0 (Below w.heap.size w w8) := ⟨below_le HBW B8.out⟩; have g0 : w8.cell? ⟨gx, 0, none⟩ = some (.slice (some ⟨b0, 0, none⟩) dd d0) := blk_cell G8.out 0; have g2 : w8.cell? ⟨gx, 2, none⟩ = some (.bool m5) := blk_cell G8.out 2; have zg : w8.frozen? ⟨gx, 2, none⟩ = false := blk_frozen G8.out 2; have p1 : w8.cell? ⟨gq, 1, none⟩ = some (.slice (some ad) t1.length k1_) := blk_cell ((BW8.out.block gq (blk_lt HBP.out)).trans HBP.out) 1; have r0 := (BW8.out.cell (World.block_lt_of_cell? w _ R0.out)).trans R0.out; have r2 := (BW8.out.cell (World.block_lt_of_cell? w _ R2.out)).trans R2.out; clear hw) | ((with_reducible refine gate_store (t := 4) (p := 165) rfl ?_); refine store_event (t := 4) (p := 165) (v := .tmp 164) (w1 := w8.setCell ⟨gx, 2, none⟩ (.bool false)) ?hg ?ho ?hn ?hr ?_; (case ho => rfl); (case hg => rfl); (case hn => rfl); (case hr => first | (go_simp; done) | (go_simp; rfl)); intro w9 hw; have G9 : Aside0 (SysBox gx b0 b1 dd d0 d1 false w9) := ⟨by rw [hw]; exact set_same G8.out _⟩; have Z9 : Aside0 (CopiesD d0 w9 b0 (c5.set i f0)) := ⟨by rw [hw]; exact Z8.out.other _ nex0.symm⟩; have F9 : Aside0 (FreshsD d1 w9 b1 ((List.replicate f5.length false).set i ef)) := ⟨by rw [hw]; exact F8.out.other _ nex1.symm⟩; have B9 : Aside0 (Below w4.heap.size w4 w9) := ⟨by rw [hw]; exact B8.out.setCell lox _⟩; have BW9 : Aside0 (Below w.heap.size w w9) := ⟨below_le HBW B9.out⟩; have p1 : w9.cell? ⟨gq, 1, none⟩ = some (.slice (some ad) t1.length k1_) := blk_cell ((BW9.out.block gq (blk_lt HBP.out)).trans HBP.out) 1; have r2 := (BW9.out.cell (World.block_lt_of_cell? w _ R2.out)).trans R2.out; clear hw))
                  go_meet
                  refine ⟨_, _, _, false, true, bk5, rfl, rfl, rfl, ⟨by have h := HSI.out; rw [HEF.out] at h; simpa using h⟩, G9, Z9, F9, ⟨by rw [List.length_set]; exact HC5.out⟩, ⟨by rw [List.length_set, List.length_replicate]; exact HF5.out⟩, ⟨fun z hz => ?_⟩, ⟨by have := HB5.out; omega⟩, ⟨by have := HBN5.out; omega⟩, B9⟩
                  rcases List.mem_or_eq_of_mem_set hz with hz | hz
                  · exact HV5.out z hz
                  · rw [hz]; exact hrv.out
                · go_wp2_with (first | ((with_reducible refine gate_store (t := 4) (p := 156) rfl ?_); refine store_event (t := 4) (p := 156) (v := .tmp 155) (w1 := w7.drew.setCell ⟨b1, i, none⟩ (.bool ef)) ?hg ?ho ?hn ?hr ?_; (case ho => rfl); (case hg => rfl); (case hn => rfl); (case hr => first | (go_simp; done) | (go_simp; rfl)); intro w8 hw; have G8 : Aside0 (SysBox gx b0 b1 dd d0 d1 m5 w8) := ⟨by rw [hw]; exact set_other G7.out _ nex1⟩; have Z8 : Aside0 (CopiesD d0 w8 b0 (c5.set i f0)) := ⟨by rw [hw]; exact Z7.out.other _ ne01⟩; have F8 : Aside0 (FreshsD d1 w8 b1 ((List.replicate f5.length false).set i ef)) := ⟨by rw [hw]; exact F7.out.put (by have := HF5.out; simp; omega) ef _ rfl⟩; have B8 : Aside0 (Below w4.heap.size w4 w8) := ⟨by rw [hw]; exact (below_drew B7.out).setCell lo1 _⟩; have BW8 : Aside0 (Below w.heap.size w w8) := ⟨below_le HBW B8.out⟩; have g0 : w8.cell? ⟨gx, 0, none⟩ = some (.slice (some ⟨b0, 0, none⟩) dd d0) := blk_cell G8.out 0; have g2 : w8.cell? ⟨gx, 2, none⟩ = some (.bool m5) := blk_cell G8.out 2; have zg : w8.frozen? ⟨gx, 2, none⟩ = false := blk_frozen G8.out 2; have p1 : w8.cell? ⟨gq, 1, none⟩ = some (.slice (some ad) t1.length k1_) := blk_cell ((BW8.out.block gq (blk_lt HBP.out)).trans HBP.out) 1; have r0 := (BW8.out.cell (World.block_lt_of_cell? w _ R0.out)).trans R0.out; have r2 := (BW8.out.cell (World.block_lt_of_cell? w _ R2.out)).trans R2.out; clear hw) | ((with_reducible refine gate_store (t := 4) (p := 165) rfl ?_); refine store_event (t := 4) (p := 165) (v := .tmp 164) (w1 := w8.setCell ⟨gx, 2, none⟩ (.bool true)) ?hg ?ho ?hn ?hr ?_; (case ho => rfl); (case hg => rfl); (case hn => rfl); (case hr => first | (go_simp; done) | (go_simp; rfl)); intro w9 hw; have G9 : Aside0 (SysBox gx b0 b1 dd d0 d1 true w9) := ⟨by rw [hw]; exact set_same G8.out _⟩; have Z9 : Aside0 (CopiesD d0 w9 b0 (c5.set i f0)) := ⟨by rw [hw]; exact Z8.out.other _ nex0.symm⟩; have F9 : Aside0 (FreshsD d1 w9 b1 ((List.replicate f5.length false).set i ef)) := ⟨by rw [hw]; exact F8.out.other _ nex1.symm⟩; have B9 : Aside0 (Below w4.heap.size w4 w9) := ⟨by rw [hw]; exact B8.out.setCell lox _⟩; have BW9 : Aside0 (Below w.heap.size w w9) := ⟨below_le HBW B9.out⟩; have p1 : w9.cell? ⟨gq, 1, none⟩ = some (.slice (some ad) t1.length k1_) := blk_cell ((BW9.out.block gq (blk_lt HBP.out)).trans HBP.out) 1; have r2 := (BW9.out.cell (World.block_lt_of_cell? w _ R2.out)).trans R2.out; clear hw))
                  go_meet
                  refine ⟨_, _, _, false, true, bk5 + 1, rfl, rfl, rfl, ⟨by have h := HSI.out; rw [HEF.out] at h; simpa using h⟩, G9, Z9, F9, ⟨by rw [List.length_set]; exact HC5.out⟩, ⟨by rw [List.length_set, List.length_replicate]; exact HF5.out⟩, ⟨fun z hz => ?_⟩, ⟨by have := HB5.out; omega⟩, ⟨by have := HBN5.out; omega⟩, B9⟩
                  rcases List.mem_or_eq_of_mem_set hz with hz | hz
                  · exact HV5.out z hz
                  · rw [hz]; exact hrv.out
        | false =>
          cases es with
          | true =>
            as_aux_lemma =>
              have hd4 : ∀ ad, A4 = some ad → ad.block ≠ b0 ∧ ad.block ≠ b1 ∧ ad.block ≠ gx := fun ad e => by
                obtain ⟨ad', e', q', _⟩ := at_T58 HT4.out 0 (by omega) (by have := L4.out; omega)
                have := World.block_lt_of_cell? _ _ q'
                rw [blk_add] at this
                rw [e] at e'
                obtain rfl := Option.some.inj e'
                omega
              have HD4 := Aside0.mk hd4
              clear hd4
              go_wp2_with fail
              refine (specSee gx b0 b1 d0 d1 n m c f (i : Int) A4 k4_ t4 wd XG.out X0.out.1 X1.out.1 HC.out HF.out ne01 nex0 nex1 hm (Kd.C_below HT4.out BWd.out) L4.out HD4.out HV.out V4.out).mono ?_
              rintro e w5 ⟨c5, f5, m5, bk5, rfl, hs, hg5, h05, h15, hc5, hf5, hv5, hb5, hbn5, ho5⟩
              have G5 : Aside0 (SysBox gx b0 b1 n d0 d1 m5 w5) := ⟨hg5⟩
              have Z5 : Aside0 (CopiesD d0 w5 b0 c5) := ⟨RowD.only h05 X0.out ho5⟩
              have F5 : Aside0 (FreshsD d1 w5 b1 f5) := ⟨RowD.only h15 X1.out ho5⟩
              have B5 : Aside0 (Below w4.heap.size w4 w5) := ⟨BX.out.trans (ho5.below BX.out.size (by rintro k (e | e | e) <;> omega))⟩
              have HC5 := Aside0.mk hc5
              have HF5 := Aside0.mk hf5
              have HV5 := Aside0.mk hv5
              have HS5 := Aside0.mk hs
              have HB5 := Aside0.mk hb5
              have HBN5 := Aside0.mk hbn5
              clear g0 g1_ g2 z0 z1 zg x0 y0 p1 p4 hg5 h05 h15 ho5 hc5 hf5 hv5 hs hb5 hbn5
              have hwr : IntKind.i64.wrap (bk5 + 1) = bk5 + 1 := by rw [i64_w]; exact wrap_id (by have := HB5.out; omega) (by have := HBN5.out; omega)
              have g0 : w5.cell? ⟨gx, 0, none⟩ = some (.slice (some ⟨b0, 0, none⟩) n d0) := blk_cell G5.out 0
              have g1_ : w5.cell? ⟨gx, 1, none⟩ = some (.slice (some ⟨b1, 0, none⟩) n d1) := blk_cell G5.out 1
              go_wp2_with fail
              clear g0 g1_
              have HSI : Aside0 (stepS t0 t1 t2 t3 t4 c f m 1 i = finI (c5.set i (rd_T58 t1 x).f0) ((List.replicate f5.length false).set i (!decide ((rd_T58 t1 x).f0 = 0))) (rd_T58 t1 x).f2 false true (if (rd_T58 t1 x).f2 then bk5 + 1 else bk5)) := ⟨by
                unfold stepS
                rw [if_neg (by omega), if_pos rfl, ← HX.out]
                simp only [HEX.out, HES.out, Bool.or_true, Bool.true_or, Bool.or_false, if_true, HS5.out]
                rfl⟩
              have hrv : Aside0 (0 ≤ (rd_T58 t1 x).f0 ∧ (rd_T58 t1 x).f0 ≤ 3) := ⟨V1.out _ (by unfold rd_T58; rw [getD_lt t1 x.toNat _ (by have := L1.out; omega)]; exact List.getElem_mem _)⟩
              obtain ⟨ad, e, r0, r1, r2⟩ := at_T58 HT1.out x hxv0 (by omega)
              subst e
              obtain ⟨r, hr⟩ : ∃ r, r = rd_T58 t1 x := ⟨_, rfl⟩
              rw [← hr] at r0 r1 r2 hrv HSI
              clear hr
              obtain ⟨f0, f1, f2⟩ := r
              simp only at r0 r1 r2 hrv HSI
              obtain ⟨ef, hef⟩ : ∃ b, (f0 != 0) = b := ⟨_, rfl⟩
              have HEF : Aside0 ((!decide (f0 = 0)) = ef) := ⟨by rw [← hef]; rfl⟩
              have R0 := Aside0.mk r0
              have R2 := Aside0.mk r2
              clear r0 r1 r2
              go_loopg [16] n (fun gg s16 wr => ∃ dd : Nat, dd ≤ n ∧ n - dd ≤ gg ∧ s16 = .int .i64 dd ∧ Aside0 (SysBox gx b0 b1 n d0 d1 m5 wr) ∧ Aside0 (CopiesD d0 wr b0 c5) ∧ Aside0 (FreshsD d1 wr b1 (List.replicate dd false ++ f5.drop dd)) ∧ Aside0 (Below w4.heap.size w4 wr))
              case atStart => exact ⟨0, Nat.zero_le _, by omega, rfl, G5, Z5, ⟨by simpa using F5.out⟩, B5⟩
              case round =>
                obtain ⟨dd, hdd, hg, rfl, GW, ZW, FW, BW_⟩ := hrel
                have g0 : wr.cell? ⟨gx, 0, none⟩ = some (.slice (some ⟨b0, 0, none⟩) n d0) := blk_cell GW.out 0
                have g1_ : wr.cell? ⟨gx, 1, none⟩ = some (.slice (some ⟨b1, 0, none⟩) n d1) := blk_cell GW.out 1
                have hlf : (List.replicate dd false ++ f5.drop dd).length = n := by have := HF5.out; simp; omega
                by_cases hlt : dd < n
                · have hltz : (dd : Int) < (n : Int) := by omega
                  have y0 : wr.cell? ⟨b1, dd, none⟩ = some (.bool _) := FW.out.cell (show dd < (List.replicate dd false ++ f5.drop dd).length by omega) false
                  have z1 := FW.out.thaw dd
                  go_wp2_with ((with_reducible refine gate_store (t := 4) (p := 131) rfl ?_); refine store_event (t := 4) (p := 131) (v := .const (.bool false)) (w1 := wr.setCell ⟨b1, dd, none⟩ (.bool false)) ?hg ?ho ?hn ?hr ?_; (case ho => rfl); (case hg => rfl); (case hn => rfl); (case hr => first | (go_simp; done) | (go_simp; rfl)); intro w6 hw; have G6 : Aside0 (SysBox gx b0 b1 n d0 d1 m5 w6) := ⟨by rw [hw]; exact set_other GW.out _ nex1⟩; have Z6 : Aside0 (CopiesD d0 w6 b0 c5) := ⟨by rw [hw]; exact ZW.out.other _ ne01⟩; have F6 : Aside0 (FreshsD d1 w6 b1 ((List.replicate dd false ++ f5.drop dd).set dd false)) := ⟨by rw [hw]; exact FW.out.put (by omega) false _ rfl⟩; have B6 : Aside0 (Below w4.heap.size w4 w6) := ⟨by rw [hw]; exact BW_.out.setCell lo1 _⟩; clear hw)
                  go_roundg (n - (dd + 1))
                  case measure => omega
                  case rel =>
                    refine ⟨dd + 1, by omega, by omega, by go_num, G6, Z6, ⟨?_⟩, B6⟩
                    have := F6.out
                    rw [set_mark_ _ _ _ _ (by simp) (by have := HF5.out; omega)] at this
                    rw [show List.replicate (dd + 1) false = List.replicate dd false ++ [false] from List.replicate_succ']
                    exact this
                · have hltz : ¬ (dd : Int) < (n : Int) := by omega
                  obtain rfl : dd = n := by omega
                  have FW : Aside0 (FreshsD d1 wr b1 (List.replicate f5.length false)) := ⟨by have h := FW.out; rw [List.drop_eq_nil_of_le (by have := HF5.out; omega), List.append_nil] at h; rw [HF5.out]; exact h⟩
                  have BWr : Aside0 (Below w.heap.size w wr) := ⟨below_le HBW BW_.out⟩
                  have p1 : wr.cell? ⟨gq, 1, none⟩ = some (.slice (some ad) t1.length k1_) := blk_cell ((BWr.out.block gq (blk_lt HBP.out)).trans HBP.out) 1
                  have r0 := (BWr.out.cell (World.block_lt_of_cell? w _ R0.out)).trans R0.out
                  have r2 := (BWr.out.cell (World.block_lt_of_cell? w _ R2.out)).trans R2.out
                  have x0 : wr.cell? ⟨b0, i, none⟩ = some (.int .i64 _) := ZW.out.cell (show i < c5.length by have := HC5.out; omega) 0
                  have z0 := ZW.out.thaw i
                  have hiz : (i : Int) < (dd : Int) := by omega
                  go_wp2_with fail
                  go_still_tail 12, (by kernel_rfl)
                  go_wp2_with ((with_reducible refine gate_store (t := 2) (p := 143) rfl ?_); refine store_event (t := 2) (p := 143) (v := .tmp 142) (w1 := wr.drew.setCell ⟨b0, i, none⟩ (.int .i64 f0)) ?hg ?ho ?hn ?hr ?_; (case ho => rfl); (case hg => rfl); (case hn => rfl); (case hr => first | (go_simp; done) | (go_simp; rfl)); intro w7 hw; have G7 : Aside0 (SysBox gx b0 b1 dd d0 d1 m5 w7) := ⟨by rw [hw]; exact set_other GW.out _ nex0⟩; have Z7 : Aside0 (CopiesD d0 w7 b0 (c5.set i f0)) := ⟨by rw [hw]; exact ZW.out.put (by have := HC5.out; omega) f0 _ rfl⟩; have F7 : Aside0 (FreshsD d1 w7 b1 (List.replicate f5.length false)) := ⟨by rw [hw]; exact FW.out.other _ ne01.symm⟩; have B7 : Aside0 (Below w4.heap.size w4 w7) := ⟨by rw [hw]; exact (below_drew BW_.out).setCell lo0 _⟩; have BW7 : Aside0 (Below w.heap.size w w7) := ⟨below_le HBW B7.out⟩; have g0 : w7.cell? ⟨gx, 0, none⟩ = some (.slice (some ⟨b0, 0, none⟩) dd d0) := blk_cell G7.out 0; have g1_ : w7.cell? ⟨gx, 1, none⟩ = some (.slice (some ⟨b1, 0, none⟩) dd d1) := blk_cell G7.out 1; have p1 : w7.cell? ⟨gq, 1, none⟩ = some (.slice (some ad) t1.length k1_) := blk_cell ((BW7.out.block gq (blk_lt HBP.out)).trans HBP.out) 1; have r0 := (BW7.out.cell (World.block_lt_of_cell? w _ R0.out)).trans R0.out; have r2 := (BW7.out.cell (World.block_lt_of_cell? w _ R2.out)).trans R2.out; have y0 : w7.cell? ⟨b1, i, none⟩ = some (.bool _) := F7.out.cell (show i < (List.replicate f5.length false).length by have := HF5.out; simp; omega) false; have z1 := F7.out.thaw i; clear hw)
                  go_still_tail 13, (by kernel_rfl)
                  rcases f2 with _ | _
                  · go_wp2_with (first | ((with_reducible refine gate_store (t := 4) (p := 156) rfl ?_); refine store_event (t := 4) (p := 156) (v := .tmp 155) (w1 := w7.drew.setCell ⟨b1, i, none⟩ (.bool ef)) ?hg ?ho ?hn ?hr ?_; (case ho => rfl); (case hg => rfl); (case hn => rfl); (case hr => first | (go_simp; done) | (go_simp; rfl)); intro w8 hw; have G8 : Aside0 (SysBox gx b0 b1 dd d0 d1 m5 w8) := ⟨by rw [hw]; exact set_other G7.out _ nex1⟩; have Z8 : Aside0 (CopiesD d0 w8 b0 (c5.set i f0)) := ⟨by rw [hw]; exact Z7.out.other _ ne01⟩; have F8 : Aside0 (FreshsD d1 w8 b1 ((List.replicate f5.length false).set i ef)) := ⟨by rw [hw]; exact F7.out.put (by have := HF5.out; simp; omega) ef _ rfl⟩; have B8 : Aside0 (Below w4.heap.size w4 w8) := ⟨by rw [hw]; exact (below_drew B7.out).setCell lo1 _⟩; have BW8 : Aside0 (Below w.heap.size w w8) := ⟨below_le HBW B8.out⟩; have g0 : w8.cell? ⟨gx, 0, none⟩ = some (.slice (some ⟨b0, 0, none⟩) dd d0) := blk_cell G8.out 0; have g2 : w8.cell? ⟨gx, 2, none⟩ = some (.bool m5) := blk_cell G8.out 2; have zg : w8.frozen? ⟨gx, 2, none⟩ = false := blk_frozen G8.out 2; have p1 : w8.cell? ⟨gq, 1, none⟩ = some (.slice (some ad) t1.length k1_) := blk_cell ((BW8.out.block gq (blk_lt HBP.out)).trans HBP.out) 1; have r0 := (BW8.out.cell (World.block_lt_of_cell? w _ R0.out)).trans R0.out; have r2 := (BW8.out.cell (World.block_lt_of_cell? w _ R2.out)).trans R2.out; clear hw) | ((with_reducible refine gate_store (t := 4) (p := 165) rfl ?_); refine store_event (t := 4) (p := 165) (v := .tmp 164) (w1 := w8.setCell ⟨gx, 2, none⟩ (.bool false)) ?hg ?ho ?hn ?hr ?_; (case ho => rfl); (case hg => rfl); (case hn => rfl); (case hr => first | (go_simp; done) | (go_simp; rfl)); intro w9 hw; have G9 : Aside0 (SysBox gx b0 b1 dd d0 d1 false w9) := ⟨by rw [hw]; exact set_same G8.out _⟩; have Z9 : Aside0 (CopiesD d0 w9 b0 (c5.set i f0)) := ⟨by rw [hw]; exact Z8.out.other _ nex0.symm⟩; have F9 : Aside0 (FreshsD d1 w9 b1 ((List.replicate f5.length false).set i ef)) := ⟨by rw [hw]; exact F8.out.other _ nex1.symm⟩; have B9 : Aside0 (Below w4.heap.size w4 w9) := ⟨by rw [hw]; exact B8.out.setCell lox _⟩; have BW9 : Aside0 (Below w.heap.size w w9) := ⟨below_le HBW B9.out⟩; have p1 : w9.cell? ⟨gq, 1, none⟩ = some (.slice (some ad) t1.length k1_) := blk_cell ((BW9.out.block gq (blk_lt HBP.out)).trans HBP.out) 1; have r2 := (BW9.out.cell (World.block_lt_of_cell? w _ R2.out)).trans R2.out; clear hw))
                    go_meet
                    refine ⟨_, _, _, false, true, bk5, rfl, rfl, rfl, ⟨by have h := HSI.out; rw [HEF.out] at h; simpa using h⟩, G9, Z9, F9, ⟨by rw [List.length_set]; exact HC5.out⟩, ⟨by rw [List.length_set, List.length_replicate]; exact HF5.out⟩, ⟨fun z hz => ?_⟩, ⟨by have := HB5.out; omega⟩, ⟨by have := HBN5.out; omega⟩, B9⟩
                    rcases List.mem_or_eq_of_mem_set hz with hz | hz
                    · exact HV5.out z hz
                    · rw [hz]; exact hrv.out
                  · go_wp2_with (first | ((with_reducible refine gate_store (t := 4) (p := 156) rfl ?_); refine store_event (t := 4) (p := 156) (v := .tmp 155) (w1 := w7.drew.setCell ⟨b1, i, none⟩ (.bool ef)) ?hg ?ho ?hn ?hr ?_; (case ho => rfl); (case hg => rfl); (case hn => rfl); (case hr => first | (go_simp; done) | (go_simp; rfl)); intro w8 hw; have G8 : Aside0 (SysBox gx b0 b1 dd d0 d1 m5 w8) := ⟨by rw [hw]; exact set_other G7.out _ nex1⟩; have Z8 : Aside0 (CopiesD d0 w8 b0 (c5.set i f0)) := ⟨by rw [hw]; exact Z7.out.other _ ne01⟩; have F8 : Aside0 (FreshsD d1 w8 b1 ((List.replicate f5.length false).set i ef)) := ⟨by rw [hw]; exact F7.out.put (by have := HF5.out; simp; omega) ef _ rfl⟩; have B8 : Aside0 (Below w4.heap.size w4 w8) := ⟨by rw [hw]; exact (below_drew B7.out).setCell lo1 _⟩; have BW8 : Aside0 (Below w.heap.size w w8) := ⟨below_le HBW B8.out⟩; have g0 : w8.cell? ⟨gx, 0, none⟩ = some (.slice (some ⟨b0, 0, none⟩) dd d0) := blk_cell G8.out 0; have g2 : w8.cell? ⟨gx, 2, none⟩ = some (.bool m5) := blk_cell G8.out 2; have zg : w8.frozen? ⟨gx, 2, none⟩ = false := blk_frozen G8.out 2; have p1 : w8.cell? ⟨gq, 1, none⟩ = some (.slice (some ad) t1.length k1_) := blk_cell ((BW8.out.block gq (blk_lt HBP.out)).trans HBP.out) 1; have r0 := (BW8.out.cell (World.block_lt_of_cell? w _ R0.out)).trans R0.out; have r2 := (BW8.out.cell (World.block_lt_of_cell? w _ R2.out)).trans R2.out; clear hw) | ((with_reducible refine gate_store (t := 4) (p := 165) rfl ?_); refine store_event (t := 4) (p := 165) (v := .tmp 164) (w1 := w8.setCell ⟨gx, 2, none⟩ (.bool true)) ?hg ?ho ?hn ?hr ?_; (case ho => rfl); (case hg => rfl); (case hn => rfl); (case hr => first | (go_simp; done) | (go_simp; rfl)); intro w9 hw; have G9 : Aside0 (SysBox gx b0 b1 dd d0 d1 true w9) := ⟨by rw [hw]; exact set_same G8.out _⟩; have Z9 : Aside0 (CopiesD d0 w9 b0 (c5.set i f0)) := ⟨by rw [hw]; exact Z8.out.other _ nex0.symm⟩; have F9 : Aside0 (FreshsD d1 w9 b1 ((List.replicate f5.length false).set i ef)) := ⟨by rw [hw]; exact F8.out.other _ nex1.symm⟩; have B9 : Aside0 (Below w4.heap.size w4 w9) := ⟨by rw [hw]; exact B8.out.setCell lox _⟩; have BW9 : Aside0 (Below w.heap.size w w9) := ⟨below_le HBW B9.out⟩; have p1 : w9.cell? ⟨gq, 1, none⟩ = some (.slice (some ad) t1.length k1_) := blk_cell ((BW9.out.block gq (blk_lt HBP.out)).trans HBP.out) 1; have r2 := (BW9.out.cell (World.block_lt_of_cell? w _ R2.out)).trans R2.out; clear hw))
                    go_meet
                    refine ⟨_, _, _, false, true, bk5 + 1, rfl, rfl, rfl, ⟨by have h := HSI.out; rw [HEF.out] at h; simpa using h⟩, G9, Z9, F9, ⟨by rw [List.length_set]; exact HC5.out⟩, ⟨by rw [List.length_set, List.length_replicate]; exact HF5.out⟩, ⟨fun z hz => ?_⟩, ⟨by have := HB5.out; omega⟩, ⟨by have := HBN5.out; omega⟩, B9⟩
                    rcases List.mem_or_eq_of_mem_set hz with hz | hz
                    · exact HV5.out z hz
                    · rw [hz]; exact hrv.out
          | false =>
            as_aux_lemma =>
              go_wp2_with fail
              clear p1 p4 g0 g1_ g2 z0 z1 zg x0 y0
              have HSI : Aside0 (stepS t0 t1 t2 t3 t4 c f m 1 i = finI (c.set i (rd_T58 t1 x).f0) ((List.replicate f.length false).set i (!decide ((rd_T58 t1 x).f0 = 0))) (rd_T58 t1 x).f2 false false (if (rd_T58 t1 x).f2 then 0 + 1 else 0)) := ⟨by
                unfold stepS
                rw [if_neg (by omega), if_pos rfl, ← HX.out]
                simp only [HEX.out, HES.out, Bool.or_true, Bool.true_or, Bool.or_false, if_true, Bool.false_eq_true, if_false]
                rfl⟩
              have hrv : Aside0 (0 ≤ (rd_T58 t1 x).f0 ∧ (rd_T58 t1 x).f0 ≤ 3) := ⟨V1.out _ (by unfold rd_T58; rw [getD_lt t1 x.toNat _ (by have := L1.out; omega)]; exact List.getElem_mem _)⟩
              obtain ⟨ad, e, r0, r1, r2⟩ := at_T58 HT1.out x hxv0 (by omega)
              subst e
              obtain ⟨r, hr⟩ : ∃ r, r = rd_T58 t1 x := ⟨_, rfl⟩
              rw [← hr] at r0 r1 r2 hrv HSI
              clear hr
              obtain ⟨f0, f1, f2⟩ := r
              simp only at r0 r1 r2 hrv HSI
              obtain ⟨ef, hef⟩ : ∃ b, (f0 != 0) = b := ⟨_, rfl⟩
              have HEF : Aside0 ((!decide (f0 = 0)) = ef) := ⟨by rw [← hef]; rfl⟩
              have R0 := Aside0.mk r0
              have R2 := Aside0.mk r2
              clear r0 r1 r2
              go_loopg [16] n (fun gg s16 wr => ∃ dd : Nat, dd ≤ n ∧ n - dd ≤ gg ∧ s16 = .int .i64 dd ∧ Aside0 (SysBox gx b0 b1 n d0 d1 m wr) ∧ Aside0 (CopiesD d0 wr b0 c) ∧ Aside0 (FreshsD d1 wr b1 (List.replicate dd false ++ f.drop dd)) ∧ Aside0 (Below w4.heap.size w4 wr))
              case atStart => exact ⟨0, Nat.zero_le _, by omega, rfl, XG, X0, ⟨by simpa using X1.out⟩, ⟨BX.out⟩⟩
              case round =>
                obtain ⟨dd, hdd, hg, rfl, GW, ZW, FW, BW_⟩ := hrel
                have g0 : wr.cell? ⟨gx, 0, none⟩ = some (.slice (some ⟨b0, 0, none⟩) n d0) := blk_cell GW.out 0
                have g1_ : wr.cell? ⟨gx, 1, none⟩ = some (.slice (some ⟨b1, 0, none⟩) n d1) := blk_cell GW.out 1
                have hlf : (List.replicate dd false ++ f.drop dd).length = n := by have := HF.out; simp; omega
                by_cases hlt : dd < n
                · have hltz : (dd : Int) < (n : Int) := by omega
                  have y0 : wr.cell? ⟨b1, dd, none⟩ = some (.bool _) := FW.out.cell (show dd < (List.replicate dd false ++ f.drop dd).length by omega) false
                  have z1 := FW.out.thaw dd
                  go_wp2_with ((with_reducible refine gate_store (t := 4) (p := 131) rfl ?_); refine store_event (t := 4) (p := 131) (v := .const (.bool false)) (w1 := wr.setCell ⟨b1, dd, none⟩ (.bool false)) ?hg ?ho ?hn ?hr ?_; (case ho => rfl); (case hg => rfl); (case hn => rfl); (case hr => first | (go_simp; done) | (go_simp; rfl)); intro w6 hw; have G6 : Aside0 (SysBox gx b0 b1 n d0 d1 m w6) := ⟨by rw [hw]; exact set_other GW.out _ nex1⟩; have Z6 : Aside0 (CopiesD d0 w6 b0 c) := ⟨by rw [hw]; exact ZW.out.other _ ne01⟩; have F6 : Aside0 (FreshsD d1 w6 b1 ((List.replicate dd false ++ f.drop dd).set dd false)) := ⟨by rw [hw]; exact FW.out.put (by omega) false _ rfl⟩; have B6 : Aside0 (Below w4.heap.size w4 w6) := ⟨by rw [hw]; exact BW_.out.setCell lo1 _⟩; clear hw)
                  go_roundg (n - (dd + 1))
                  case measure => omega
                  case rel =>
                    refine ⟨dd + 1, by omega, by omega, by go_num, G6, Z6, ⟨?_⟩, B6⟩
                    have := F6.out
                    rw [set_mark_ _ _ _ _ (by simp) (by have := HF.out; omega)] at this
                    rw [show List.replicate (dd + 1) false = List.replicate dd false ++ [false] from List.replicate_succ']
                    exact this
                · have hltz : ¬ (dd : Int) < (n : Int) := by omega
                  obtain rfl : dd = n := by omega
                  have FW : Aside0 (FreshsD d1 wr b1 (List.replicate f.length false)) := ⟨by have h := FW.out; rw [List.drop_eq_nil_of_le (by have := HF.out; omega), List.append_nil] at h; rw [HF.out]; exact h⟩
                  have BWr : Aside0 (Below w.heap.size w wr) := ⟨below_le HBW BW_.out⟩
                  have p1 : wr.cell? ⟨gq, 1, none⟩ = some (.slice (some ad) t1.length k1_) := blk_cell ((BWr.out.block gq (blk_lt HBP.out)).trans HBP.out) 1
                  have r0 := (BWr.out.cell (World.block_lt_of_cell? w _ R0.out)).trans R0.out
                  have r2 := (BWr.out.cell (World.block_lt_of_cell? w _ R2.out)).trans R2.out
                  have x0 : wr.cell? ⟨b0, i, none⟩ = some (.int .i64 _) := ZW.out.cell (show i < c.length by have := HC.out; omega) 0
                  have z0 := ZW.out.thaw i
                  have hiz : (i : Int) < (dd : Int) := by omega
                  go_wp2_with fail
                  go_still_tail 12, (by kernel_rfl)
                  go_wp2_with ((with_reducible refine gate_store (t := 2) (p := 143) rfl ?_); refine store_event (t := 2) (p := 143) (v := .tmp 142) (w1 := wr.drew.setCell ⟨b0, i, none⟩ (.int .i64 f0)) ?hg ?ho ?hn ?hr ?_; (case ho => rfl); (case hg => rfl); (case hn => rfl); (case hr => first | (go_simp; done) | (go_simp; rfl)); intro w7 hw; have G7 : Aside0 (SysBox gx b0 b1 dd d0 d1 m w7) := ⟨by rw [hw]; exact set_other GW.out _ nex0⟩; have Z7 : Aside0 (CopiesD d0 w7 b0 (c.set i f0)) := ⟨by rw [hw]; exact ZW.out.put (by have := HC.out; omega) f0 _ rfl⟩; have F7 : Aside0 (FreshsD d1 w7 b1 (List.replicate f.length false)) := ⟨by rw [hw]; exact FW.out.other _ ne01.symm⟩; have B7 : Aside0 (Below w4.heap.size w4 w7) := ⟨by rw [hw]; exact (below_drew BW_.out).setCell lo0 _⟩; have BW7 : Aside0 (Below w.heap.size w w7) := ⟨below_le HBW B7.out⟩; have g0 : w7.cell? ⟨gx, 0, none⟩ = some (.slice (some ⟨b0, 0, none⟩) dd d0) := blk_cell G7.out 0; have g1_ : w7.cell? ⟨gx, 1, none⟩ = some (.slice (some ⟨b1, 0, none⟩) dd d1) := blk_cell G7.out 1; have p1 : w7.cell? ⟨gq, 1, none⟩ = some (.slice (some ad) t1.length k1_) := blk_cell ((BW7.out.block gq (blk_lt HBP.out)).trans HBP.out) 1; have r0 := (BW7.out.cell (World.block_lt_of_cell? w _ R0.out)).trans R0.out; have r2 := (BW7.out.cell (World.block_lt_of_cell? w _ R2.out)).trans R2.out; have y0 : w7.cell? ⟨b1, i, none⟩ = some (.bool _) := F7.out.cell (show i < (List.replicate f.length false).length by have := HF.out; simp; omega) false; have z1 := F7.out.thaw i; clear hw)
                  go_still_tail 13, (by kernel_rfl)
                  rcases f2 with _ | _
                  · go_wp2_with (first | ((with_reducible refine gate_store (t := 4) (p := 156) rfl ?_); refine store_event (t := 4) (p := 156) (v := .tmp 155) (w1 := w7.drew.setCell ⟨b1, i, none⟩ (.bool ef)) ?hg ?ho ?hn ?hr ?_; (case ho => rfl); (case hg => rfl); (case hn => rfl); (case hr => first | (go_simp; done) | (go_simp; rfl)); intro w8 hw; have G8 : Aside0 (SysBox gx b0 b1 dd d0 d1 m w8) := ⟨by rw [hw]; exact set_other G7.out _ nex1⟩; have Z8 : Aside0 (CopiesD d0 w8 b0 (c.set i f0)) := ⟨by rw [hw]; exact Z7.out.other _ ne01⟩; have F8 : Aside0 (FreshsD d1 w8 b1 ((List.replicate f.length false).set i ef)) := ⟨by rw [hw]; exact F7.out.put (by have := HF.out; simp; omega) ef _ rfl⟩; have B8 : Aside0 (Below w4.heap.size w4 w8) := ⟨by rw [hw]; exact (below_drew B7.out).setCell lo1 _⟩; have BW8 : Aside0 (Below w.heap.size w w8) := ⟨below_le HBW B8.out⟩; have g0 : w8.cell? ⟨gx, 0, none⟩ = some (.slice (some ⟨b0, 0, none⟩) dd d0) := blk_cell G8.out 0; have g2 : w8.cell? ⟨gx, 2, none⟩ = some (.bool m) := blk_cell G8.out 2; have zg : w8.frozen? ⟨gx, 2, none⟩ = false := blk_frozen G8.out 2; have p1 : w8.cell? ⟨gq, 1, none⟩ = some (.slice (some ad) t1.length k1_) := blk_cell ((BW8.out.block gq (blk_lt HBP.out)).trans HBP.out) 1; have r0 := (BW8.out.cell (World.block_lt_of_cell? w _ R0.out)).trans R0.out; have r2 := (BW8.out.cell (World.block_lt_of_cell? w _ R2.out)).trans R2.out; clear hw) | ((with_reducible refine gate_store (t := 4) (p := 165) rfl ?_); refine store_event (t := 4) (p := 165) (v := .tmp 164) (w1 := w8.setCell ⟨gx, 2, none⟩ (.bool false)) ?hg ?ho ?hn ?hr ?_; (case ho => rfl); (case hg => rfl); (case hn => rfl); (case hr => first | (go_simp; done) | (go_simp; rfl)); intro w9 hw; have G9 : Aside0 (SysBox gx b0 b1 dd d0 d1 false w9) := ⟨by rw [hw]; exact set_same G8.out _⟩; have Z9 : Aside0 (CopiesD d0 w9 b0 (c.set i f0)) := ⟨by rw [hw]; exact Z8.out.other _ nex0.symm⟩; have F9 : Aside0 (FreshsD d1 w9 b1 ((List.replicate f.length false).set i ef)) := ⟨by rw [hw]; exact F8.out.other _ nex1.symm⟩; have B9 : Aside0 (Below w4.heap.size w4 w9) := ⟨by rw [hw]; exact B8.out.setCell lox _⟩; have BW9 : Aside0 (Below w.heap.size w w9) := ⟨below_le HBW B9.out⟩; have p1 : w9.cell? ⟨gq, 1, none⟩ = some (.slice (some ad) t1.length k1_) := blk_cell ((BW9.out.block gq (blk_lt HBP.out)).trans HBP.out) 1; have r2 := (BW9.out.cell (World.block_lt_of_cell? w _ R2.out)).trans R2.out; clear hw))
                    go_meet
                    refine ⟨_, _, _, false, false, 0, rfl, rfl, rfl, ⟨by have h := HSI.out; rw [HEF.out] at h; simpa using h⟩, G9, Z9, F9, ⟨by rw [List.length_set]; exact HC.out⟩, ⟨by rw [List.length_set, List.length_replicate]; exact HF.out⟩, ⟨fun z hz => ?_⟩, ⟨by omega⟩, ⟨by omega⟩, B9⟩
                    rcases List.mem_or_eq_of_mem_set hz with hz | hz
                    · exact HV.out z hz
                    · rw [hz]; exact hrv.out
                  · go_wp2_with (first | ((with_reducible refine gate_store (t := 4) (p := 156) rfl ?_); refine store_event (t := 4) (p := 156) (v := .tmp 155) (w1 := w7.drew.setCell ⟨b1, i, none⟩ (.bool ef)) ?hg ?ho ?hn ?hr ?_; (case ho => rfl); (case hg => rfl); (case hn => rfl); (case hr => first | (go_simp; done) | (go_simp; rfl)); intro w8 hw; have G8 : Aside0 (SysBox gx b0 b1 dd d0 d1 m w8) := ⟨by rw [hw]; exact set_other G7.out _ nex1⟩; have Z8 : Aside0 (CopiesD d0 w8 b0 (c.set i f0)) := ⟨by rw [hw]; exact Z7.out.other _ ne01⟩; have F8 : Aside0 (FreshsD d1 w8 b1 ((List.replicate f.length false).set i ef)) := ⟨by rw [hw]; exact F7.out.put (by have := HF.out; simp; omega) ef _ rfl⟩; have B8 : Aside0 (Below w4.heap.size w4 w8) := ⟨by rw [hw]; exact (below_drew B7.out).setCell lo1 _⟩; have BW8 : Aside0 (Below w.heap.size w w8) := ⟨below_le HBW B8.out⟩; have g0 : w8.cell? ⟨gx, 0, none⟩ = some (.slice (some ⟨b0, 0, none⟩) dd d0) := blk_cell G8.out 0; have g2 : w8.cell? ⟨gx, 2, none⟩ = some (.bool m) := blk_cell G8.out 2; have zg : w8.frozen? ⟨gx, 2, none⟩ = false := blk_frozen G8.out 2; have p1 : w8.cell? ⟨gq, 1, none⟩ = some (.slice (some ad) t1.length k1_) := blk_cell ((BW8.out.block gq (blk_lt HBP.out)).trans HBP.out) 1; have r0 := (BW8.out.cell (World.block_lt_of_cell? w _ R0.out)).trans R0.out; have r2 := (BW8.out.cell (World.block_lt_of_cell? w _ R2.out)).trans R2.out; clear hw) | ((with_reducible refine gate_store (t := 4) (p := 165) rfl ?_); refine store_event (t := 4) (p := 165) (v := .tmp 164) (w1 := w8.setCell ⟨gx, 2, none⟩ (.bool true)) ?hg ?ho ?hn ?hr ?_; (case ho => rfl); (case hg => rfl); (case hn => rfl); (case hr => first | (go_simp; done) | (go_simp; rfl)); intro w9 hw; have G9 : Aside0 (SysBox gx b0 b1 dd d0 d1 true w9) := ⟨by rw [hw]; exact set_same G8.out _⟩; have Z9 : Aside0 (CopiesD d0 w9 b0 (c.set i f0)) := ⟨by rw [hw]; exact Z8.out.other _ nex0.symm⟩; have F9 : Aside0 (FreshsD d1 w9 b1 ((List.replicate f.length false).set i ef)) := ⟨by rw [hw]; exact F8.out.other _ nex1.symm⟩; have B9 : Aside0 (Below w4.heap.size w4 w9) := ⟨by rw [hw]; exact B8.out.setCell lox _⟩; have BW9 : Aside0 (Below w.heap.size w w9) := ⟨below_le HBW B9.out⟩; have p1 : w9.cell? ⟨gq, 1, none⟩ = some (.slice (some ad) t1.length k1_) := blk_cell ((BW9.out.block gq (blk_lt HBP.out)).trans HBP.out) 1; have r2 := (BW9.out.cell (World.block_lt_of_cell? w _ R2.out)).trans R2.out; clear hw))
                    go_meet
                    refine ⟨_, _, _, false, false, 1, rfl, rfl, rfl, ⟨by have h := HSI.out; rw [HEF.out] at h; simpa using h⟩, G9, Z9, F9, ⟨by rw [List.length_set]; exact HC.out⟩, ⟨by rw [List.length_set, List.length_replicate]; exact HF.out⟩, ⟨fun z hz => ?_⟩, ⟨by omega⟩, ⟨by omega⟩, B9⟩
                    rcases List.mem_or_eq_of_mem_set hz with hz | hz
                    · exact HV.out z hz
                    · rw [hz]; exact hrv.out
      · as_aux_lemma =>
          have p0 : wd.cell? ⟨gq, 2, none⟩ = some (.slice A2 t2.length k2_) := blk_cell P0.out 2
          obtain ⟨ad, e, r0, r1, r2⟩ := at_T58 (Kd.C_below HT2.out BWd.out) x hxv0 (by omega)
          subst e
          have SI : Aside0 (stepS t0 t1 t2 t3 t4 c f m 2 i = finI (c.set i 0) (f.set i false) (if (rd_T58 t2 x).f2 then y else m) false false (if (rd_T58 t2 x).f2 then 1 else 0)) := ⟨by
            unfold stepS
            rw [if_neg (by omega), if_neg (by omega), ← HX.out, ← HY.out]
            rfl⟩
          obtain ⟨r, hr⟩ : ∃ r, r = rd_T58 t2 x := ⟨_, rfl⟩
          rw [← hr] at r0 r1 r2 SI
          clear hr
          obtain ⟨f0, f1, f2⟩ := r
          simp only at r0 r1 r2 SI
          have hcase2 : f2 = true ∨ f2 = false := by cases f2 <;> simp
          rcases hcase2 with rfl | rfl
          · go_wp2_with (first
              | ((with_reducible refine gate_store (t := 4) (p := 191) rfl ?_); refine store_event (t := 4) (p := 191) (v := .tmp 190) (w1 := wd.setCell ⟨gx, 2, none⟩ (.bool y)) ?hg ?ho ?hn ?hr ?_; (case ho => rfl); (case hg => rfl); (case hn => rfl); (case hr => first | (go_simp; done) | (go_simp; rfl)); intro w5 hw; have G5 : Aside0 (SysBox gx b0 b1 n d0 d1 y w5) := ⟨by rw [hw]; exact set_same XG.out _⟩; have Z5 : Aside0 (CopiesD d0 w5 b0 (c)) := ⟨by rw [hw]; exact X0.out.other _ nex0.symm⟩; have F5 : Aside0 (FreshsD d1 w5 b1 (f)) := ⟨by rw [hw]; exact X1.out.other _ nex1.symm⟩; have B5 : Aside0 (Below w4.heap.size w4 w5) := ⟨by rw [hw]; exact BX.out.setCell lox _⟩; have g0 : w5.cell? ⟨gx, 0, none⟩ = some (.slice (some ⟨b0, 0, none⟩) n d0) := blk_cell G5.out 0; have g1_ : w5.cell? ⟨gx, 1, none⟩ = some (.slice (some ⟨b1, 0, none⟩) n d1) := blk_cell G5.out 1; have z0 := Z5.out.thaw i; have z1 := F5.out.thaw i; have x0 : w5.cell? ⟨b0, i, none⟩ = some (.int .i64 _) := Z5.out.cell (show i < (c).length by have := HC.out; omega) 0; have y0 : w5.cell? ⟨b1, i, none⟩ = some (.bool _) := F5.out.cell (show i < (f).length by have := HF.out; omega) false; clear hw)
              | ((with_reducible refine gate_store (t := 2) (p := 197) rfl ?_); refine store_event (t := 2) (p := 197) (v := .const (.int .i64 0)) (w1 := w5.setCell ⟨b0, i, none⟩ (.int .i64 0)) ?hg ?ho ?hn ?hr ?_; (case ho => rfl); (case hg => rfl); (case hn => rfl); (case hr => first | (go_simp; done) | (go_simp; rfl)); intro w6 hw; have G6 : Aside0 (SysBox gx b0 b1 n d0 d1 y w6) := ⟨by rw [hw]; exact set_other G5.out _ nex0⟩; have Z6 : Aside0 (CopiesD d0 w6 b0 (c.set i 0)) := ⟨by rw [hw]; exact Z5.out.put (by have := HC.out; omega) 0 _ rfl⟩; have F6 : Aside0 (FreshsD d1 w6 b1 (f)) := ⟨by rw [hw]; exact F5.out.other _ ne01.symm⟩; have B6 : Aside0 (Below w4.heap.size w4 w6) := ⟨by rw [hw]; exact B5.out.setCell lo0 _⟩; have g0 : w6.cell? ⟨gx, 0, none⟩ = some (.slice (some ⟨b0, 0, none⟩) n d0) := blk_cell G6.out 0; have g1_ : w6.cell? ⟨gx, 1, none⟩ = some (.slice (some ⟨b1, 0, none⟩) n d1) := blk_cell G6.out 1; have z0 := Z6.out.thaw i; have z1 := F6.out.thaw i; have x0 : w6.cell? ⟨b0, i, none⟩ = some (.int .i64 _) := Z6.out.cell (show i < (c.set i 0).length by have := HC.out; rw [List.length_set]; omega) 0; have y0 : w6.cell? ⟨b1, i, none⟩ = some (.bool _) := F6.out.cell (show i < (f).length by have := HF.out; omega) false; clear hw)
              | ((with_reducible refine gate_store (t := 4) (p := 201) rfl ?_); refine store_event (t := 4) (p := 201) (v := .const (.bool false)) (w1 := w6.setCell ⟨b1, i, none⟩ (.bool false)) ?hg ?ho ?hn ?hr ?_; (case ho => rfl); (case hg => rfl); (case hn => rfl); (case hr => first | (go_simp; done) | (go_simp; rfl)); intro w7 hw; have G7 : Aside0 (SysBox gx b0 b1 n d0 d1 y w7) := ⟨by rw [hw]; exact set_other G6.out _ nex1⟩; have Z7 : Aside0 (CopiesD d0 w7 b0 (c.set i 0)) := ⟨by rw [hw]; exact Z6.out.other _ ne01⟩; have F7 : Aside0 (FreshsD d1 w7 b1 (f.set i false)) := ⟨by rw [hw]; exact F6.out.put (by have := HF.out; omega) false _ rfl⟩; have B7 : Aside0 (Below w4.heap.size w4 w7) := ⟨by rw [hw]; exact B6.out.setCell lo1 _⟩; clear hw))
            go_meet
            refine ⟨_, _, _, false, false, 1, rfl, rfl, rfl, ⟨SI.out⟩, G7, Z7, F7, ⟨by rw [List.length_set]; exact HC.out⟩, ⟨by rw [List.length_set]; exact HF.out⟩, ⟨fun z hz => ?_⟩, ⟨by omega⟩, ⟨by omega⟩, B7⟩
            rcases List.mem_or_eq_of_mem_set hz with hz | hz
            · exact HV.out z hz
            · subst hz; omega
          · go_wp2_with (first
              | ((with_reducible refine gate_store (t := 2) (p := 197) rfl ?_); refine store_event (t := 2) (p := 197) (v := .const (.int .i64 0)) (w1 := wd.setCell ⟨b0, i, none⟩ (.int .i64 0)) ?hg ?ho ?hn ?hr ?_; (case ho => rfl); (case hg => rfl); (case hn => rfl); (case hr => first | (go_simp; done) | (go_simp; rfl)); intro w6 hw; have G6 : Aside0 (SysBox gx b0 b1 n d0 d1 m w6) := ⟨by rw [hw]; exact set_other XG.out _ nex0⟩; have Z6 : Aside0 (CopiesD d0 w6 b0 (c.set i 0)) := ⟨by rw [hw]; exact X0.out.put (by have := HC.out; omega) 0 _ rfl⟩; have F6 : Aside0 (FreshsD d1 w6 b1 (f)) := ⟨by rw [hw]; exact X1.out.other _ ne01.symm⟩; have B6 : Aside0 (Below w4.heap.size w4 w6) := ⟨by rw [hw]; exact BX.out.setCell lo0 _⟩; have g0 : w6.cell? ⟨gx, 0, none⟩ = some (.slice (some ⟨b0, 0, none⟩) n d0) := blk_cell G6.out 0; have g1_ : w6.cell? ⟨gx, 1, none⟩ = some (.slice (some ⟨b1, 0, none⟩) n d1) := blk_cell G6.out 1; have z0 := Z6.out.thaw i; have z1 := F6.out.thaw i; have x0 : w6.cell? ⟨b0, i, none⟩ = some (.int .i64 _) := Z6.out.cell (show i < (c.set i 0).length by have := HC.out; rw [List.length_set]; omega) 0; have y0 : w6.cell? ⟨b1, i, none⟩ = some (.bool _) := F6.out.cell (show i < (f).length by have := HF.out; omega) false; clear hw)
              | ((with_reducible refine gate_store (t := 4) (p := 201) rfl ?_); refine store_event (t := 4) (p := 201) (v := .const (.bool false)) (w1 := w6.setCell ⟨b1, i, none⟩ (.bool false)) ?hg ?ho ?hn ?hr ?_; (case ho => rfl); (case hg => rfl); (case hn => rfl); (case hr => first | (go_simp; done) | (go_simp; rfl)); intro w7 hw; have G7 : Aside0 (SysBox gx b0 b1 n d0 d1 m w7) := ⟨by rw [hw]; exact set_other G6.out _ nex1⟩; have Z7 : Aside0 (CopiesD d0 w7 b0 (c.set i 0)) := ⟨by rw [hw]; exact Z6.out.other _ ne01⟩; have F7 : Aside0 (FreshsD d1 w7 b1 (f.set i false)) := ⟨by rw [hw]; exact F6.out.put (by have := HF.out; omega) false _ rfl⟩; have B7 : Aside0 (Below w4.heap.size w4 w7) := ⟨by rw [hw]; exact B6.out.setCell lo1 _⟩; clear hw))
            go_meet
            refine ⟨_, _, _, false, false, 0, rfl, rfl, rfl, ⟨SI.out⟩, G7, Z7, F7, ⟨by rw [List.length_set]; exact HC.out⟩, ⟨by rw [List.length_set]; exact HF.out⟩, ⟨fun z hz => ?_⟩, ⟨by omega⟩, ⟨by omega⟩, B7⟩
            rcases List.mem_or_eq_of_mem_set hz with hz | hz
            · exact HV.out z hz
            · subst hz; omega
    case rest =>
      obtain ⟨c', f', m', fl, sn, bk, rfl, rfl, rfl, RS, YG, Y0, Y1, YC, YF, YV, YB0, YB1, BY⟩ := hcut
      have q2 : wc.cell? ⟨gx, 2, none⟩ = some (.bool m') := blk_cell YG.out 2
      have q1 : wc.cell? ⟨gx, 1, none⟩ = some (.slice (some ⟨b1, 0, none⟩) n d1) := blk_cell YG.out 1
      go_wp2
      go_loopg [17, 18] n (fun gg s17 s18 wr => ∃ kk : Nat, kk ≤ n ∧ n - kk ≤ gg ∧ s18 = .int .i64 kk ∧ s17 = .bool (m' || (f'.take kk).any fun y => y) ∧ wr = wc)
      case atStart => exact ⟨0, by omega, by omega, rfl, by simp, rfl⟩
      case round =>
        obtain ⟨kk, hkk, hgg, rfl, rfl, rfl⟩ := hrel
        by_cases hlt : kk < n
        · have hltz : (kk : Int) < (n : Int) := by omega
          have y1 := Y1.out.cell (show kk < f'.length by have := YF.out; omega) false
          obtain ⟨y, hy⟩ : ∃ y, y = f'.getD kk false := ⟨_, rfl⟩
          rw [← hy] at y1
          have HN : Aside0 ((m' || (f'.take (kk + 1)).any fun y => y) = ((m' || (f'.take kk).any fun y => y) || y)) := ⟨by rw [take_succ f' kk false (by have := YF.out; omega), ← hy]; simp [Bool.or_assoc]⟩
          clear hy
          obtain ⟨s, hs⟩ : ∃ s, (m' || (f'.take kk).any fun y => y) = s := ⟨_, rfl⟩
          rw [hs] at HN ⊢
          clear hs
          cases s
          all_goals
            go_wp2
            go_roundg (n - (kk + 1))
            case measure => omega
            case rel => exact ⟨kk + 1, by omega, by omega, by go_num, by rw [HN.out]; simp, rfl⟩
        · obtain rfl : kk = n := by omega
          have hT : Aside0 ((m' || (f'.take kk).any fun y => y) = (m' || f'.any fun y => y)) := ⟨by rw [List.take_of_length_le (by have := YF.out; omega)]⟩
          rw [hT.out]
          have q0 : wr.cell? ⟨gx, 0, none⟩ = some (.slice (some ⟨b0, 0, none⟩) kk d0) := blk_cell YG.out 0
          have BRy : Aside0 (wr.heap[gr]? = some (.cells #[.slice none 0 0, .slice none 0 0, .bool false] 73 (0, 0))) := ⟨(BY.out.block gr hgr).trans BR.out⟩
          have r0 : wr.cell? ⟨gr, 0, none⟩ = some (.slice none 0 0) := blk_cell BRy.out 0
          have r1 : wr.cell? ⟨gr, 1, none⟩ = some (.slice none 0 0) := blk_cell BRy.out 1
          have r2 : wr.cell? ⟨gr, 2, none⟩ = some (.bool false) := blk_cell BRy.out 2
          have z0 : wr.frozen? ⟨gr, 0, none⟩ = false := blk_frozen BRy.out 0
          have z1 : wr.frozen? ⟨gr, 1, none⟩ = false := blk_frozen BRy.out 1
          have z2 : wr.frozen? ⟨gr, 2, none⟩ = false := blk_frozen BRy.out 2
          obtain ⟨s, hs⟩ : ∃ s, (m' || f'.any fun y => y) = s := ⟨_, rfl⟩
          have FN : Aside0 (finI c' f' m' fl sn bk = (c', f', m', fl || !s, sn, bk)) := ⟨by unfold finI; rw [← hs, Bool.not_or]⟩
          rw [hs]
          clear hs hT
          have hnb0 : gr ≠ b0 := by omega
          have hnb1 : gr ≠ b1 := by omega
          have hcase : fl = true ∨ (fl = false ∧ s = true) ∨ (fl = false ∧ s = false) := by cases fl <;> cases s <;> simp
          rcases hcase with rfl | ⟨rfl, rfl⟩ | ⟨rfl, rfl⟩
          all_goals
            go_wp2
            refine bodyPost_ret (results_list (rs := [.cell 6 73, .tmp 7, .tmp 8, .tmp 9]) rfl (by simp) (.cell gr 73 #[.slice (some ⟨b0, 0, none⟩) kk d0, .slice (some ⟨b1, 0, none⟩) kk d1, .bool m'] (0, 0) _ rfl (set_same (i := 2) (set_same (i := 1) (set_same (i := 0) BRy.out _) _) _) Try.underlying73 rfl (by kernel_rfl) (.tmp (.tmp (.tmp .nil))))) rfl ?_
            refine ⟨b0, b1, d0, d1, c', f', m', _, sn, bk, rfl, RS.out.trans FN.out, ?_, ?_, YC.out, YF.out, hd0, hd1, ne01, by omega, by omega, YV.out, YB0.out, YB1.out, ?_⟩
            · exact ((Y0.out.other _ hnb0.symm).other _ hnb0.symm).other _ hnb0.symm
            · exact ((Y1.out.other _ hnb1.symm).other _ hnb1.symm).other _ hnb1.symm
            · exact (((below_le HBW BY.out).setCell hgr0 _).setCell hgr0 _).setCell hgr0 _
/-- What spec's RunSystem makes of ops, from a system on; k: the place of the first op. -/
def runS (t0 t1 t2 t3 t4 : List S58) : List S118 → Int → List Int → List Bool → Bool → List Int × List Bool × Bool × Int
  | [], _, c, f, m => (c, f, m, -1)
  | o :: os, k, c, f, m =>
    if (stepS t0 t1 t2 t3 t4 c f m o.f0 o.f1.toNat).2.2.2.1 = true then ((stepS t0 t1 t2 t3 t4 c f m o.f0 o.f1.toNat).1, (stepS t0 t1 t2 t3 t4 c f m o.f0 o.f1.toNat).2.1, (stepS t0 t1 t2 t3 t4 c f m o.f0 o.f1.toNat).2.2.1, k)
    else runS t0 t1 t2 t3 t4 os (k + 1) (stepS t0 t1 t2 t3 t4 c f m o.f0 o.f1.toNat).1 (stepS t0 t1 t2 t3 t4 c f m o.f0 o.f1.toNat).2.1 (stepS t0 t1 t2 t3 t4 c f m o.f0 o.f1.toNat).2.2.1
set_option maxHeartbeats 1600000 in
set_option maxRecDepth 100000 in
theorem xRunS (A0 A1 A2 A3 A4 A5 : Option Addr) (c0 c1 c2 c3 c4 c5 : Nat) (t0 t1 t2 t3 t4 : List S58) (n : Nat) (ops : List S118) (w : World)
    (hr0 : Kd.C k58 w A0 t0.length t0) (hc0 : t0.length ≤ c0) (hr1 : Kd.C k58 w A1 t1.length t1) (hc1 : t1.length ≤ c1) (hr2 : Kd.C k58 w A2 t2.length t2) (hc2 : t2.length ≤ c2) (hr3 : Kd.C k58 w A3 t3.length t3) (hc3 : t3.length ≤ c3) (hr4 : Kd.C k58 w A4 t4.length t4) (hc4 : t4.length ≤ c4) (hr5 : Kd.C k118 w A5 ops.length ops) (hc5 : ops.length ≤ c5)
    (hv : vprot t0 t1 t2 t3 t4 = true) (ho : Ev (fun k => spec_l10Ops.f k ops (n : Int)) true) (n1 : 1 ≤ n) (n3 : n ≤ 3) (hl : ops.length ≤ 40) (hop : ∀ o ∈ ops, (0 ≤ o.f0 ∧ o.f0 ≤ 2) ∧ 0 ≤ o.f1 ∧ o.f1 < n)
    (l0 : t0.length = 4) (l1 : t1.length = 4) (l2 : t2.length = 4) (l3 : t3.length = 4) (l4 : t4.length = 4) (v0 : ∀ r ∈ t0, (0 ≤ r.f0 ∧ r.f0 ≤ 3) ∧ 0 ≤ r.f1 ∧ r.f1 ≤ 3) (v1 : ∀ r ∈ t1, 0 ≤ r.f0 ∧ r.f0 ≤ 3) (v3 : ∀ r ∈ t3, 0 ≤ r.f0 ∧ r.f0 ≤ 3) (v4 : ∀ r ∈ t4, 0 ≤ r.f0 ∧ r.f0 ≤ 3) (C : List Int) (F : List Bool) (M : Bool) (Q : Int)
    (hR : runS t0 t1 t2 t3 t4 ops 0 (List.replicate n 0) (List.replicate n false) true = (C, F, M, Q)) :
    Calls Try.prog 41 #[.agg #[.slice A0 t0.length c0, .slice A1 t1.length c1, .slice A2 t2.length c2, .slice A3 t3.length c3, .slice A4 t4.length c4], .int .i64 (n : Int), .slice A5 ops.length c5] w fun e w' => ∃ b0 b1 d0 d1, e = .returned (.tuple #[.agg #[.slice (some ⟨b0, 0, none⟩) n d0, .slice (some ⟨b1, 0, none⟩) n d1, .bool M], .int .i64 Q, .bool true]) ∧ CopiesD d0 w' b0 C ∧ FreshsD d1 w' b1 F ∧ C.length = n ∧ F.length = n ∧ n ≤ d0 ∧ n ≤ d1 ∧ w.heap.size ≤ b0 ∧ w.heap.size ≤ b1 ∧ Below w.heap.size w w' := by
  have HT0 := Aside0.mk hr0
  have HT1 := Aside0.mk hr1
  have HT2 := Aside0.mk hr2
  have HT3 := Aside0.mk hr3
  have HT4 := Aside0.mk hr4
  have HT5 := Aside0.mk hr5
  have L0 := Aside0.mk l0
  have L1 := Aside0.mk l1
  have L2 := Aside0.mk l2
  have L3 := Aside0.mk l3
  have L4 := Aside0.mk l4
  have V0 := Aside0.mk v0
  have V1 := Aside0.mk v1
  have V3 := Aside0.mk v3
  have V4 := Aside0.mk v4
  have HV : Aside0 (spec_l10Is.f t0 t1 t2 t3 t4 = some true) := ⟨by unfold spec_l10Is.f; rw [hv]⟩
  have HCP : Aside0 (spec_l10Caches.f (n : Int) = some true) := ⟨by
    unfold spec_l10Caches.f spec_l00In.f
    rw [if_pos (by omega)]
    simp; omega⟩
  obtain ⟨ko, hko⟩ := ho
  have HO := Aside0.mk (hko ko (Nat.le_refl _))
  have HL := Aside0.mk hl
  have HOP := Aside0.mk hop
  have N1 := Aside0.mk n1
  have N3 := Aside0.mk n3
  have HR := Aside0.mk hR
  have HS := St.box (St.box (St.start w) #[.slice A0 t0.length c0, .slice A1 t1.length c1, .slice A2 t2.length c2, .slice A3 t3.length c3, .slice A4 t4.length c4] 54) #[.slice none 0 0, .slice none 0 0, .bool false] 73
  simp only [World.size_alloc] at HS
  clear hr0 hr1 hr2 hr3 hr4 hr5 l0 l1 l2 l3 l4 v0 v1 v3 v4 hv hko hl hop n1 n3 hR
  have HG0 := HS.blk (cs := #[.slice A0 t0.length c0, .slice A1 t1.length c1, .slice A2 t2.length c2, .slice A3 t3.length c3, .slice A4 t4.length c4]) (t := 54) (List.mem_cons_of_mem _ List.mem_cons_self)
  have HG0 := HS.blk (cs := #[.slice A0 t0.length c0, .slice A1 t1.length c1, .slice A2 t2.length c2, .slice A3 t3.length c3, .slice A4 t4.length c4]) (t := 54) (List.mem_cons_of_mem _ List.mem_cons_self)
  have HG0 := HS.blk (cs := #[.slice A0 t0.length c0, .slice A1 t1.length c1, .slice A2 t2.length c2, .slice A3 t3.length c3, .slice A4 t4.length c4]) (t := 54) (List.mem_cons_of_mem _ List.mem_cons_self)
  have HG0 := HS.blk (cs := #[.slice A0 t0.length c0, .slice A1 t1.length c1, .slice A2 t2.length c2, .slice A3 t3.length c3, .slice A4 t4.length c4]) (t := 54) (List.mem_cons_of_mem _ List.mem_cons_self)
  have HG0 := HS.blk (cs := #[.slice A0 t0.length c0, .slice A1 t1.length c1, .slice A2 t2.length c2, .slice A3 t3.length c3, .slice A4 t4.length c4]) (t := 54) (List.mem_cons_of_mem _ List.mem_cons_self)
  have HG0 := HS.blk (cs := #[.slice A0 t0.length c0, .slice A1 t1.length c1, .slice A2 t2.length c2, .slice A3 t3.length c3, .slice A4 t4.length c4]) (t := 54) (List.mem_cons_of_mem _ List.mem_cons_self)
  go_enter Try.func41, Try.ntmps41
  go_wp2_with fail
  refine (spec_l10Is.calls w.heap.size A0 c0 t0 A1 c1 t1 A2 c2 t2 A3 c3 t3 A4 c4 t4 true _ HG0 (Kd.C_below HT0.out HS.below) hc0 (Kd.C_below HT1.out HS.below) hc1 (Kd.C_below HT2.out HS.below) hc2 (Kd.C_below HT3.out HS.below) hc3 (Kd.C_below HT4.out HS.below) hc4 HV.out).mono ?_
  rintro e w1 ⟨rfl, hb⟩
  replace HS := HS.step hb
  clear hb HG0
  go_wp2_with fail
  refine (spec_l10Caches.calls (n : Int) true _ HCP.out).mono ?_
  rintro e w1b ⟨rfl, hd⟩
  replace HS := HS.step hd.below
  clear hd
  go_wp2_with fail
  refine (spec_l10Ops.calls ko A5 c5 ops (n : Int) true _ (Kd.C_below HT5.out HS.below) hc5 HO.out).mono ?_
  rintro e w2 ⟨rfl, hb⟩
  replace HS := HS.step hb
  clear hb
  have HFS : Aside0 (spec_l10First.f (n : Int) = some (List.replicate n 0, List.replicate n false, true)) := ⟨by
    have := N3.out
    unfold spec_l10First.f
    rw [Int.toNat_natCast]
    exact (if_pos (by omega)).trans ((if_pos (by omega)).trans (if_pos (by omega)))⟩
  go_wp2_with fail
  refine (spec_l10First.calls (n : Int) _ _ _ _ HFS.out).mono ?_
  rintro e w3 ⟨v0_, v1_, rfl, hR0, hR1, hb⟩
  obtain ⟨b0, d0, rfl, hd0, lo0, hi0, RB0⟩ := RowD.of_R hR0 (by have := N1.out; simp; omega)
  obtain ⟨b1, d1, rfl, hd1, lo1, hi1, RB1⟩ := RowD.of_R hR1 (by have := N1.out; simp; omega)
  simp only [List.length_replicate] at hd0 hd1
  have hb2 : w.heap.size < w2.heap.size := blk_lt (HS.blk (cs := #[.slice A0 t0.length c0, .slice A1 t1.length c1, .slice A2 t2.length c2, .slice A3 t3.length c3, .slice A4 t4.length c4]) (t := 54) (List.mem_cons_of_mem _ List.mem_cons_self))
  have hb2q : w.heap.size + 1 < w2.heap.size := blk_lt (HS.blk (cs := #[.slice none 0 0, .slice none 0 0, .bool false]) (t := 73) List.mem_cons_self)
  replace HS := HS.step hb
  have HQ := Aside0.mk (HS.blk (cs := #[.slice none 0 0, .slice none 0 0, .bool false]) (t := 73) List.mem_cons_self)
  have HG := Aside0.mk (HS.blk (cs := #[.slice A0 t0.length c0, .slice A1 t1.length c1, .slice A2 t2.length c2, .slice A3 t3.length c3, .slice A4 t4.length c4]) (t := 54) (List.mem_cons_of_mem _ List.mem_cons_self))
  have WN : Aside0 (w.heap.size + 1 < w3.heap.size) := ⟨blk_lt HQ.out⟩
  have HB3 := Aside0.mk HS.below
  clear hR0 hR1 hb HS
  have X0 := Aside0.mk RB0
  have X1 := Aside0.mk RB1
  clear RB0 RB1
  simp only [List.length_replicate]
  go_wp2_with fail
  have LO0 : Aside0 (w.heap.size + 1 < b0 ∧ b0 < w3.heap.size) := ⟨by omega⟩
  have LO1 : Aside0 (w.heap.size + 1 < b1 ∧ b1 < w3.heap.size) := ⟨by omega⟩
  have HD0_ := Aside0.mk hd0
  have HD1_ := Aside0.mk hd1
  clear hd0 hd1 lo0 lo1 hi0 hi1 hb2 hb2q HFS HV HO HCP hc0 hc1 hc2 hc3 hc4 hc5
  have hba := below_alloc (Below.refl w3.heap.size w3) (.cells #[.slice (some ⟨b0, 0, none⟩) n d0, .slice (some ⟨b1, 0, none⟩) n d1, .bool true] 73)
  have BA := Aside0.mk hba
  have GA := Aside0.mk (heap_alloc_new w3 (.cells #[.slice (some ⟨b0, 0, none⟩) n d0, .slice (some ⟨b1, 0, none⟩) n d1, .bool true] 73))
  clear hba
  go_loopg [10] ops.length (fun gg s10 wr => ∃ (kk : Nat) (b0 b1 d0 d1 : Nat) (c : List Int) (f : List Bool) (m : Bool), kk ≤ ops.length ∧ ops.length - kk ≤ gg ∧ s10 = .int .i64 kk ∧ Aside0 (runS t0 t1 t2 t3 t4 (ops.drop kk) (kk : Int) c f m = (C, F, M, Q)) ∧ Aside0 (wr.heap[w3.heap.size]? = some (.cells #[.slice (some ⟨b0, 0, none⟩) n d0, .slice (some ⟨b1, 0, none⟩) n d1, .bool m] 73 (0, 0))) ∧ Aside0 (CopiesD d0 wr b0 c) ∧ Aside0 (FreshsD d1 wr b1 f) ∧ Aside0 (c.length = n) ∧ Aside0 (f.length = n) ∧ Aside0 (n ≤ d0 ∧ n ≤ d1 ∧ b0 ≠ w3.heap.size ∧ b1 ≠ w3.heap.size ∧ w.heap.size + 1 < b0 ∧ w.heap.size + 1 < b1) ∧ Aside0 (∀ x ∈ c, 0 ≤ x ∧ x ≤ 3) ∧ Aside0 (wr.heap[w.heap.size]? = some (.cells #[.slice A0 t0.length c0, .slice A1 t1.length c1, .slice A2 t2.length c2, .slice A3 t3.length c3, .slice A4 t4.length c4] 54 (0, 0))) ∧ Aside0 (wr.heap[w.heap.size + 1]? = some (.cells #[.slice none 0 0, .slice none 0 0, .bool false] 73 (0, 0))) ∧ Aside0 (Below w.heap.size w wr))
  case atStart => exact ⟨0, _, _, _, _, _, _, _, Nat.zero_le _, by omega, rfl, ⟨by simpa using HR.out⟩, GA, ⟨X0.out.below BA.out⟩, ⟨X1.out.below BA.out⟩, ⟨by simp⟩, ⟨by simp⟩, ⟨HD0_.out, HD1_.out, by have := LO0.out; omega, by have := LO1.out; omega, LO0.out.1, LO1.out.1⟩, ⟨fun x hx => by rw [List.eq_of_mem_replicate hx]; omega⟩, ⟨blk_below HG.out BA.out⟩, ⟨blk_below HQ.out BA.out⟩, ⟨below_le HB3.out BA.out⟩⟩
  case round =>
    clear HR X0 X1 GA BA LO0 LO1 HD0_ HD1_ HG HQ
    obtain ⟨kk, b0, b1, d0, d1, c, f, m, hkk, hg, rfl, BI, GW, ZW, FW, HC, HF, HD, HVC, PW, QW, BW⟩ := hrel
    by_cases hlt : kk < ops.length
    · have hltz : (kk : Int) < (ops.length : Int) := by omega
      obtain ⟨ad, e, hx0, hx1⟩ := at_T118 (Kd.C_below HT5.out BW.out) (kk : Int) (by omega) hltz
      subst e
      obtain ⟨o, ho⟩ : ∃ o, o = rd_T118 ops (kk : Int) := ⟨_, rfl⟩
      have hmem : o ∈ ops := by rw [ho]; unfold rd_T118; rw [Int.toNat_natCast, getD_lt ops kk _ hlt]; exact List.getElem_mem _
      obtain ⟨⟨hk0, hk2⟩, hi0, hi1⟩ := HOP.out o hmem
      simp only [Int.toNat_natCast] at hx0 hx1
      rw [← ho] at hx0 hx1
      have HBI := BI.out
      rw [drop_cons ops kk z118 hlt, show ops.getD kk z118 = o from ho.symm] at HBI
      obtain ⟨o0, o1⟩ := o
      obtain ⟨i, rfl⟩ : ∃ i : Nat, o1 = (i : Int) := ⟨o1.toNat, by simp only at hi0; omega⟩
      simp only at hx0 hx1 hk0 hk2 hi0 hi1 HBI
      simp only [runS, Int.toNat_natCast] at HBI
      have HI := Aside0.mk (show i < n by omega)
      have HK := Aside0.mk (And.intro hk0 hk2)
      have BI := Aside0.mk HBI
      clear HBI hmem ho hk0 hk2 hi0 hi1
      have e0 := HC.out
      have e1 := HF.out
      have hst := fun W (hb : Below wr.heap.size wr W) => specStep0 w.heap.size w3.heap.size d0 d1 n ⟨b0, 0, none⟩ ⟨b1, 0, none⟩ A0 A1 A2 A3 A4 c0 c1 c2 c3 c4 t0 t1 t2 t3 t4 m c f o0 i W (by rw [e0, e1]; exact blk_below GW.out hb) (Kd.C_below (ZW.out.toC (by have := N3.out; omega)) hb) (Kd.C_below (FW.out.toC (by have := N3.out; omega)) hb) (blk_below PW.out hb)
        (Kd.C_below HT0.out (below_le BW.out hb)) (Kd.C_below HT1.out (below_le BW.out hb)) (Kd.C_below HT2.out (below_le BW.out hb)) (Kd.C_below HT3.out (below_le BW.out hb)) (Kd.C_below HT4.out (below_le BW.out hb)) L0.out L1.out L2.out L3.out L4.out HVC.out V0.out V1.out V3.out V4.out HK.out.1 HK.out.2 (by rw [e0]; exact HD.out.1) (by rw [e1]; exact HD.out.2.1) e0 e1 (by have := N3.out; omega) HI.out
      have ST := Aside0.mk hst
      clear e0 e1 hst
      go_wp2_with fail
      refine (ST.out _ (Below.refl _ _)).mono ?_
      rintro e w5 ⟨b0', b1', d0', d1', c', f', m', fl, sn, bk, rfl, hs, h05, h15, hc5, hf5, hd0', hd1', hne', hlo0', hlo1', hv5, hbk0, hbk1, hbel5⟩
      have BI := BI.out
      simp only [hs] at BI
      have HBL := Aside0.mk (below_le BW.out hbel5)
      have P5 := Aside0.mk (blk_below PW.out hbel5)
      have G5 := Aside0.mk (blk_below GW.out hbel5)
      have Q5 := Aside0.mk (blk_below QW.out hbel5)
      have Z5 := Aside0.mk h05
      have F5 := Aside0.mk h15
      have C5 := Aside0.mk hc5
      have E5 := Aside0.mk hf5
      have V5 := Aside0.mk hv5
      have K5 := Aside0.mk (And.intro hbk0 hbk1)
      have D5 := Aside0.mk (And.intro hd0' hd1')
      have GL := Aside0.mk (blk_lt GW.out)
      have LO := Aside0.mk (And.intro hlo0' hlo1')
      have S5 := Aside0.mk (Nat.lt_of_lt_of_le (blk_lt GW.out) hbel5.size)
      have BI := Aside0.mk BI
      clear hs h05 h15 hc5 hf5 hd0' hd1' hne' hlo0' hlo1' hv5 hbk0 hbk1 hbel5 ST
      have hb6 := below_alloc (Below.refl w5.heap.size w5) (.cells #[.slice (some ⟨b0', 0, none⟩) n d0', .slice (some ⟨b1', 0, none⟩) n d1', .bool m'] 73)
      have G6 := Aside0.mk (blk_below G5.out hb6)
      have Z6 := Aside0.mk (Z5.out.below hb6)
      have F6 := Aside0.mk (F5.out.below hb6)
      have P6 := Aside0.mk (blk_below P5.out hb6)
      have Q6 := Aside0.mk (blk_below Q5.out hb6)
      have B6 := Aside0.mk (below_le HBL.out hb6)
      have NX : Aside0 (b0' ≠ w3.heap.size ∧ b1' ≠ w3.heap.size ∧ w.heap.size ≠ w3.heap.size ∧ w.heap.size + 1 ≠ w3.heap.size) := ⟨by have := LO.out; have := GL.out; have := WN.out; omega⟩
      have NB : Aside0 (b0' ≠ w.heap.size + 1 ∧ b1' ≠ w.heap.size + 1) := ⟨by have := LO.out; have := GL.out; have := WN.out; omega⟩
      have NZ : Aside0 (w.heap.size + 1 < b0' ∧ w.heap.size + 1 < b1') := ⟨by have := LO.out; have := GL.out; have := WN.out; omega⟩
      clear hb6
      have q0 := (blk_cell G6.out 0).trans rfl
      have q1 := (blk_cell G6.out 1).trans rfl
      have q2 := (blk_cell G6.out 2).trans rfl
      have z0 := blk_frozen G6.out 0
      have z1 := blk_frozen G6.out 1
      have z2 := blk_frozen G6.out 2
      cases fl with
      | true =>
        have BI := BI.out
        simp only [if_true, Prod.mk.injEq] at BI
        obtain ⟨rfl, rfl, rfl, rfl⟩ := BI
        have G7 := Aside0.mk (set_same (i := 2) (set_same (i := 1) (set_same (i := 0) G6.out (.slice (some ⟨b0', 0, none⟩) n d0')) (.slice (some ⟨b1', 0, none⟩) n d1')) (.bool m'))
        have Q7 := Aside0.mk (set_other (i := 2) (set_other (i := 1) (set_other (i := 0) Q6.out (.slice (some ⟨b0', 0, none⟩) n d0') NX.out.2.2.2) (.slice (some ⟨b1', 0, none⟩) n d1') NX.out.2.2.2) (.bool m') NX.out.2.2.2)
        have g0 := (blk_cell G7.out 0).trans rfl
        have g1 := (blk_cell G7.out 1).trans rfl
        have g2 := (blk_cell G7.out 2).trans rfl
        have r0 := (blk_cell Q7.out 0).trans rfl
        have r1 := (blk_cell Q7.out 1).trans rfl
        have r2 := (blk_cell Q7.out 2).trans rfl
        have y0 := blk_frozen Q7.out 0
        have y1 := blk_frozen Q7.out 1
        have y2 := blk_frozen Q7.out 2
        have Z7 := Aside0.mk (((Z6.out.other (i := 0) (.slice (some ⟨b0', 0, none⟩) n d0') NX.out.1).other (i := 1) (.slice (some ⟨b1', 0, none⟩) n d1') NX.out.1).other (i := 2) (.bool m') NX.out.1)
        have F7 := Aside0.mk (((F6.out.other (i := 0) (.slice (some ⟨b0', 0, none⟩) n d0') NX.out.2.1).other (i := 1) (.slice (some ⟨b1', 0, none⟩) n d1') NX.out.2.1).other (i := 2) (.bool m') NX.out.2.1)
        have B7 := Aside0.mk (((B6.out.setCell (p := ⟨w3.heap.size, 0, none⟩) HB3.out.size (.slice (some ⟨b0', 0, none⟩) n d0')).setCell (p := ⟨w3.heap.size, 1, none⟩) HB3.out.size (.slice (some ⟨b1', 0, none⟩) n d1')).setCell (p := ⟨w3.heap.size, 2, none⟩) HB3.out.size (.bool m'))
        go_wp2_with fail
        refine bodyPost_ret (results_ctt rfl _ _ (w.heap.size + 1) 73 _ (0, 0) _ rfl (set_same (set_same (set_same Q7.out _) _) _) Try.underlying73 rfl (by kernel_rfl)) rfl ?_
        exact ⟨b0', b1', d0', d1', rfl, ((Z7.out.other _ NB.out.1).other _ NB.out.1).other _ NB.out.1, ((F7.out.other _ NB.out.2).other _ NB.out.2).other _ NB.out.2, C5.out, E5.out, D5.out.1, D5.out.2, by have := NZ.out; omega, by have := NZ.out; omega, ((B7.out.setCell (Nat.le_succ _) _).setCell (Nat.le_succ _) _).setCell (Nat.le_succ _) _⟩
      | false =>
        have BI := BI.out
        simp only [if_neg (show ¬ (false = true) by decide)] at BI
        have BI := Aside0.mk BI
        go_wp2_with fail
        go_roundg (ops.length - (kk + 1))
        case measure => omega
        case rel =>
          refine ⟨kk + 1, b0', b1', d0', d1', c', f', m', by omega, by omega, by rw [wrap_succ hlt (by have := HL.out; omega)], ⟨by simpa using BI.out⟩, ⟨by exact set_same (set_same (set_same G6.out _) _) _⟩, ⟨((Z6.out.other _ NX.out.1).other _ NX.out.1).other _ NX.out.1⟩, ⟨((F6.out.other _ NX.out.2.1).other _ NX.out.2.1).other _ NX.out.2.1⟩, C5, E5, ⟨D5.out.1, D5.out.2, NX.out.1, NX.out.2.1, NZ.out.1, NZ.out.2⟩, V5, ⟨set_other (set_other (set_other P6.out _ NX.out.2.2.1) _ NX.out.2.2.1) _ NX.out.2.2.1⟩, ⟨set_other (set_other (set_other Q6.out _ NX.out.2.2.2) _ NX.out.2.2.2) _ NX.out.2.2.2⟩, ⟨((B6.out.setCell HB3.out.size _).setCell HB3.out.size _).setCell HB3.out.size _⟩⟩
    · have hltz : ¬ (kk : Int) < (ops.length : Int) := by omega
      obtain rfl : kk = ops.length := by omega
      have BI := BI.out
      rw [List.drop_length] at BI
      simp only [runS, Prod.mk.injEq] at BI
      obtain ⟨rfl, rfl, rfl, rfl⟩ := BI
      have NB : Aside0 (b0 ≠ w.heap.size + 1 ∧ b1 ≠ w.heap.size + 1) := ⟨by have := HD.out; omega⟩
      have g0 := (blk_cell GW.out 0).trans rfl
      have g1 := (blk_cell GW.out 1).trans rfl
      have g2 := (blk_cell GW.out 2).trans rfl
      have q0 := (blk_cell QW.out 0).trans rfl
      have q1 := (blk_cell QW.out 1).trans rfl
      have q2 := (blk_cell QW.out 2).trans rfl
      have z0 := blk_frozen QW.out 0
      have z1 := blk_frozen QW.out 1
      have z2 := blk_frozen QW.out 2
      go_wp2_with fail
      refine bodyPost_ret (results_ctt rfl _ _ (w.heap.size + 1) 73 _ (0, 0) _ rfl (set_same (set_same (set_same QW.out _) _) _) Try.underlying73 rfl (by kernel_rfl)) rfl ?_
      exact ⟨b0, b1, d0, d1, rfl, ((ZW.out.other _ NB.out.1).other _ NB.out.1).other _ NB.out.1, ((FW.out.other _ NB.out.2).other _ NB.out.2).other _ NB.out.2, HC.out, HF.out, HD.out.1, HD.out.2.1, by have := HD.out; omega, by have := HD.out; omega, ((BW.out.setCell (Nat.le_succ _) _).setCell (Nat.le_succ _) _).setCell (Nat.le_succ _) _⟩
theorem specOp_f (a b n : Int) (h : capsB n = true) : spec_l10Op.f a b n = some ((decide (0 ≤ a) && decide (a ≤ 2)) && (decide (0 ≤ b) && decide (b ≤ n - 1))) := by
  unfold capsB at h
  rw [Bool.and_eq_true, decide_eq_true_eq, decide_eq_true_eq] at h
  unfold spec_l10Op.f spec_l00In.f
  rw [wrap_id (x := n - 1) (by omega) (by omega)]
  by_cases h0 : a ≥ 0
  · rw [if_pos h0, Option.bind_some]
    by_cases h1 : a ≤ 2
    · rw [decide_eq_true h1, if_pos rfl]
      by_cases h2 : b ≥ 0
      · rw [if_pos h2]; simp [h0, h2]
      · rw [if_neg h2]; simp [h0]; omega
    · rw [decide_eq_false h1, if_neg (by decide)]; simp
  · rw [if_neg h0, Option.bind_some, if_neg (by decide), decide_eq_false (by omega)]; simp
theorem specOps_ev (ops : List S118) (n : Int) (h : capsB n = true) (hl : ops.length ≤ 1048576) : Ev (fun k => spec_l10Ops.f k ops n) (opsB ops n) := by
  unfold spec_l10Ops.f
  have key : ∀ d i, ops.length - i = d → i ≤ ops.length → Ev (fun k => spec_l10Ops.l0 k ops n (i : Int)) (decide (ops.length ≤ 40) && (ops.drop i).all (xOpOk n)) := by
    intro d
    induction d with
    | zero =>
      intro i hd hi
      refine Ev.succ ?_
      simp only [spec_l10Ops.l0]
      refine Ev.neg (by omega) (Ev.some ?_)
      rw [List.drop_eq_nil_of_le (by omega)]
      simp
      omega
    | succ d ih =>
      intro i hd hi
      have hlt : i < ops.length := by omega
      refine Ev.succ ?_
      simp only [spec_l10Ops.l0]
      have e0 : rd_T118 ops (i : Int) = ops.getD i z118 := rfl
      rw [e0, drop_cons ops i z118 hlt, List.all_cons, wrap_succ hlt (by omega)]
      refine Ev.pos (by omega) (Ev.pos (by omega) (Ev.bindc (specOp_f _ _ n h) ?_))
      have e1 : ((decide (0 ≤ (ops.getD i z118).f0) && decide ((ops.getD i z118).f0 ≤ 2)) && (decide (0 ≤ (ops.getD i z118).f1) && decide ((ops.getD i z118).f1 ≤ n - 1))) = xOpOk n (ops.getD i z118) := rfl
      rw [e1]
      cases xOpOk n (ops.getD i z118) with
      | true =>
        refine Ev.pos rfl ?_
        rw [Bool.true_and]
        exact ih (i + 1) (by omega) (by omega)
      | false => exact Ev.neg (by decide) (Ev.some (by simp))
  have := key ops.length 0 (by omega) (by omega)
  simpa [opsB] using this
theorem specCaps_f (n : Int) : spec_l10Caches.f n = some (capsB n) := by
  unfold spec_l10Caches.f spec_l00In.f capsB
  by_cases h : n ≥ 1
  · rw [if_pos h, Option.bind_some, decide_eq_true (show 1 ≤ n from h), Bool.true_and]
  · rw [if_neg h, Option.bind_some, decide_eq_false (show ¬ 1 ≤ n by omega), Bool.false_and]
set_option maxHeartbeats 1600000 in
set_option maxRecDepth 100000 in
theorem xRunSBad (A0 A1 A2 A3 A4 A5 : Option Addr) (c0 c1 c2 c3 c4 c5 : Nat) (t0 t1 t2 t3 t4 : List S58) (n : Int) (ops : List S118) (w : World)
    (hr0 : Kd.C k58 w A0 t0.length t0) (hc0 : t0.length ≤ c0) (hr1 : Kd.C k58 w A1 t1.length t1) (hc1 : t1.length ≤ c1) (hr2 : Kd.C k58 w A2 t2.length t2) (hc2 : t2.length ≤ c2) (hr3 : Kd.C k58 w A3 t3.length t3) (hc3 : t3.length ≤ c3) (hr4 : Kd.C k58 w A4 t4.length t4) (hc4 : t4.length ≤ c4) (hr5 : Kd.C k118 w A5 ops.length ops) (hc5 : ops.length ≤ c5)
    (hf : fitB t0 t1 t2 t3 t4 n ops = false) (hl : ops.length ≤ 1048576) :
    Calls Try.prog 41 #[.agg #[.slice A0 t0.length c0, .slice A1 t1.length c1, .slice A2 t2.length c2, .slice A3 t3.length c3, .slice A4 t4.length c4], .int .i64 n, .slice A5 ops.length c5] w fun e w' => e = .returned (.tuple #[.agg #[.slice none 0 0, .slice none 0 0, .bool false], .int .i64 0, .bool false]) ∧ Below w.heap.size w w' := by
  have HT0 := Aside0.mk hr0
  have HT1 := Aside0.mk hr1
  have HT2 := Aside0.mk hr2
  have HT3 := Aside0.mk hr3
  have HT4 := Aside0.mk hr4
  have HT5 := Aside0.mk hr5
  have HS := St.box (St.box (St.start w) #[.slice A0 t0.length c0, .slice A1 t1.length c1, .slice A2 t2.length c2, .slice A3 t3.length c3, .slice A4 t4.length c4] 54) #[.slice none 0 0, .slice none 0 0, .bool false] 73
  simp only [World.size_alloc] at HS
  clear hr0 hr1 hr2 hr3 hr4 hr5
  unfold fitB at hf
  cases hb : vprot t0 t1 t2 t3 t4 with
  | false =>
    have HV : Aside0 (spec_l10Is.f t0 t1 t2 t3 t4 = some false) := ⟨by unfold spec_l10Is.f; rw [hb]⟩
    clear hf hb hl
    go_enter Try.func41, Try.ntmps41
    go_wp2_with fail
    refine (spec_l10Is.calls w.heap.size A0 c0 t0 A1 c1 t1 A2 c2 t2 A3 c3 t3 A4 c4 t4 false _ (HS.blk (cs := #[.slice A0 t0.length c0, .slice A1 t1.length c1, .slice A2 t2.length c2, .slice A3 t3.length c3, .slice A4 t4.length c4]) (t := 54) (List.mem_cons_of_mem _ List.mem_cons_self)) (Kd.C_below HT0.out HS.below) hc0 (Kd.C_below HT1.out HS.below) hc1 (Kd.C_below HT2.out HS.below) hc2 (Kd.C_below HT3.out HS.below) hc3 (Kd.C_below HT4.out HS.below) hc4 HV.out).mono ?_
    rintro e w1 ⟨rfl, hb⟩
    replace HS := HS.step hb
    clear hb
    have HQ := HS.blk (cs := #[.slice none 0 0, .slice none 0 0, .bool false]) (t := 73) List.mem_cons_self
    have y0 := (blk_cell HQ 0).trans rfl
    have y1 := (blk_cell HQ 1).trans rfl
    have y2 := (blk_cell HQ 2).trans rfl
    have z0 := blk_frozen HQ 0
    have z1 := blk_frozen HQ 1
    have z2 := blk_frozen HQ 2
    go_wp2_with fail
    refine bodyPost_ret (results_ctt rfl _ _ (w.heap.size + 1) 73 _ (0, 0) _ rfl (set_same (set_same (set_same HQ _) _) _) Try.underlying73 rfl (by kernel_rfl)) rfl ?_
    exact ⟨rfl, ((HS.below.setCell (Nat.le_succ _) _).setCell (Nat.le_succ _) _).setCell (Nat.le_succ _) _⟩
  | true =>
    have HV : Aside0 (spec_l10Is.f t0 t1 t2 t3 t4 = some true) := ⟨by unfold spec_l10Is.f; rw [hb]⟩
    rw [hb, Bool.true_and] at hf
    cases hcp : capsB n with
    | false =>
      have HCP : Aside0 (spec_l10Caches.f n = some false) := ⟨by rw [specCaps_f, hcp]⟩
      clear hf hb hl hcp
      go_enter Try.func41, Try.ntmps41
      go_wp2_with fail
      refine (spec_l10Is.calls w.heap.size A0 c0 t0 A1 c1 t1 A2 c2 t2 A3 c3 t3 A4 c4 t4 true _ (HS.blk (cs := #[.slice A0 t0.length c0, .slice A1 t1.length c1, .slice A2 t2.length c2, .slice A3 t3.length c3, .slice A4 t4.length c4]) (t := 54) (List.mem_cons_of_mem _ List.mem_cons_self)) (Kd.C_below HT0.out HS.below) hc0 (Kd.C_below HT1.out HS.below) hc1 (Kd.C_below HT2.out HS.below) hc2 (Kd.C_below HT3.out HS.below) hc3 (Kd.C_below HT4.out HS.below) hc4 HV.out).mono ?_
      rintro e w1 ⟨rfl, hb⟩
      replace HS := HS.step hb
      clear hb
      go_wp2_with fail
      refine (spec_l10Caches.calls n false _ HCP.out).mono ?_
      rintro e w1b ⟨rfl, hd⟩
      replace HS := HS.step hd.below
      clear hd
      have HQ := HS.blk (cs := #[.slice none 0 0, .slice none 0 0, .bool false]) (t := 73) List.mem_cons_self
      have y0 := (blk_cell HQ 0).trans rfl
      have y1 := (blk_cell HQ 1).trans rfl
      have y2 := (blk_cell HQ 2).trans rfl
      have z0 := blk_frozen HQ 0
      have z1 := blk_frozen HQ 1
      have z2 := blk_frozen HQ 2
      go_wp2_with fail
      refine bodyPost_ret (results_ctt rfl _ _ (w.heap.size + 1) 73 _ (0, 0) _ rfl (set_same (set_same (set_same HQ _) _) _) Try.underlying73 rfl (by kernel_rfl)) rfl ?_
      exact ⟨rfl, ((HS.below.setCell (Nat.le_succ _) _).setCell (Nat.le_succ _) _).setCell (Nat.le_succ _) _⟩
    | true =>
      have HCP : Aside0 (spec_l10Caches.f n = some true) := ⟨by rw [specCaps_f, hcp]⟩
      rw [hcp, Bool.true_and] at hf
      obtain ⟨ko, hko⟩ := specOps_ev ops n hcp hl
      rw [hf] at hko
      have HO := Aside0.mk (hko ko (Nat.le_refl _))
      clear hf hb hl hcp hko
      go_enter Try.func41, Try.ntmps41
      go_wp2_with fail
      refine (spec_l10Is.calls w.heap.size A0 c0 t0 A1 c1 t1 A2 c2 t2 A3 c3 t3 A4 c4 t4 true _ (HS.blk (cs := #[.slice A0 t0.length c0, .slice A1 t1.length c1, .slice A2 t2.length c2, .slice A3 t3.length c3, .slice A4 t4.length c4]) (t := 54) (List.mem_cons_of_mem _ List.mem_cons_self)) (Kd.C_below HT0.out HS.below) hc0 (Kd.C_below HT1.out HS.below) hc1 (Kd.C_below HT2.out HS.below) hc2 (Kd.C_below HT3.out HS.below) hc3 (Kd.C_below HT4.out HS.below) hc4 HV.out).mono ?_
      rintro e w1 ⟨rfl, hb⟩
      replace HS := HS.step hb
      clear hb
      go_wp2_with fail
      refine (spec_l10Caches.calls n true _ HCP.out).mono ?_
      rintro e w1b ⟨rfl, hd⟩
      replace HS := HS.step hd.below
      clear hd
      go_wp2_with fail
      refine (spec_l10Ops.calls ko A5 c5 ops n false _ (Kd.C_below HT5.out HS.below) hc5 HO.out).mono ?_
      rintro e w2 ⟨rfl, hb⟩
      replace HS := HS.step hb
      clear hb
      have HQ := HS.blk (cs := #[.slice none 0 0, .slice none 0 0, .bool false]) (t := 73) List.mem_cons_self
      have y0 := (blk_cell HQ 0).trans rfl
      have y1 := (blk_cell HQ 1).trans rfl
      have y2 := (blk_cell HQ 2).trans rfl
      have z0 := blk_frozen HQ 0
      have z1 := blk_frozen HQ 1
      have z2 := blk_frozen HQ 2
      go_wp2_with fail
      refine bodyPost_ret (results_ctt rfl _ _ (w.heap.size + 1) 73 _ (0, 0) _ rfl (set_same (set_same (set_same HQ _) _) _) Try.underlying73 rfl (by kernel_rfl)) rfl ?_
      exact ⟨rfl, ((HS.below.setCell (Nat.le_succ _) _).setCell (Nat.le_succ _) _).setCell (Nat.le_succ _) _⟩
def runRS (t0 t1 t2 t3 t4 : List S58) (n : Int) (ops : List S118) : List Int × List Bool × Bool × Int × Bool := if fitB t0 t1 t2 t3 t4 n ops = true then
    ((runS t0 t1 t2 t3 t4 ops 0 (List.replicate n.toNat 0) (List.replicate n.toNat false) true).1, (runS t0 t1 t2 t3 t4 ops 0 (List.replicate n.toNat 0) (List.replicate n.toNat false) true).2.1, (runS t0 t1 t2 t3 t4 ops 0 (List.replicate n.toNat 0) (List.replicate n.toNat false) true).2.2.1, (runS t0 t1 t2 t3 t4 ops 0 (List.replicate n.toNat 0) (List.replicate n.toNat false) true).2.2.2, true)
  else ([], [], false, 0, false)
theorem xRunSAll (A0 A1 A2 A3 A4 A5 : Option Addr) (c0 c1 c2 c3 c4 c5 : Nat) (t0 t1 t2 t3 t4 : List S58) (n : Int) (ops : List S118) (w : World)
    (hr0 : Kd.C k58 w A0 t0.length t0) (hc0 : t0.length ≤ c0) (hr1 : Kd.C k58 w A1 t1.length t1) (hc1 : t1.length ≤ c1) (hr2 : Kd.C k58 w A2 t2.length t2) (hc2 : t2.length ≤ c2) (hr3 : Kd.C k58 w A3 t3.length t3) (hc3 : t3.length ≤ c3) (hr4 : Kd.C k58 w A4 t4.length t4) (hc4 : t4.length ≤ c4) (hr5 : Kd.C k118 w A5 ops.length ops) (hc5 : ops.length ≤ c5) (hlen : ops.length ≤ 1048576)
    (c : List Int) (f : List Bool) (m : Bool) (q : Int) (ok : Bool) (hR : runRS t0 t1 t2 t3 t4 n ops = (c, f, m, q, ok)) :
    Calls Try.prog 41 #[.agg #[.slice A0 t0.length c0, .slice A1 t1.length c1, .slice A2 t2.length c2, .slice A3 t3.length c3, .slice A4 t4.length c4], .int .i64 n, .slice A5 ops.length c5] w fun e w' => ∃ v0 v1, e = .returned (.tuple #[.agg #[v0, v1, .bool m], .int .i64 q, .bool ok]) ∧ Kd.R (Kd.int .i64) 2 w' w.heap.size (fun k_ => some k_ ≠ (v1 : Value).ownBlock) v0 c ∧ Kd.R Kd.bool 4 w' w.heap.size (fun k_ => some k_ ≠ (v0 : Value).ownBlock) v1 f ∧ Below w.heap.size w w' := by
  unfold runRS at hR
  by_cases hf : fitB t0 t1 t2 t3 t4 n ops = true
  · rw [if_pos hf] at hR
    unfold fitB at hf
    rw [Bool.and_eq_true] at hf
    have hf1 := hf.1
    rw [Bool.and_eq_true] at hf1
    have hcap := hf1.2
    have hao := specOps_ev ops n hcap hlen
    rw [hf.2] at hao
    have hob := hf.2
    unfold capsB at hcap
    rw [Bool.and_eq_true, decide_eq_true_eq, decide_eq_true_eq] at hcap
    obtain ⟨n, rfl⟩ : ∃ k : Nat, n = (k : Int) := ⟨n.toNat, by omega⟩
    obtain ⟨hl, hop⟩ := ops_facts hob
    obtain ⟨⟨e0, e1, e2, e3, e4⟩, v0, v1, v3, v4, _⟩ := vprot_facts hf1.1
    rw [Int.toNat_natCast] at hR
    simp only [Prod.mk.injEq] at hR
    obtain ⟨h1, h2, h3, h4, rfl⟩ := hR
    refine (xRunS A0 A1 A2 A3 A4 A5 c0 c1 c2 c3 c4 c5 t0 t1 t2 t3 t4 n ops w hr0 hc0 hr1 hc1 hr2 hc2 hr3 hc3 hr4 hc4 hr5 hc5 hf1.1 hao (by omega) (by omega) hl hop e0 e1 e2 e3 e4 v0 v1 v3 v4 c f m q (by rw [← h1, ← h2, ← h3, ← h4])).mono ?_
    rintro e w' ⟨b0, b1, d0, d1, rfl, hZ, hF, hc, hf', hd0, hd1, lo0, lo1, hb⟩
    have hne : b0 ≠ b1 := by
      rintro rfl
      have := hZ.2.1.symm.trans hF.2.1
      simp at this
    refine ⟨_, _, rfl, ?_, ?_, hb⟩
    · rw [← hc]; exact RowB.toR hZ.1 hZ.2.1 (by omega) hZ.2.2 lo0 (by simp [Value.ownBlock]; exact hne)
    · rw [← hf']; exact RowB.toR hF.1 hF.2.1 (by omega) hF.2.2 lo1 (by simp [Value.ownBlock]; exact fun e => hne e.symm)
  · rw [if_neg hf] at hR
    simp only [Prod.mk.injEq] at hR
    obtain ⟨rfl, rfl, rfl, rfl, rfl⟩ := hR
    refine (xRunSBad A0 A1 A2 A3 A4 A5 c0 c1 c2 c3 c4 c5 t0 t1 t2 t3 t4 n ops w hr0 hc0 hr1 hc1 hr2 hc2 hr3 hc3 hr4 hc4 hr5 hc5 (Bool.eq_false_iff.2 hf) hlen).mono ?_
    rintro e w' ⟨rfl, hb⟩
    exact ⟨_, _, rfl, Kd.R_nil _ _ _ _ _, Kd.R_nil _ _ _ _ _, hb⟩
def spec_RunSystem.f (t0 t1 t2 t3 t4 : List S58) (n : Int) (ops : List S118) : Option (List Int × List Bool × Bool × Int × Bool) := if ops.length ≤ 1048576 then some (runRS t0 t1 t2 t3 t4 n ops) else none
theorem spec_RunSystem.calls (A0_0 : Option Addr) (c0_0 : Nat) (l0_0 : List S58) (A0_1 : Option Addr) (c0_1 : Nat) (l0_1 : List S58) (A0_2 : Option Addr) (c0_2 : Nat) (l0_2 : List S58) (A0_3 : Option Addr) (c0_3 : Nat) (l0_3 : List S58) (A0_4 : Option Addr) (c0_4 : Nat) (l0_4 : List S58) (a1 : Int) (A2 : Option Addr) (c2 : Nat) (l2 : List S118) (r1 : List Int) (r2 : List Bool) (r3 : Bool) (r4 : Int) (r5 : Bool) (w : World) (hr0_0 : Kd.C k58 w A0_0 l0_0.length l0_0) (hc0_0 : l0_0.length ≤ c0_0) (hr0_1 : Kd.C k58 w A0_1 l0_1.length l0_1) (hc0_1 : l0_1.length ≤ c0_1) (hr0_2 : Kd.C k58 w A0_2 l0_2.length l0_2) (hc0_2 : l0_2.length ≤ c0_2) (hr0_3 : Kd.C k58 w A0_3 l0_3.length l0_3) (hc0_3 : l0_3.length ≤ c0_3) (hr0_4 : Kd.C k58 w A0_4 l0_4.length l0_4) (hc0_4 : l0_4.length ≤ c0_4) (hr2 : Kd.C k118 w A2 l2.length l2) (hc2 : l2.length ≤ c2) (h : spec_RunSystem.f l0_0 l0_1 l0_2 l0_3 l0_4 a1 l2 = some (r1, r2, r3, r4, r5)) :
    Calls Try.prog 41 #[.agg #[.slice A0_0 l0_0.length c0_0, .slice A0_1 l0_1.length c0_1, .slice A0_2 l0_2.length c0_2, .slice A0_3 l0_3.length c0_3, .slice A0_4 l0_4.length c0_4], .int .i64 a1, .slice A2 l2.length c2] w fun e w' => ∃ v0_ v1_ : Value, e = .returned (.tuple #[.agg #[v0_, v1_, .bool r3], .int .i64 r4, .bool r5]) ∧ Kd.R (Kd.int .i64) 2 w' w.heap.size (fun k_ => some k_ ≠ (v1_ : Value).ownBlock) v0_ r1 ∧ Kd.R Kd.bool 4 w' w.heap.size (fun k_ => some k_ ≠ (v0_ : Value).ownBlock) v1_ r2 ∧ Below w.heap.size w w' := by
  unfold spec_RunSystem.f at h
  split at h
  rotate_left
  · cases h
  rename_i hlen
  refine (xRunSAll A0_0 A0_1 A0_2 A0_3 A0_4 A2 c0_0 c0_1 c0_2 c0_3 c0_4 c2 l0_0 l0_1 l0_2 l0_3 l0_4 a1 l2 w hr0_0 hc0_0 hr0_1 hc0_1 hr0_2 hc0_2 hr0_3 hc0_3 hr0_4 hc0_4 hr2 hc2 hlen r1 r2 r3 r4 r5 (Option.some.inj h)).mono ?_
  rintro e w' ⟨v0, v1, rfl, h1, h2, hb⟩
  exact ⟨v0, v1, rfl, h1, h2, hb⟩


end Go.Proofs.Ytlaafbaheoeclaa.PFnExactRunSystem
