import Derived.Test.YtdkpdpdaggnmhaaZReadsPFnReadsx0
import Derived.Test.YtdkpdpdaggnmhaaZReadsPFnReadsx4
import Derived.Test.YtdkpdpdaggnmhaaZReadsPFnReadsx5
import Derived.Test.YtdkpdpdaggnmhaaZReadsPFnReadsx6
import Derived.Test.YtdkpdpdaggnmhaaZReadsPFnReadsx8
import Derived.Test.YtdkpdpdaggnmhaaZReadsPFnReadsx9
import Derived.Test.YtdkpdpdaggnmhaaZReadsPFnReadsx10
namespace Go.Proofs.Ytdkpdpdaggnmhaa.PFnReads
open Go.RowKit Go.Proofs.YtdkpdpdaggnmhaaW.PrintWords Go.Proofs.YtdkpdpdaggnmhaaW.PrintLast Go.Proofs.YtdkpdpdaggnmhaaW.PrintMore
attribute [local go_sem] max2_int min2_int max_two min_two max_three min_three max_four min_four   -- for this text's walks alone
set_option linter.unusedVariables false
set_option linter.unusedSimpArgs false
theorem flush_next {cont : List Int} {qq : Nat} {y : Int} {ws cs : List Int} {ds ds0 : List Bool} (ho : Once cont) (hq : qq < cont.length) (hy : cont.getD qq 0 = y) (h : ∀ y ∈ cont.drop qq, 0 ≤ y → ds.getD y.toNat false = ds0.getD y.toNat false) :
    ∀ z ∈ cont.drop (qq + 1), 0 ≤ z → (outV ws cs ds y).2.2.getD z.toNat false = ds0.getD z.toNat false := by
  intro z hz h0
  have e : cont.drop qq = y :: cont.drop (qq + 1) := by rw [List.drop_eq_getElem_cons hq, ← hy, getD_lt cont qq 0 hq]
  have hne : z ≠ y := by
    intro e2
    have h1 : Once (cont.drop qq) := List.Nodup.sublist ((List.drop_sublist qq cont).filter _) ho
    rw [e, once_cons] at h1
    subst e2
    exact h1.1 h0 hz
  rw [← h z (by rw [e]; exact List.mem_cons_of_mem _ hz) h0]
  have h2 := out_ds ws cs ds y z.toNat
  rw [Int.toNat_of_nonneg h0] at h2
  rw [Bool.eq_iff_iff, h2]
  exact ⟨fun h => h.1, fun h => ⟨h, hne⟩⟩
set_option maxHeartbeats 4000000 in
set_option maxRecDepth 100000 in
theorem flush_calls {w0 w : World} {R : List (Thing × Nat × Nat)} {g bm cm lm hm p q m : Nat} {A0 : Option Addr} {c0 : Nat} {l0 : List (List Int)} {A1 : Option Addr} {c1 : Nat} {l1 : List Int} {back al : Bool} {j : Nat} {s : CacheV} (h : ImplAt w0 w R g bm cm lm hm p q m A0 c0 l0.length A1 c1 l1.length back al 0 j s) (hok : s.Ok m) (hfin : s.Fine) (hm1 : 1 ≤ m ∧ m ≤ 6) :
    Calls Try.prog 30 #[.pointer (some ⟨g, 0, none⟩)] w fun e w' => e = .returned (.tuple #[]) ∧ ImplAt w0 w' R g bm cm lm hm p q m A0 c0 l0.length A1 c1 l1.length back al (flushC s.cs s.cont 0 s.ws s.ds).1 j { s with ws := (flushC s.cs s.cont 0 s.ws s.ds).2.1 } := by
  obtain ⟨bk, kc, lk, hk, V, vc, lv, hv, K, b, c, lo, hi, M, D, mn, dn, ⟨hK, hM, hD, hmn, hdn⟩, HS⟩ := h
  have HOK := Aside0.mk hok
  have HFN := Aside0.mk hfin
  have HK := Aside0.mk hK
  have HM := Aside0.mk hM
  have HD_ := Aside0.mk hD
  have HMN := Aside0.mk hmn
  have HDN := Aside0.mk hdn
  have HM1 := Aside0.mk hm1
  clear hok hfin hK hM hD hmn hdn hm1
  have HCM := Aside0.mk (HS.reads' (List.mem_cons_of_mem _ (List.mem_cons_of_mem _ List.mem_cons_self))).1
  go_enter Try.func30, Try.ntmps30
  have q6 : w.cell? ⟨g, 6, none⟩ = some (.slice (some ⟨bk, 0, none⟩) m kc) := HS.cell List.mem_cons_self 6 _ rfl
  go_wp2_with fail
  clear q6
  have HSS := Aside0.mk HS
  have HFL := Aside0.mk (rfl : flushC s.cs s.cont 0 s.ws s.ds = flushC s.cs s.cont 0 s.ws s.ds)
  clear HS
  go_loopg [9] m (fun gg s9 wr => ∃ (qq : Nat) (f : Int) (ws : List Int) (ds : List Bool), qq ≤ m ∧ m - qq ≤ gg ∧ s9 = .int .i64 (qq : Int) ∧ Aside0 (flushC s.cs (s.cont.drop qq) f ws ds = flushC s.cs s.cont 0 s.ws s.ds) ∧ Aside0 (0 ≤ f ∧ f ≤ 4 * qq) ∧ Aside0 (∀ y ∈ s.cont.drop qq, 0 ≤ y → ds.getD y.toNat false = s.ds.getD y.toNat false) ∧ Aside0 (Hold w0 wr ((boxT #[.slice A0 l0.length c0, .slice A1 l1.length c1, .bool back, .bool al, .slice (some ⟨bm, 0, none⟩) 64 cm, .slice V s.rd.length vc, .slice (some ⟨bk, 0, none⟩) m kc, .map (some p), .map (some q), .int .i64 s.h, .int .i64 s.m, .int .i64 s.i, .int .i64 s.o, .int .i64 f] 64, g, g + 1) :: (flat (Kd.int .i64) 2 (.slice (some ⟨bm, 0, none⟩) 64 cm) ws, lm, hm) :: (flat (Kd.int .i64) 2 (.slice (some ⟨bk, 0, none⟩) m kc) s.cont, lk, hk) :: (flat (Kd.int .i64) 2 (.slice V s.rd.length vc) s.rd, lv, hv) :: (mapT Try.prog 2 M mn, p, p + 1) :: (mapT Try.prog 2 D dn, q, q + 1) :: (K.map (lineI s.cs b c lo hi) ++ R))))
  case atStart => exact ⟨0, 0, s.ws, s.ds, Nat.zero_le _, Nat.le_refl _, rfl, HFL, ⟨⟨Int.le_refl _, by omega⟩⟩, ⟨fun _ _ _ => rfl⟩, HSS⟩
  case round =>
    clear HSS HFL
    obtain ⟨qq, f, ws, ds, hqq, hgq, rfl, HFL, HBN, HDS, HSS⟩ := hrel
    by_cases hqm : qq < m
    · have HS := HSS.out
      have hqz : (qq : Int) < (m : Int) := by omega
      have hq0 : (0 : Int) ≤ qq := Int.natCast_nonneg qq
      have hm6 : (m : Int) ≤ 6 := by have := HM1.out.2; omega
      have hqs : qq < s.cont.length := by have := HOK.out.cont; omega
      obtain ⟨y, hy⟩ : ∃ y, s.cont.getD qq 0 = y := ⟨_, rfl⟩
      have HY := Aside0.mk hy
      have HYM : Aside0 (y ∈ s.cont ∧ y ∈ s.cont.drop qq) := ⟨by rw [← hy]; exact ⟨getD_memI s.cont qq 0 hqs, by rw [List.drop_eq_getElem_cons hqs, getD_lt s.cont qq 0 hqs]; exact List.mem_cons_self⟩⟩
      have HY16 := Aside0.mk (HOK.out.lines y HYM.out.1)
      clear hy
      have ry := (HS.cellI (List.mem_cons_of_mem _ (List.mem_cons_of_mem _ List.mem_cons_self)) (qq : Int) hq0 (by exact Int.ofNat_lt.2 hqs)).1
      rw [Int.toNat_natCast, HY.out] at ry
      obtain ⟨dv, hdv⟩ : ∃ dv, decide (0 ≤ y ∧ s.ds.getD y.toNat false = true) = dv := ⟨_, rfl⟩
      have HDV := Aside0.mk hdv
      clear hdv
      have lk1 := look_dirty HS (List.mem_cons_of_mem _ (List.mem_cons_of_mem _ (List.mem_cons_of_mem _ (List.mem_cons_of_mem _ (List.mem_cons_of_mem _ List.mem_cons_self))))) HD_.out (o := y) (by have := HY16.out; omega) HDV.out
      have HNX := Aside0.mk (flush_next HFN.out.once hqs HY.out (ws := ws) (cs := s.cs) HDS.out)
      have q8 : wr.cell? ⟨g, 8, none⟩ = some (.map (some q)) := HS.cell List.mem_cons_self 8 _ rfl
      cases dv
      · go_wp2_with fail
        obtain ⟨o1, ws1, ds1, hov⟩ : ∃ o1 ws1 ds1, outV ws s.cs ds y = (o1, ws1, ds1) := ⟨_, _, _, rfl⟩
        have h3 := out_not hov (fun k => of_decide_eq_false HDV.out ⟨k.1, by rw [← HDS.out y HYM.out.2 k.1]; exact k.2⟩)
        rw [h3.1, h3.2.1, h3.2.2] at hov
        have HOV := Aside0.mk hov
        clear hov h3
        clear q8 lk1 ry HS
        go_roundg (m - (qq + 1))
        case measure => omega
        case rel => exact ⟨qq + 1, f, ws, ds, hqm, Nat.le_refl _, rfl, ⟨by rw [← HFL.out, flush_step _ _ _ hqs, HY.out, HOV.out, Int.add_zero]⟩, ⟨⟨HBN.out.1, by have := HBN.out.2; omega⟩⟩, ⟨by have h := HNX.out; rw [HOV.out] at h; exact h⟩, HSS⟩
      · obtain ⟨hy0, hyd⟩ := of_decide_eq_true HDV.out
        obtain ⟨yl, rfl⟩ : ∃ yl : Nat, y = (yl : Int) := ⟨y.toNat, by omega⟩
        rw [Int.toNat_natCast] at hyd
        have HYK : Aside0 ((yl : Int) ∈ K) := ⟨(HK.out.mem _).2 ⟨hy0, HYM.out.1⟩⟩
        have hyd2 : ds.getD yl false = true := by have := HDS.out _ HYM.out.2 hy0; rw [Int.toNat_natCast] at this; rw [this]; exact hyd
        obtain ⟨o1, ws1, ds1, hov⟩ : ∃ o1 ws1 ds1, outV ws s.cs ds (yl : Int) = (o1, ws1, ds1) := ⟨_, _, _, rfl⟩
        have HOV := Aside0.mk hov
        obtain ⟨rfl, rfl⟩ := out_yes hov hyd2
        clear hov hyd hyd2 hy0
        clear HSS
        go_wp2_with fail
        clear q8 lk1 ry
        replace HS := hold_take (L := [(boxT #[.slice A0 l0.length c0, .slice A1 l1.length c1, .bool back, .bool al, .slice (some ⟨bm, 0, none⟩) 64 cm, .slice V s.rd.length vc, .slice (some ⟨bk, 0, none⟩) m kc, .map (some p), .map (some q), .int .i64 s.h, .int .i64 s.m, .int .i64 s.i, .int .i64 s.o, .int .i64 f] 64, g, g + 1), (flat (Kd.int .i64) 2 (.slice (some ⟨bm, 0, none⟩) 64 cm) ws, lm, hm), (flat (Kd.int .i64) 2 (.slice (some ⟨bk, 0, none⟩) m kc) s.cont, lk, hk), (flat (Kd.int .i64) 2 (.slice V s.rd.length vc) s.rd, lv, hv), (mapT Try.prog 2 M mn, p, p + 1), (mapT Try.prog 2 D dn, q, q + 1)]) HS HYK.out
        change Hold w0 wr ((flat (Kd.int .i64) 2 (.slice (some ⟨(b yl), 0, none⟩) 4 (c yl)) ([s.cs.getD (yl * 4 + 0) 0, s.cs.getD (yl * 4 + 1) 0, s.cs.getD (yl * 4 + 2) 0, s.cs.getD (yl * 4 + 3) 0]), (lo yl), (hi yl)) :: (boxT #[.slice A0 l0.length c0, .slice A1 l1.length c1, .bool back, .bool al, .slice (some ⟨bm, 0, none⟩) 64 cm, .slice V s.rd.length vc, .slice (some ⟨bk, 0, none⟩) m kc, .map (some p), .map (some q), .int .i64 s.h, .int .i64 s.m, .int .i64 s.i, .int .i64 s.o, .int .i64 f] 64, g, g + 1) :: (flat (Kd.int .i64) 2 (.slice (some ⟨bm, 0, none⟩) 64 cm) ws, lm, hm) :: (flat (Kd.int .i64) 2 (.slice (some ⟨bk, 0, none⟩) m kc) s.cont, lk, hk) :: (flat (Kd.int .i64) 2 (.slice V s.rd.length vc) s.rd, lv, hv) :: (mapT Try.prog 2 M mn, p, p + 1) :: (mapT Try.prog 2 D dn, q, q + 1) :: ((K.erase (yl : Int)).map (lineI s.cs b c lo hi) ++ R)) at HS
        replace HS := HS.pick (.there (.there (.there (.there (.there .here)))))
        replace HS := HS.pick (.there (.there (.there .here)))
        replace HS := HS.pick (.there (.there (.there .here)))
        refine (put_calls (n := yl) (by have := HY16.out; omega) (by rw [HM.out]; exact if_pos HYK.out) HS).mono ?_
        clear HS
        rintro e w3 ⟨rfl, HS⟩
        replace HS := HS.pick (.there (.there (.there (.there (.there (.there .here))))))
        replace HS := HS.pick (.there (.there (.there .here)))
        replace HS := HS.pick (.there (.there (.there (.there (.there (.there .here))))))
        replace HS := HS.pick (.there (.there (.there (.there (.there (.there .here))))))
        replace HS := HS.pick (.there (.there (.there (.there (.there .here)))))
        replace HS := HS.pick (.there (.there (.there (.there (.there .here)))))
        replace HS := HS.pick (.there (.there (.there (.there (.there (.there .here))))))
        replace HS := hold_give (f := lineI s.cs b c lo hi) (K := K) (L := [(boxT #[.slice A0 l0.length c0, .slice A1 l1.length c1, .bool back, .bool al, .slice (some ⟨bm, 0, none⟩) 64 cm, .slice V s.rd.length vc, .slice (some ⟨bk, 0, none⟩) m kc, .map (some p), .map (some q), .int .i64 s.h, .int .i64 s.m, .int .i64 s.i, .int .i64 s.o, .int .i64 f] 64, g, g + 1), (flat (Kd.int .i64) 2 (.slice (some ⟨bm, 0, none⟩) 64 cm) (put4 ws (yl * 4) (s.cs.getD (yl * 4 + 0) 0) (s.cs.getD (yl * 4 + 1) 0) (s.cs.getD (yl * 4 + 2) 0) (s.cs.getD (yl * 4 + 3) 0)), lm, hm), (flat (Kd.int .i64) 2 (.slice (some ⟨bk, 0, none⟩) m kc) s.cont, lk, hk), (flat (Kd.int .i64) 2 (.slice V s.rd.length vc) s.rd, lv, hv), (mapT Try.prog 2 M mn, p, p + 1), (mapT Try.prog 2 D dn, q, q + 1)]) HS HYK.out
        change Hold w0 w3 ((boxT #[.slice A0 l0.length c0, .slice A1 l1.length c1, .bool back, .bool al, .slice (some ⟨bm, 0, none⟩) 64 cm, .slice V s.rd.length vc, .slice (some ⟨bk, 0, none⟩) m kc, .map (some p), .map (some q), .int .i64 s.h, .int .i64 s.m, .int .i64 s.i, .int .i64 s.o, .int .i64 f] 64, g, g + 1) :: (flat (Kd.int .i64) 2 (.slice (some ⟨bm, 0, none⟩) 64 cm) (put4 ws (yl * 4) (s.cs.getD (yl * 4 + 0) 0) (s.cs.getD (yl * 4 + 1) 0) (s.cs.getD (yl * 4 + 2) 0) (s.cs.getD (yl * 4 + 3) 0)), lm, hm) :: (flat (Kd.int .i64) 2 (.slice (some ⟨bk, 0, none⟩) m kc) s.cont, lk, hk) :: (flat (Kd.int .i64) 2 (.slice V s.rd.length vc) s.rd, lv, hv) :: (mapT Try.prog 2 M mn, p, p + 1) :: (mapT Try.prog 2 D dn, q, q + 1) :: (K.map (lineI s.cs b c lo hi) ++ R)) at HS
        have y1 := HBN.out.1
        have y2 : f ≤ 1000 := by have := HBN.out.2; omega
        have q13 : w3.cell? ⟨g, 13, none⟩ = some (.int .i64 f) := HS.cell List.mem_cons_self 13 _ rfl
        have fzq : ∀ j, w3.frozen? ⟨g, j, none⟩ = false := HS.thaw List.mem_cons_self
        go_wp2_with fail
        clear y1 y2 q13 fzq
        replace HS := HS.setBox 13 (.int .i64 (f + 4)) .here
        simp only [List.setIfInBounds_toArray, List.set_cons_zero, List.set_cons_succ] at HS
        generalize w3.setCell ⟨g, 13, none⟩ (.int .i64 (f + 4)) = w4 at HS ⊢
        have HSS := Aside0.mk HS
        clear HS
        go_roundg (m - (qq + 1))
        case measure => omega
        case rel => exact ⟨qq + 1, f + 4, _, ds1, hqm, Nat.le_refl _, rfl, ⟨by rw [← HFL.out, flush_step _ _ _ hqs, HY.out, HOV.out]⟩, ⟨⟨by have := HBN.out.1; omega, by have := HBN.out.2; omega⟩⟩, ⟨by have h := HNX.out; rw [HOV.out] at h; exact h⟩, HSS⟩
    · have HS := HSS.out
      obtain rfl : qq = m := by omega
      have hqz : ¬ (qq : Int) < (qq : Int) := by omega
      have hfl : (f, ws, ds) = flushC s.cs s.cont 0 s.ws s.ds := by rw [← HFL.out, List.drop_eq_nil_of_le (by have := HOK.out.cont; omega)]; rfl
      have HF2 := Aside0.mk hfl
      clear hfl HSS
      go_wp2_with fail
      (try simp only [Exit.inBlock, Exit.then]); first | refine bodyPost_ret (results_none rfl _ _ _) rfl ?_ | refine bodyPost_end (results_none rfl _ _ _) rfl ?_
      refine ⟨rfl, ?_⟩
      rw [← HF2.out]
      exact ⟨bk, kc, lk, hk, V, vc, lv, hv, K, b, c, lo, hi, M, D, mn, dn, ⟨HK.out, HM.out, HD_.out, HMN.out, HDN.out⟩, HS⟩
def impl_CacheReads.f (l0_0 : List (List Int)) (l0_1 : List Int) (a0_2 : Bool) (a0_3 : Bool) (l1 : List S37) : Option (List Int × Bool) := if polLen l0_0 l0_1 ∧ l1.length ≤ 1048576 then some (readsV l0_0 l0_1 a0_2 a0_3 l1) else none
set_option maxHeartbeats 1600000 in
set_option maxRecDepth 100000 in
theorem yCacheReads_bad (A0_0 : Option Addr) (c0_0 : Nat) (l0_0 : List (List Int)) (A0_1 : Option Addr) (c0_1 : Nat) (l0_1 : List Int) (a0_2 : Bool) (a0_3 : Bool) (A1 : Option Addr) (c1 : Nat) (l1 : List S37) (w : World) (hr0_0 : Kd.C (Kd.slice 2 (Kd.int .i64)) w A0_0 l0_0.length l0_0) (hc0_0 : l0_0.length ≤ c0_0) (hr0_1 : Kd.C (Kd.int .i64) w A0_1 l0_1.length l0_1) (hc0_1 : l0_1.length ≤ c0_1) (hr1 : Kd.C k37 w A1 l1.length l1) (hc1 : l1.length ≤ c1) (hln : polLen l0_0 l0_1 ∧ l1.length ≤ 1048576) (hv : (validB l0_0 l0_1 && traceB l1) = false) :
    Calls Try.prog 8 #[.agg #[.slice A0_0 l0_0.length c0_0, .slice A0_1 l0_1.length c0_1, .bool a0_2, .bool a0_3], .slice A1 l1.length c1] w fun e w' => ∃ v0_ : Value, e = .returned (.tuple #[v0_, .bool false]) ∧ Kd.R (Kd.int .i64) 2 w' w.heap.size (fun _ => True) v0_ [] ∧ Below w.heap.size w w' := by
  have HR0 := Aside0.mk hr0_0
  have HC0 := Aside0.mk hc0_0
  have HR1 := Aside0.mk hr0_1
  have HC1 := Aside0.mk hc0_1
  have HT := Aside0.mk hr1
  have HCT := Aside0.mk hc1
  have HLN := Aside0.mk hln
  have HV := Aside0.mk hv
  clear hr0_0 hc0_0 hr0_1 hc0_1 hr1 hc1 hln hv
  have HS := (Hold.start w).box #[.slice A0_0 l0_0.length c0_0, .slice A0_1 l0_1.length c0_1, .bool a0_2, .bool a0_3] 29
  go_enter Try.func8, Try.ntmps8
  go_wp2_with fail
  refine (impl_isCached.calls A0_0 c0_0 l0_0 A0_1 c0_1 l0_1 a0_2 a0_3 A1 c1 l1 false _ (Kd.C_below HR0.out HS.below) HC0.out (Kd.C_below HR1.out HS.below) HC1.out (Kd.C_below HT.out HS.below) HCT.out ((isCached_f a0_2 a0_3 HLN.out.1).trans (by rw [HV.out]))).mono ?_
  rintro e w1 ⟨rfl, hb⟩
  replace HS := HS.step (by first | exact hb | exact hb.below)
  clear hb
  go_wp2_with fail
  go_ret2
  exact ⟨_, rfl, Kd.R_nil _ _ _ _ _, HS.below⟩
set_option maxHeartbeats 1600000 in
set_option maxRecDepth 100000 in
theorem yCacheReads_ok (A0_0 : Option Addr) (c0_0 : Nat) (l0_0 : List (List Int)) (A0_1 : Option Addr) (c0_1 : Nat) (l0_1 : List Int) (a0_2 : Bool) (a0_3 : Bool) (A1 : Option Addr) (c1 : Nat) (l1 : List S37) (w : World) (hr0_0 : Kd.C (Kd.slice 2 (Kd.int .i64)) w A0_0 l0_0.length l0_0) (hc0_0 : l0_0.length ≤ c0_0) (hr0_1 : Kd.C (Kd.int .i64) w A0_1 l0_1.length l0_1) (hc0_1 : l0_1.length ≤ c0_1) (hr1 : Kd.C k37 w A1 l1.length l1) (hc1 : l1.length ≤ c1) (hln : polLen l0_0 l0_1 ∧ l1.length ≤ 1048576) (hv : (validB l0_0 l0_1 && traceB l1) = true) :
    Calls Try.prog 8 #[.agg #[.slice A0_0 l0_0.length c0_0, .slice A0_1 l0_1.length c0_1, .bool a0_2, .bool a0_3], .slice A1 l1.length c1] w fun e w' => ∃ v0_ : Value, e = .returned (.tuple #[v0_, .bool true]) ∧ Kd.R (Kd.int .i64) 2 w' w.heap.size (fun _ => True) v0_ (cacheEnd l0_0 l0_1 a0_2 a0_3 l1).rd ∧ Below w.heap.size w w' := by
  have HR0 := Aside0.mk hr0_0
  have HC0 := Aside0.mk hc0_0
  have HR1 := Aside0.mk hr0_1
  have HC1 := Aside0.mk hc0_1
  have HT := Aside0.mk hr1
  have HCT := Aside0.mk hc1
  have HLN := Aside0.mk hln
  have HV := Aside0.mk hv
  clear hr0_0 hc0_0 hr0_1 hc0_1 hr1 hc1 hln hv
  have HS := (Hold.start w).box #[.slice A0_0 l0_0.length c0_0, .slice A0_1 l0_1.length c0_1, .bool a0_2, .bool a0_3] 29
  go_enter Try.func8, Try.ntmps8
  go_wp2_with fail
  refine (impl_isCached.calls A0_0 c0_0 l0_0 A0_1 c0_1 l0_1 a0_2 a0_3 A1 c1 l1 true _ (Kd.C_below HR0.out HS.below) HC0.out (Kd.C_below HR1.out HS.below) HC1.out (Kd.C_below HT.out HS.below) HCT.out ((isCached_f a0_2 a0_3 HLN.out.1).trans (by rw [HV.out]))).mono ?_
  rintro e w1 ⟨rfl, hb⟩
  replace HS := HS.step (by first | exact hb | exact hb.below)
  clear hb
  obtain ⟨hv1, hv2⟩ := Bool.and_eq_true_iff.1 HV.out
  have HTF := Aside0.mk (trace_facts hv2)
  have HVF := Aside0.mk (valid_facts hv1)
  have HV1 := Aside0.mk hv1
  clear hv1 hv2
  have x0 : w1.cell? ⟨w.heap.size, 0, none⟩ = some (.slice A0_0 l0_0.length c0_0) := HS.cell List.mem_cons_self 0 _ rfl
  have x1 : w1.cell? ⟨w.heap.size, 1, none⟩ = some (.slice A0_1 l0_1.length c0_1) := HS.cell List.mem_cons_self 1 _ rfl
  have x2 : w1.cell? ⟨w.heap.size, 2, none⟩ = some (.bool a0_2) := HS.cell List.mem_cons_self 2 _ rfl
  have x3 : w1.cell? ⟨w.heap.size, 3, none⟩ = some (.bool a0_3) := HS.cell List.mem_cons_self 3 _ rfl
  go_wp2_with fail
  clear x0 x1 x2 x3
  refine (cached_calls A0_0 c0_0 l0_0 A0_1 c0_1 l0_1 a0_2 a0_3 A1 c1 l1 (m := l0_1.length) (fin := (cacheEnd l0_0 l0_1 a0_2 a0_3 l1)) (Kd.C_below HR0.out HS.below) HC0.out (Kd.C_below HR1.out HS.below) HC1.out HV1.out rfl (Kd.C_below HT.out HS.below) HCT.out HTF.out.2 HTF.out.1 rfl (by unfold impl_Policy_empty.f; exact if_pos ⟨HVF.out.1, by have := HVF.out.2.1; omega⟩)).mono ?_
  rintro e w2 ⟨g, rfl, bm, cm, lm, hm, p, q, R, HI⟩
  obtain ⟨bk, kc, lk, hk, V, vc, lv, hv, K, b, c, lo, hi, M, D, mn, dn, _, HQ⟩ := HI
  replace HS := hold_glue HS HQ
  clear HQ
  simp only [List.cons_append, List.nil_append] at HS
  have o5 : w2.cell? ⟨g, 5, none⟩ = some (.slice V (cacheEnd l0_0 l0_1 a0_2 a0_3 l1).rd.length vc) := HS.cell List.mem_cons_self 5 _ rfl
  have HRR := Aside0.mk (HS.one (List.mem_cons_of_mem _ (List.mem_cons_of_mem _ (List.mem_cons_of_mem _ List.mem_cons_self))))
  have HB := Aside0.mk HS.below
  clear HS
  go_wp2_with fail
  go_ret2
  exact ⟨_, rfl, HRR.out, HB.out⟩
theorem impl_CacheReads.calls (A0_0 : Option Addr) (c0_0 : Nat) (l0_0 : List (List Int)) (A0_1 : Option Addr) (c0_1 : Nat) (l0_1 : List Int) (a0_2 : Bool) (a0_3 : Bool) (A1 : Option Addr) (c1 : Nat) (l1 : List S37) (r1 : List Int) (r2 : Bool) (w : World) (hr0_0 : Kd.C (Kd.slice 2 (Kd.int .i64)) w A0_0 l0_0.length l0_0) (hc0_0 : l0_0.length ≤ c0_0) (hr0_1 : Kd.C (Kd.int .i64) w A0_1 l0_1.length l0_1) (hc0_1 : l0_1.length ≤ c0_1) (hr1 : Kd.C k37 w A1 l1.length l1) (hc1 : l1.length ≤ c1) (h : impl_CacheReads.f l0_0 l0_1 a0_2 a0_3 l1 = some (r1, r2)) :
    Calls Try.prog 8 #[.agg #[.slice A0_0 l0_0.length c0_0, .slice A0_1 l0_1.length c0_1, .bool a0_2, .bool a0_3], .slice A1 l1.length c1] w fun e w' => ∃ v0_ : Value, e = .returned (.tuple #[v0_, .bool r2]) ∧ Kd.R (Kd.int .i64) 2 w' w.heap.size (fun _ => True) v0_ r1 ∧ Below w.heap.size w w' := by
  unfold impl_CacheReads.f readsV cacheOk at h
  split at h
  rotate_left
  · cases h
  rename_i hln
  cases hv : (validB l0_0 l0_1 && traceB l1) with
  | false =>
    rw [hv, if_neg (by decide)] at h
    cases h
    exact yCacheReads_bad A0_0 c0_0 l0_0 A0_1 c0_1 l0_1 a0_2 a0_3 A1 c1 l1 w hr0_0 hc0_0 hr0_1 hc0_1 hr1 hc1 hln hv
  | true =>
    rw [hv, if_pos rfl] at h
    injection h with h
    injection h with h1 h2
    subst h1 h2
    exact yCacheReads_ok A0_0 c0_0 l0_0 A0_1 c0_1 l0_1 a0_2 a0_3 A1 c1 l1 w hr0_0 hc0_0 hr0_1 hc0_1 hr1 hc1 hln hv
def impl_plainRun.l0 : Nat → List Int → List Int → List (S37) → Int → Int → Option (List Int × List Int)
  | 0, _, _, _, _, _ => none
  | k + 1, x4, x5, x10, x11, x12 => if x12 < x11 then (if 0 ≤ x12 then (if x12 < (x10.length : Int) then (if ((rd_T37 x10 x12).f0) = 1 then (if 0 ≤ ((rd_T37 x10 x12).f1) then (if ((rd_T37 x10 x12).f1) < (x5.length : Int) then (impl_plainRun.l0 k x4 (x5.set (((rd_T37 x10 x12).f1) : Int).toNat (wrap64 (x12 + 1))) x10 x11 (wrap64 (x12 + 1))) else (none)) else (none)) else (if 0 ≤ ((rd_T37 x10 x12).f1) then (if ((rd_T37 x10 x12).f1) < (x5.length : Int) then (if x4.length < 17592186044416 then (impl_plainRun.l0 k (x4 ++ [rd x5 ((rd_T37 x10 x12).f1)]) x5 x10 x11 (wrap64 (x12 + 1))) else (none)) else (none)) else (none))) else (none)) else (none)) else (some (x4, x5))
def impl_plainRun.f (k : Nat) (l0 : List (S37)) : Option (List Int × List Int) := if 64 ≤ 35184372088832 then (impl_plainRun.l0 k (([] : List Int)) (List.replicate 64 0) l0 (l0.length : Int) 0) else (none)
theorem impl_plainRun.mono_l : ∀ k, (∀ y0 y1 y2 y3 y4, LeO (impl_plainRun.l0 k y0 y1 y2 y3 y4) (impl_plainRun.l0 (k + 1) y0 y1 y2 y3 y4))
  | 0 => fun _ _ _ _ _ r h => by simp [impl_plainRun.l0] at h
  | k + 1 => by
    have ih0 := impl_plainRun.mono_l k
    · intro y0 y1 y2 y3 y4
      unfold impl_plainRun.l0
      repeat' first
      | (with_reducible exact ih0 _ _ _ _ _)
      | (with_reducible exact LeO.refl _)
      | (with_reducible exact LeO.none _)
      | (with_reducible refine LeO.ite ?_ ?_)
      | (with_reducible refine LeO.bind ?_ (fun _ => ?_))
      | exact ih0 _ _ _ _ _
      | exact LeO.none _
      | refine LeO.ite ?_ ?_
      | refine LeO.bind ?_ (fun _ => ?_)
theorem impl_plainRun.mono : ∀ a0 k, LeO (impl_plainRun.f k a0) (impl_plainRun.f (k + 1) a0) := by
  intro a0 k
  have ih0 := impl_plainRun.mono_l k
  unfold impl_plainRun.f
  repeat' first
      | (with_reducible exact ih0 _ _ _ _ _)
      | (with_reducible exact LeO.refl _)
      | (with_reducible exact LeO.none _)
      | (with_reducible refine LeO.ite ?_ ?_)
      | (with_reducible refine LeO.bind ?_ (fun _ => ?_))
      | exact ih0 _ _ _ _ _
      | exact LeO.none _
      | refine LeO.ite ?_ ?_
      | refine LeO.bind ?_ (fun _ => ?_)
set_option maxHeartbeats 8000000 in
set_option maxRecDepth 100000 in
theorem impl_plainRun.calls (k : Nat) (A0 : Option Addr) (c0 : Nat) (l0 : List (S37)) (r1 : List Int) (r2 : List Int) (w : World) (hr0 : Kd.C k37 w A0 l0.length l0) (hc0 : l0.length ≤ c0) (h : impl_plainRun.f k l0 = some (r1, r2)) :
    Calls Try.prog 29 #[.slice A0 l0.length c0] w fun e w' => ∃ v0_ v1_ : Value, e = .returned (.tuple #[v0_, v1_]) ∧ Kd.R (Kd.int .i64) 2 w' w.heap.size (fun k_ => some k_ ≠ (v1_ : Value).ownBlock) v0_ r1 ∧ Kd.R (Kd.int .i64) 2 w' w.heap.size (fun k_ => some k_ ≠ (v0_ : Value).ownBlock) v1_ r2 ∧ Below w.heap.size w w' := by
  have hu37 := Try.underlying37
  have HR0 := Aside0.mk hr0
  have HC0 := Aside0.mk hc0
  clear hr0 hc0
  have HB := Aside0.mk (Below.refl w.heap.size w)
  have H : (if 64 ≤ 35184372088832 then (impl_plainRun.l0 k (([] : List Int)) (List.replicate 64 0) l0 (l0.length : Int) 0) else (none)) = some (r1, r2) := h
  clear h
  obtain ⟨y414, hy414⟩ : ∃ y_ : List Int, y_ = (([] : List Int)) := ⟨_, rfl⟩
  replace H : (if 64 ≤ 35184372088832 then (impl_plainRun.l0 k y414 (List.replicate 64 0) l0 (l0.length : Int) 0) else (none)) = some (r1, r2) := by first | (rw [hy414]; with_reducible exact H) | (have H2_ := (Option.bind_some _ _).symm.trans H; rw [hy414]; with_reducible exact H2_) | (have H2_ := (Option.bind_some _ _).symm.trans H; with_reducible exact H2_) | with_reducible exact H | (rw [hy414]; exact H) | exact H
  have Ny414 := Aside0.mk hy414
  clear hy414
  by_cases c2 : 64 ≤ 35184372088832
  · rw [if_pos c2] at H
    have c2b0 := eq_true c2
    have c2b1 : decide (64 ≤ 35184372088832) = true := decide_eq_true c2
    clear c2
    obtain ⟨y417, hy417⟩ : ∃ y_ : List Int, y_ = (List.replicate 64 0) := ⟨_, rfl⟩
    replace H : (impl_plainRun.l0 k y414 y417 l0 (l0.length : Int) 0) = some (r1, r2) := by first | (rw [hy417]; with_reducible exact H) | (have H2_ := (Option.bind_some _ _).symm.trans H; rw [hy417]; with_reducible exact H2_) | (have H2_ := (Option.bind_some _ _).symm.trans H; with_reducible exact H2_) | with_reducible exact H | (rw [hy417]; exact H) | exact H
    have Ny417 := Aside0.mk hy417
    clear hy417
    have H' := Aside0.mk H
    clear H
    go_enter Try.func29, Try.ntmps29
    try go_wp2
    have n0_ := Aside0.mk (below_drew1 HB.out)
    clear HB
    have HB := n0_
    clear n0_
    refine start_ (n := 4) (S := fun w' => True) (ds := []) #[false, false, false, false] (by kernel_rfl) rfl rfl trivial (fun hHeld => ?_)
    generalize w.drew = w3 at HB hHeld ⊢
    refine join_ (σ := Value × Value) 1 #[true, true, true, false] (fun s_ => [(8, s_.1), (9, s_.2), (4, s_.1)]) (fun s_ w' => (Kd.R (Kd.int .i64) 2 w' w.heap.size (fun k_ => some k_ ≠ (s_.2 : Value).ownBlock) s_.1 y414) ∧ (Kd.R (Kd.int .i64) 2 w' w.heap.size (fun k_ => some k_ ≠ (s_.1 : Value).ownBlock) s_.2 y417) ∧ (Below w.heap.size w w')) ?_ ?_
    rotate_left
    · intro hCont
      refine two_ (i := 0) (j := 1) (Ni := some 8) (Nj := some 9) #[true, false, false, false] #[false, true, false, false] rfl rfl rfl rfl (by kernel_rfl) (by decide) (by decide) (fun K hK => ?_) (fun K hK => ?_)
      · skip
        refine Kd.R_lit_step (Kd.int .i64) _ 2 ?hg (N := 8) ?hd (xs := ([] : List Int)) (inner := []) (ok := fun _ => True) (okp := fun _ => True) ?hr ?hp (fun _ hk => hk) trivial (Below.refl _ _) (Nat.le_refl _) (by simp) ?_; (case hd => rfl); (case hg => rfl); (case hr => first | (go_simp; done) | (go_simp; rfl)); (case hp => exact (Reps.none _ _))
        intro v415 w4 ho5 hb hg_ hnew_
        clear hg_ hnew_
        (first | rw [← Ny414.out] at ho5 | (simp only [Int.reduceToNat] at ho5; rw [← Ny414.out] at ho5))
        have n0_ := Aside0.mk (Kd.R_lower ho5 (below_size (by repeat (first | (with_reducible first | exact HB.out | apply below_alloc | apply pw_below_drewN | apply below_drew1) | exact HB.out))))
        have n1_ := Aside0.mk (below_step (by repeat (first | (with_reducible first | exact HB.out | apply below_alloc | apply pw_below_drewN | apply below_drew1) | exact HB.out)) hb)
        clear HB
        have HO416 := n0_
        have HB := n1_
        clear n0_ n1_
        clear hb ho5
        refine hK.out _ _ trivial (fun hHeld => ?_)
        clear hK K
        refine norm_ (a' := ?_) ?_ ?_
        rotate_left
        · show Act.put _ (some 8) _ = _
          simp only [Act.put, List.setIfInBounds_toArray, List.set_cons_zero, List.set_cons_succ, i64_w, i32_w]
          rfl
        refine pure_ (i := 2) (N := some 4) (v := ?_) (a' := ?_) #[true, false, true, false] rfl rfl (by kernel_rfl) (fun _ _ _ h => h) (Or.inl ⟨by rfl, ?_⟩) ?_ ?_
        rotate_left
        · intro w'
          go_simp
          with_reducible rfl
        rotate_left
        · simp only [Act.put, List.setIfInBounds_toArray, List.set_cons_zero, List.set_cons_succ, i64_w, i32_w]
          rfl
        refine one_ (i := 1) (N := some 9) #[true, true, true, false] rfl rfl (by kernel_rfl) (by decide) (fun K hK => ?_)
        refine Kd.R_make_step (Kd.int .i64) _ 2 (by rfl) (N := 9) rfl 25 _ _ rfl 64 rfl rfl Try.underlying25 (.int .i64 0) 8 info2 rfl (by decide) (by omega) 0 (ok := fun _ => True) (okp := fun _ => True) rfl (fun _ hk => hk) trivial (by omega) (by omega) (Below.refl _ _) (Nat.le_refl _) ?_
        intro v418 w6 ho7 hb hg_ hnew_
        clear hg_ hnew_
        (first | rw [← Ny417.out] at ho7 | (simp only [Int.reduceToNat] at ho7; rw [← Ny417.out] at ho7))
        have n0_ := Aside0.mk (Kd.R_elder' (by (with_reducible repeat (first | apply Kd.R_alloc | apply Kd.R_drewN | apply Kd.R_drew)); exact HO416.out) (Kd.R_base ho7) hb)
        have n1_ := Aside0.mk (Kd.R_lower (Kd.R_new' ho7 (Kd.R_lt (by (with_reducible repeat (first | apply Kd.R_alloc | apply Kd.R_drewN | apply Kd.R_drew)); exact HO416.out))) (below_size (by repeat (first | (with_reducible first | exact HB.out | apply below_alloc | apply pw_below_drewN | apply below_drew1) | exact HB.out))))
        have n2_ := Aside0.mk (below_step (by repeat (first | (with_reducible first | exact HB.out | apply below_alloc | apply pw_below_drewN | apply below_drew1) | exact HB.out)) hb)
        clear HO416
        clear HB
        have HO416 := n0_
        have HO419 := n1_
        have HB := n2_
        clear n0_ n1_ n2_
        clear hb ho7
        refine hK.out _ _ trivial (fun hHeld => ?_)
        clear hK K
        refine norm_ (a' := ?_) ?_ ?_
        rotate_left
        · show Act.put _ (some 9) _ = _
          simp only [Act.put, List.setIfInBounds_toArray, List.set_cons_zero, List.set_cons_succ, i64_w, i32_w]
          rfl
        exact norm_ (by simp only [putAll, Act.put, List.setIfInBounds_toArray, List.set_cons_zero, List.set_cons_succ]) (hCont (v415, v418) _ ⟨(by (with_reducible repeat (first | apply Kd.R_alloc | apply Kd.R_drewN | apply Kd.R_drew)); exact Kd.R_mono HO416.out (fun _ hk => hk.2)), (by (with_reducible repeat (first | apply Kd.R_alloc | apply Kd.R_drewN | apply Kd.R_drew)); exact Kd.R_mono HO419.out (fun _ hk => hk.2)), (by repeat (first | (with_reducible first | exact HB.out | apply below_alloc | apply pw_below_drewN | apply below_drew1) | exact HB.out))⟩)
      · skip
        refine Kd.R_make_step (Kd.int .i64) _ 2 (by rfl) (N := 9) rfl 25 _ _ rfl 64 rfl rfl Try.underlying25 (.int .i64 0) 8 info2 rfl (by decide) (by omega) 0 (ok := fun _ => True) (okp := fun _ => True) rfl (fun _ hk => hk) trivial (by omega) (by omega) (Below.refl _ _) (Nat.le_refl _) ?_
        intro v418 w4 ho5 hb hg_ hnew_
        clear hg_ hnew_
        (first | rw [← Ny417.out] at ho5 | (simp only [Int.reduceToNat] at ho5; rw [← Ny417.out] at ho5))
        have n0_ := Aside0.mk (Kd.R_lower ho5 (below_size (by repeat (first | (with_reducible first | exact HB.out | apply below_alloc | apply pw_below_drewN | apply below_drew1) | exact HB.out))))
        have n1_ := Aside0.mk (below_step (by repeat (first | (with_reducible first | exact HB.out | apply below_alloc | apply pw_below_drewN | apply below_drew1) | exact HB.out)) hb)
        clear HB
        have HO419 := n0_
        have HB := n1_
        clear n0_ n1_
        clear hb ho5
        refine hK.out _ _ trivial (fun hHeld => ?_)
        clear hK K
        refine norm_ (a' := ?_) ?_ ?_
        rotate_left
        · show Act.put _ (some 9) _ = _
          simp only [Act.put, List.setIfInBounds_toArray, List.set_cons_zero, List.set_cons_succ, i64_w, i32_w]
          rfl
        refine one_ (i := 0) (N := some 8) #[true, true, false, false] rfl rfl (by kernel_rfl) (by decide) (fun K hK => ?_)
        refine Kd.R_lit_step (Kd.int .i64) _ 2 ?hg (N := 8) ?hd (xs := ([] : List Int)) (inner := []) (ok := fun _ => True) (okp := fun _ => True) ?hr ?hp (fun _ hk => hk) trivial (Below.refl _ _) (Nat.le_refl _) (by simp) ?_; (case hd => rfl); (case hg => rfl); (case hr => first | (go_simp; done) | (go_simp; rfl)); (case hp => exact (Reps.none _ _))
        intro v415 w6 ho7 hb hg_ hnew_
        clear hg_ hnew_
        (first | rw [← Ny414.out] at ho7 | (simp only [Int.reduceToNat] at ho7; rw [← Ny414.out] at ho7))
        have n0_ := Aside0.mk (Kd.R_elder' (by (with_reducible repeat (first | apply Kd.R_alloc | apply Kd.R_drewN | apply Kd.R_drew)); exact HO419.out) (Kd.R_base ho7) hb)
        have n1_ := Aside0.mk (Kd.R_lower (Kd.R_new' ho7 (Kd.R_lt (by (with_reducible repeat (first | apply Kd.R_alloc | apply Kd.R_drewN | apply Kd.R_drew)); exact HO419.out))) (below_size (by repeat (first | (with_reducible first | exact HB.out | apply below_alloc | apply pw_below_drewN | apply below_drew1) | exact HB.out))))
        have n2_ := Aside0.mk (below_step (by repeat (first | (with_reducible first | exact HB.out | apply below_alloc | apply pw_below_drewN | apply below_drew1) | exact HB.out)) hb)
        clear HO419
        clear HB
        have HO419 := n0_
        have HO416 := n1_
        have HB := n2_
        clear n0_ n1_ n2_
        clear hb ho7
        refine hK.out _ _ trivial (fun hHeld => ?_)
        clear hK K
        refine norm_ (a' := ?_) ?_ ?_
        rotate_left
        · show Act.put _ (some 8) _ = _
          simp only [Act.put, List.setIfInBounds_toArray, List.set_cons_zero, List.set_cons_succ, i64_w, i32_w]
          rfl
        refine pure_ (i := 2) (N := some 4) (v := ?_) (a' := ?_) #[true, true, true, false] rfl rfl (by kernel_rfl) (fun _ _ _ h => h) (Or.inl ⟨by rfl, ?_⟩) ?_ ?_
        rotate_left
        · intro w'
          go_simp
          with_reducible rfl
        rotate_left
        · simp only [Act.put, List.setIfInBounds_toArray, List.set_cons_zero, List.set_cons_succ, i64_w, i32_w]
          rfl
        exact norm_ (by simp only [putAll, Act.put, List.setIfInBounds_toArray, List.set_cons_zero, List.set_cons_succ]) (hCont (v415, v418) _ ⟨(by (with_reducible repeat (first | apply Kd.R_alloc | apply Kd.R_drewN | apply Kd.R_drew)); exact Kd.R_mono HO416.out (fun _ hk => hk.2)), (by (with_reducible repeat (first | apply Kd.R_alloc | apply Kd.R_drewN | apply Kd.R_drew)); exact Kd.R_mono HO419.out (fun _ hk => hk.2)), (by repeat (first | (with_reducible first | exact HB.out | apply below_alloc | apply pw_below_drewN | apply below_drew1) | exact HB.out))⟩)
    rintro ⟨v415, v418⟩ w8 ⟨h0_, h1_, h2_⟩
    have n0_ : Aside0 (Kd.R (Kd.int .i64) 2 w8 w.heap.size (fun k_ => some k_ ≠ (v418 : Value).ownBlock) v415 y414) := ⟨h0_⟩
    have n1_ : Aside0 (Kd.R (Kd.int .i64) 2 w8 w.heap.size (fun k_ => some k_ ≠ (v415 : Value).ownBlock) v418 y417) := ⟨h1_⟩
    have n2_ : Aside0 (Below w.heap.size w w8) := ⟨h2_⟩
    clear HB
    clear h0_ h1_ h2_
    have HO416 := n0_
    have HO419 := n1_
    have HB := n2_
    clear n0_ n1_ n2_
    have hHeld := trivial
    refine norm_ (a' := ?_) ?_ ?_
    rotate_left
    · simp only [putAll, Act.put, List.setIfInBounds_toArray, List.set_cons_zero, List.set_cons_succ]
      rfl
    refine pure_ (i := 3) (N := some 5) (v := ?_) (a' := ?_) #[true, true, true, true] rfl rfl (by kernel_rfl) (fun _ _ _ h => h) (Or.inl ⟨by rfl, ?_⟩) ?_ ?_
    rotate_left
    · intro w'
      go_simp
      with_reducible rfl
    rotate_left
    · simp only [Act.put, List.setIfInBounds_toArray, List.set_cons_zero, List.set_cons_succ, i64_w, i32_w]
      rfl
    refine done_ (by kernel_rfl) ?_
    try go_wp2
    go_loopg [4, 12] k (fun kq v4 v12 w' => ∃ (x4_1 : List Int) (x5_1 : List Int) (x12_1 : Int), v12 = .int .i64 x12_1 ∧ Aside0 (impl_plainRun.l0 kq x4_1 x5_1 l0 (l0.length : Int) x12_1 = some (r1, r2)) ∧ Aside0 (kq ≤ k) ∧ Aside0 (Kd.R (Kd.int .i64) 2 w' w.heap.size (fun k_ => some k_ ≠ (v418 : Value).ownBlock) v4 x4_1) ∧ Aside0 (Kd.R (Kd.int .i64) 2 w' w.heap.size (fun k_ => some k_ ≠ (v4 : Value).ownBlock) v418 x5_1) ∧ Aside0 (Below w.heap.size w w'))
    case atStart => exact ⟨(y414), (y417), (0), (by first | rfl | (simp; done) | (simp [*]; done)), H', ⟨Nat.le_refl _⟩, ⟨by (with_reducible repeat (first | apply Kd.R_alloc | apply Kd.R_drewN | apply Kd.R_drew)); exact HO416.out⟩, ⟨by (with_reducible repeat (first | apply Kd.R_alloc | apply Kd.R_drewN | apply Kd.R_drew)); exact HO419.out⟩, ⟨by repeat (first | (with_reducible first | exact HB.out | apply below_alloc | apply pw_below_drewN | apply below_drew1) | exact HB.out)⟩⟩
    case round =>
      clear H'
      try clear c2
      try clear c2b0
      try clear c2b1
      try clear p2
      obtain ⟨x4_1, x5_1, x12_1, rfl, HA, HK1, HO_4, HO_5, HB⟩ := hrel
      cases gk with
      | zero => exact absurd HA.out (by simp [impl_plainRun.l0])
      | succ k1 =>
        have H := HA.out
        clear HA
        simp only [impl_plainRun.l0] at H
        by_cases c9 : x12_1 < (l0.length : Int)
        · rw [if_pos c9] at H
          have c9b0 : decide (x12_1 < (l0.length : Int)) = true := decide_eq_true c9
          clear c9
          by_cases c10 : 0 ≤ x12_1
          · rw [if_pos c10] at H
            have c10b0 : decide (0 ≤ x12_1) = true := decide_eq_true c10
            clear c10
            by_cases c11 : x12_1 < (l0.length : Int)
            · rw [if_pos c11] at H
              have c11b0 : decide (x12_1 < (l0.length : Int)) = true := decide_eq_true c11
              clear c11
              by_cases c12 : ((rd_T37 l0 x12_1).f0) = 1
              · rw [if_pos c12] at H
                have c12b0 : (((rd_T37 l0 x12_1).f0) == 1) = true := beq_iff_eq.mpr c12
                have c12b1 : (((rd_T37 l0 x12_1).f0) != 1) = false := bne_eq_false_iff_eq.mpr c12
                clear c12
                by_cases c13 : 0 ≤ ((rd_T37 l0 x12_1).f1)
                · rw [if_pos c13] at H
                  have c13b0 : decide (0 ≤ ((rd_T37 l0 x12_1).f1)) = true := decide_eq_true c13
                  clear c13
                  by_cases c14 : ((rd_T37 l0 x12_1).f1) < (x5_1.length : Int)
                  · rw [if_pos c14] at H
                    have c14b0 : decide (((rd_T37 l0 x12_1).f1) < (x5_1.length : Int)) = true := decide_eq_true c14
                    clear c14
                    obtain ⟨y422, hy422⟩ : ∃ y_ : List Int, y_ = (x5_1.set (((rd_T37 l0 x12_1).f1) : Int).toNat (wrap64 (x12_1 + 1))) := ⟨_, rfl⟩
                    replace H : (impl_plainRun.l0 k1 x4_1 y422 l0 (l0.length : Int) (wrap64 (x12_1 + 1))) = some (r1, r2) := by first | (rw [hy422]; with_reducible exact H) | (have H2_ := (Option.bind_some _ _).symm.trans H; rw [hy422]; with_reducible exact H2_) | (have H2_ := (Option.bind_some _ _).symm.trans H; with_reducible exact H2_) | with_reducible exact H | (rw [hy422]; exact H) | exact H
                    have Ny422 := Aside0.mk hy422
                    clear hy422
                    have H' := Aside0.mk H
                    clear H
                    have p420 : 0 ≤ (x12_1 : Int) := of_decide_eq_true (by first | (with_reducible assumption) | assumption)
                    have q420 : x12_1 < (l0.length : Int) := of_decide_eq_true (by first | (with_reducible assumption) | assumption)
                    obtain ⟨ad420, e420, hx420_0, hx420_1⟩ := at_T37 HR0.out x12_1 p420 q420
                    cases e420
                    replace hx420_0 := (HB.out.cell (World.block_lt_of_cell? w _ hx420_0)).trans hx420_0
                    replace hx420_1 := (HB.out.cell (World.block_lt_of_cell? w _ hx420_1)).trans hx420_1
                    replace p420 := eq_true p420
                    replace q420 := eq_true q420
                    go_wp2_with (first | ((with_reducible refine gate_dst (N := 7) rfl ?_); refine box_event ?hg (N := 7) ?hd (cs := #[.int .i64 0, .int .i64 0]) (t := 37) ?hr ?_; (case hd => rfl); (case hg => rfl); (case hr => first | (go_simp; done) | (go_simp; rfl)); intro gb421 hg w16 hbox hb; have n0_ := Aside0.mk (Kd.R_below (by (with_reducible repeat (first | apply Kd.R_alloc | apply Kd.R_drewN | apply Kd.R_drew)); exact HO_4.out) hb); have n1_ := Aside0.mk (Kd.R_below (by (with_reducible repeat (first | apply Kd.R_alloc | apply Kd.R_drewN | apply Kd.R_drew)); exact HO_5.out) hb); have n2_ := Aside0.mk (below_step (by repeat (first | (with_reducible first | exact HB.out | apply below_alloc | apply pw_below_drewN | apply below_drew1) | exact HB.out)) hb); have n3_ := Aside0.mk (hbox); have n4_ := Aside0.mk ((by rw [hg]; exact (below_size (by repeat (first | (with_reducible first | exact HB.out | apply below_alloc | apply pw_below_drewN | apply below_drew1) | exact HB.out))) : w.heap.size ≤ gb421)); have n5_ := Aside0.mk ((by rw [hg]; exact (below_size (by repeat (first | (with_reducible first | exact HB.out | apply below_alloc | apply pw_below_drewN | apply below_drew1) | exact HB.out))) : w.heap.size ≤ gb421)); clear HO_4; clear HO_5; clear HB; have HO_4 := n0_; have HO_5 := n1_; have HB := n2_; have BK421 := n3_; have GW421 := n4_; have GE421 := n5_; clear n0_ n1_ n2_ n3_ n4_ n5_; clear hb hbox hg; have hcz17_0 : w16.cell? ⟨gb421, 0, none⟩ = some (.int .i64 0) := (blk_cell BK421.out 0).trans rfl; have hcz17_1 : w16.cell? ⟨gb421, 1, none⟩ = some (.int .i64 0) := (blk_cell BK421.out 1).trans rfl; have hfz17_0 := blk_frozen BK421.out 0; have hfz17_1 := blk_frozen BK421.out 1) | ((with_reducible refine gate_store (t := 37) (p := 7) rfl ?_); refine store_event (t := 37) (p := 7) (v := ?vo_w18) (w1 := ((w16.setCell ⟨gb421, 0, none⟩ (.int .i64 ((rd_T37 l0 x12_1).f0))).setCell ⟨gb421, 1, none⟩ (.int .i64 ((rd_T37 l0 x12_1).f1)))) ?hg ?ho ?hn ?hr ?_; (case ho => rfl); (case hg => rfl); (case hn => rfl); (case hr => first | (go_simp; done) | (go_simp; rfl)); intro w18 hw; have n0_ : Aside0 (Kd.R (Kd.int .i64) 2 w18 w.heap.size (fun k_ => some k_ ≠ (v418 : Value).ownBlock) u4 x4_1) := ⟨(by rw [hw]; exact (by (with_reducible repeat (first | apply Kd.R_alloc | apply Kd.R_drewN | apply Kd.R_drew)); exact Kd.R_mono (Kd.R_far (p := ⟨gb421, 1, none⟩) (Kd.R_far (p := ⟨gb421, 0, none⟩) (Kd.R_types HO_4.out BK421.out (by decide)) (fun _ hk => hk.2) (.int .i64 ((rd_T37 l0 x12_1).f0))) (fun _ hk => hk.2) (.int .i64 ((rd_T37 l0 x12_1).f1))) (fun _ hk => hk.1)))⟩; have n1_ : Aside0 (Kd.R (Kd.int .i64) 2 w18 w.heap.size (fun k_ => some k_ ≠ (u4 : Value).ownBlock) v418 x5_1) := ⟨(by rw [hw]; exact (by (with_reducible repeat (first | apply Kd.R_alloc | apply Kd.R_drewN | apply Kd.R_drew)); exact Kd.R_mono (Kd.R_far (p := ⟨gb421, 1, none⟩) (Kd.R_far (p := ⟨gb421, 0, none⟩) (Kd.R_types HO_5.out BK421.out (by decide)) (fun _ hk => hk.2) (.int .i64 ((rd_T37 l0 x12_1).f0))) (fun _ hk => hk.2) (.int .i64 ((rd_T37 l0 x12_1).f1))) (fun _ hk => hk.1)))⟩; have n2_ : Aside0 (w18.heap[gb421]? = some (.cells #[.int .i64 ((rd_T37 l0 x12_1).f0), .int .i64 ((rd_T37 l0 x12_1).f1)] 37 (0, 0))) := ⟨(by rw [hw]; exact (by (with_reducible repeat (first | refine blk_drewN ?_ _ | refine blk_drew ?_ | refine blk_alloc ?_ _)); refine blk_put (cs := #[.int .i64 ((rd_T37 l0 x12_1).f0), .int .i64 0]) ?_ 1 _ rfl; (with_reducible repeat (first | refine blk_drewN ?_ _ | refine blk_drew ?_ | refine blk_alloc ?_ _)); refine blk_put (cs := #[.int .i64 0, .int .i64 0]) ?_ 0 _ rfl; (with_reducible repeat (first | refine blk_drewN ?_ _ | refine blk_drew ?_ | refine blk_alloc ?_ _)); exact BK421.out))⟩; have n3_ : Aside0 (Below w.heap.size w w18) := ⟨(by rw [hw]; exact (by repeat (first | (with_reducible first | exact HB.out | apply below_alloc | apply pw_below_drewN | apply below_drew1 | refine below_set ?_ GE421.out) | exact HB.out)))⟩; clear hw; clear HO_4; clear HO_5; clear BK421; clear HB; have HO_4 := n0_; have HO_5 := n1_; have BK421 := n2_; have HB := n3_; clear n0_ n1_ n2_ n3_; have hcz19_0 : w18.cell? ⟨gb421, 0, none⟩ = some (.int .i64 ((rd_T37 l0 x12_1).f0)) := (blk_cell BK421.out 0).trans rfl; have hcz19_1 : w18.cell? ⟨gb421, 1, none⟩ = some (.int .i64 ((rd_T37 l0 x12_1).f1)) := (blk_cell BK421.out 1).trans rfl; have hfz19_0 := blk_frozen BK421.out 0; have hfz19_1 := blk_frozen BK421.out 1; have p15 : 0 ≤ (((rd_T37 l0 x12_1).f1) : Int) := of_decide_eq_true (by first | (with_reducible assumption) | assumption); have q15 : (((rd_T37 l0 x12_1).f1) : Int) < ((x5_1.length : Int) : Int) := of_decide_eq_true (by first | (with_reducible assumption) | assumption); obtain ⟨go15, co15, eo15, gb15, gl15, cl15, HG15⟩ := Kd.R_form HO_5.out (by omega); (first | cases eo15 | (injection eo15 with ea_ en_ ec_; (first | subst ea_ | (injection ea_ with ea_; subst ea_)); subst ec_; clear en_)); have GB15 := Aside0.mk gb15; have GG15 := Aside0.mk HG15; clear gb15 gl15 HG15; obtain ⟨hx15_0, hf15_0⟩ := Kd.R_celln 0 HO_5.out (((rd_T37 l0 x12_1).f1) : Int) p15 q15; replace p15 := eq_true p15; replace q15 := eq_true q15; obtain ⟨hy20_, hz20_⟩ := Kd.R_celln 0 HO_5.out (((rd_T37 l0 x12_1).f1) : Int) (of_decide_eq_true (by first | (with_reducible assumption) | assumption)) (of_decide_eq_true (by first | (with_reducible assumption) | assumption)); have HP20 := Kd.R_putg HO_5.out (((rd_T37 l0 x12_1).f1) : Int) (wrap64 (x12_1 + 1))) | ((with_reducible refine gate_store (t := 2) (p := 25) rfl ?_); refine store_event (t := 2) (p := 25) (v := ?vo_w21) (w1 := (w18.setCell ⟨go15, (((rd_T37 l0 x12_1).f1) : Int).toNat, none⟩ (.int .i64 (wrap64 (x12_1 + 1))))) ?hg ?ho ?hn ?hr ?_; (case ho => rfl); (case hg => rfl); (case hn => rfl); (case hr => first | (go_simp; done) | (go_simp; rfl)); intro w21 hw; have hg : w18.grownBy w21 (some go15) := (by rw [hw]; exact HP20.2); have hp_ : Kd.R (Kd.int .i64) 2 w21 w.heap.size (fun k_ => some k_ ≠ (u4 : Value).ownBlock) (.slice (some ⟨go15, 0, none⟩) x5_1.length co15) y422 := (by rw [hw, Ny422.out]; exact HP20.1); clear HP20; have n0_ := Aside0.mk (Kd.R_after (v := (.slice (some ⟨go15, 0, none⟩) x5_1.length co15)) (v1 := (.slice (some ⟨go15, 0, none⟩) x5_1.length co15)) (ok := (fun _ => True)) (by (with_reducible repeat (first | apply Kd.R_alloc | apply Kd.R_drewN | apply Kd.R_drew)); exact Kd.R_mono HO_4.out (fun _ hk => ⟨trivial, hk⟩)) hg (.inl rfl)); have n1_ := Aside0.mk (hp_); have n2_ := Aside0.mk (blk_grown (g := gb421) (o := .cells #[.int .i64 ((rd_T37 l0 x12_1).f0), .int .i64 ((rd_T37 l0 x12_1).f1)] 37 (0, 0)) (by (with_reducible repeat (first | refine blk_drewN ?_ _ | refine blk_drew ?_ | refine blk_alloc ?_ _)); exact BK421.out) hg (Kd.R_ne HO_5.out BK421.out (by decide))); have n3_ := Aside0.mk ((by rw [hw]; exact below_set (HB.out) GB15.out : Below w.heap.size w w21)); clear HO_4; clear HO_5; clear BK421; clear HB; have HO_4 := n0_; have HO_5 := n1_; have BK421 := n2_; have HB := n3_; clear n0_ n1_ n2_ n3_; clear hg hw hp_))
                    go_roundg k1
                    case measure => have := HK1.out; omega
                    case rel => exact ⟨(x4_1), (y422), (wrap64 (x12_1 + 1)), (by first | rfl | (simp; done) | (simp [*]; done)), H', ⟨by have := HK1.out; omega⟩, ⟨by (with_reducible repeat (first | apply Kd.R_alloc | apply Kd.R_drewN | apply Kd.R_drew)); exact Kd.R_mono HO_4.out (fun _ hk => hk.2)⟩, ⟨by (with_reducible repeat (first | apply Kd.R_alloc | apply Kd.R_drewN | apply Kd.R_drew)); exact HO_5.out⟩, ⟨by repeat (first | (with_reducible first | exact HB.out | apply below_alloc | apply pw_below_drewN | apply below_drew1 | refine below_set ?_ GE421.out) | exact HB.out)⟩⟩
                  · rw [if_neg c14] at H
                    exact absurd H (by simp)
                · rw [if_neg c13] at H
                  exact absurd H (by simp)
              · rw [if_neg c12] at H
                have c12b0 : (((rd_T37 l0 x12_1).f0) == 1) = false := beq_eq_false_iff_ne.mpr c12
                have c12b1 : (((rd_T37 l0 x12_1).f0) != 1) = true := bne_iff_ne.mpr c12
                by_cases c22 : 0 ≤ ((rd_T37 l0 x12_1).f1)
                · rw [if_pos c22] at H
                  have c22b0 : decide (0 ≤ ((rd_T37 l0 x12_1).f1)) = true := decide_eq_true c22
                  clear c22
                  by_cases c23 : ((rd_T37 l0 x12_1).f1) < (x5_1.length : Int)
                  · rw [if_pos c23] at H
                    have c23b0 : decide (((rd_T37 l0 x12_1).f1) < (x5_1.length : Int)) = true := decide_eq_true c23
                    clear c23
                    by_cases c24 : x4_1.length < 17592186044416
                    · rw [if_pos c24] at H
                      have LMc24 := Aside0.mk c24
                      clear c24
                      obtain ⟨y424, hy424⟩ : ∃ y_ : List Int, y_ = (x4_1 ++ [rd x5_1 ((rd_T37 l0 x12_1).f1)]) := ⟨_, rfl⟩
                      replace H : (impl_plainRun.l0 k1 y424 x5_1 l0 (l0.length : Int) (wrap64 (x12_1 + 1))) = some (r1, r2) := by first | (rw [hy424]; with_reducible exact H) | (have H2_ := (Option.bind_some _ _).symm.trans H; rw [hy424]; with_reducible exact H2_) | (have H2_ := (Option.bind_some _ _).symm.trans H; with_reducible exact H2_) | with_reducible exact H | (rw [hy424]; exact H) | exact H
                      have Ny424 := Aside0.mk hy424
                      clear hy424
                      have H' := Aside0.mk H
                      clear H
                      have p420 : 0 ≤ (x12_1 : Int) := of_decide_eq_true (by first | (with_reducible assumption) | assumption)
                      have q420 : x12_1 < (l0.length : Int) := of_decide_eq_true (by first | (with_reducible assumption) | assumption)
                      obtain ⟨ad420, e420, hx420_0, hx420_1⟩ := at_T37 HR0.out x12_1 p420 q420
                      cases e420
                      replace hx420_0 := (HB.out.cell (World.block_lt_of_cell? w _ hx420_0)).trans hx420_0
                      replace hx420_1 := (HB.out.cell (World.block_lt_of_cell? w _ hx420_1)).trans hx420_1
                      replace p420 := eq_true p420
                      replace q420 := eq_true q420
                      go_wp2_with (first | ((with_reducible refine gate_dst (N := 7) rfl ?_); refine box_event ?hg (N := 7) ?hd (cs := #[.int .i64 0, .int .i64 0]) (t := 37) ?hr ?_; (case hd => rfl); (case hg => rfl); (case hr => first | (go_simp; done) | (go_simp; rfl)); intro gb421 hg w25 hbox hb; have n0_ := Aside0.mk (Kd.R_below (by (with_reducible repeat (first | apply Kd.R_alloc | apply Kd.R_drewN | apply Kd.R_drew)); exact HO_4.out) hb); have n1_ := Aside0.mk (Kd.R_below (by (with_reducible repeat (first | apply Kd.R_alloc | apply Kd.R_drewN | apply Kd.R_drew)); exact HO_5.out) hb); have n2_ := Aside0.mk (below_step (by repeat (first | (with_reducible first | exact HB.out | apply below_alloc | apply pw_below_drewN | apply below_drew1) | exact HB.out)) hb); have n3_ := Aside0.mk (hbox); have n4_ := Aside0.mk ((by rw [hg]; exact (below_size (by repeat (first | (with_reducible first | exact HB.out | apply below_alloc | apply pw_below_drewN | apply below_drew1) | exact HB.out))) : w.heap.size ≤ gb421)); have n5_ := Aside0.mk ((by rw [hg]; exact (below_size (by repeat (first | (with_reducible first | exact HB.out | apply below_alloc | apply pw_below_drewN | apply below_drew1) | exact HB.out))) : w.heap.size ≤ gb421)); clear HO_4; clear HO_5; clear HB; have HO_4 := n0_; have HO_5 := n1_; have HB := n2_; have BK421 := n3_; have GW421 := n4_; have GE421 := n5_; clear n0_ n1_ n2_ n3_ n4_ n5_; clear hb hbox hg; have hcz26_0 : w25.cell? ⟨gb421, 0, none⟩ = some (.int .i64 0) := (blk_cell BK421.out 0).trans rfl; have hcz26_1 : w25.cell? ⟨gb421, 1, none⟩ = some (.int .i64 0) := (blk_cell BK421.out 1).trans rfl; have hfz26_0 := blk_frozen BK421.out 0; have hfz26_1 := blk_frozen BK421.out 1; obtain ⟨Ao27, co27, eo27⟩ := Kd.R_slice HO_5.out; subst eo27; have p423 : 0 ≤ (((rd_T37 l0 x12_1).f1) : Int) := of_decide_eq_true (by first | (with_reducible assumption) | assumption); have q423 : ((rd_T37 l0 x12_1).f1) < (x5_1.length : Int) := of_decide_eq_true (by first | (with_reducible assumption) | assumption); obtain ⟨ad423, e423, hx423_0⟩ := Kd.at_int (Kd.R_reads' HO_5.out).2.2 ((rd_T37 l0 x12_1).f1) p423 q423; cases e423; have hn423_0 : ad423.block ≠ gb421 := Kd.own_blk (Kd.R_ne HO_5.out BK421.out (by decide)); have hn423_1 : ad423.block ≠ gb421 := Kd.own_blk (Kd.R_ne HO_5.out BK421.out (by decide)); replace hx423_0 := (cell_far (p := ⟨gb421, 0, none⟩) (by first | (rw [add_block]; exact hn423_0) | (show (Addr.add _ _).block ≠ _; rw [add_block]; exact hn423_0) | exact hn423_0) (.int .i64 ((rd_T37 l0 x12_1).f0))).trans hx423_0; replace hx423_0 := (cell_far (p := ⟨gb421, 1, none⟩) (by first | (rw [add_block]; exact hn423_1) | (show (Addr.add _ _).block ≠ _; rw [add_block]; exact hn423_1) | exact hn423_1) (.int .i64 ((rd_T37 l0 x12_1).f1))).trans hx423_0; clear hn423_0; clear hn423_1; replace p423 := eq_true p423; replace q423 := eq_true q423) | ((with_reducible refine gate_builtin (b := .append) (xs := #[.tmp 26, .tmp 32]) rfl ?_); at_builtin; refine Kd.R_append (Kd.int .i64) (w0 := w) w.heap.size rfl (.tmp 26) (.tmp 32) 25 2 (.int .i64 0) 8 rfl Try.underlying25 info2 rfl (by decide) (by omega) u4 x4_1 (rd x5_1 ((rd_T37 l0 x12_1).f1)) [.int .i64 (rd x5_1 ((rd_T37 l0 x12_1).f1))] (fun k_ => some k_ ≠ (.slice (some ad423) x5_1.length co27 : Value).ownBlock) (fun _ => False) rfl (by first | (go_simp; done) | (go_simp; rfl)) ?aP (fun _ hk => hk.elim) ?aF ?aO ?aB ?aS ?aL ?_; (case aP => exact rfl); (case aB => exact (by repeat (first | (with_reducible first | exact HB.out | apply below_alloc | apply pw_below_drewN | apply below_drew1 | refine below_set ?_ GE421.out) | exact HB.out))); (case aF => exact (fun k_ hk => Kd.fresh' (Kd.R_lt (by (with_reducible repeat (first | apply Kd.R_alloc | apply Kd.R_drewN | apply Kd.R_drew)); exact (Kd.R_mono (Kd.R_far (p := ⟨gb421, 1, none⟩) (Kd.R_far (p := ⟨gb421, 0, none⟩) (Kd.R_types HO_5.out BK421.out (by decide)) (fun _ hk => hk.2) (.int .i64 ((rd_T37 l0 x12_1).f0))) (fun _ hk => hk.2) (.int .i64 ((rd_T37 l0 x12_1).f1))) (fun _ h_ => h_.1)))) k_ hk)); (case aO => exact (by (with_reducible repeat (first | apply Kd.R_alloc | apply Kd.R_drewN | apply Kd.R_drew)); exact Kd.R_mono (Kd.R_far (p := ⟨gb421, 1, none⟩) (Kd.R_far (p := ⟨gb421, 0, none⟩) (Kd.R_types HO_4.out BK421.out (by decide)) (fun _ hk => hk.2) (.int .i64 ((rd_T37 l0 x12_1).f0))) (fun _ hk => hk.2) (.int .i64 ((rd_T37 l0 x12_1).f1))) (fun _ hk => hk.1))); (case aS => exact (below_size (by repeat (first | (with_reducible first | exact HB.out | apply below_alloc | apply pw_below_drewN | apply below_drew1 | refine below_set ?_ GE421.out) | exact HB.out)))); (case aL => have := LMc24.out; omega); intro v425 w28 ho hb hg hat; rw [← Ny424.out] at ho; have n0_ := Aside0.mk (Kd.R_after (ok := (fun _ => True)) (by (with_reducible repeat (first | apply Kd.R_alloc | apply Kd.R_drewN | apply Kd.R_drew)); exact Kd.R_mono (Kd.R_far (p := ⟨gb421, 1, none⟩) (Kd.R_far (p := ⟨gb421, 0, none⟩) (Kd.R_types HO_5.out BK421.out (by decide)) (fun _ hk => hk.2) (.int .i64 ((rd_T37 l0 x12_1).f0))) (fun _ hk => hk.2) (.int .i64 ((rd_T37 l0 x12_1).f1))) (fun _ hk => ⟨trivial, hk.1⟩)) hg hat); have n1_ := Aside0.mk (blk_grown (g := gb421) (o := .cells #[.int .i64 ((rd_T37 l0 x12_1).f0), .int .i64 ((rd_T37 l0 x12_1).f1)] 37 (0, 0)) (by (with_reducible repeat (first | refine blk_drewN ?_ _ | refine blk_drew ?_ | refine blk_alloc ?_ _)); refine blk_put (cs := #[.int .i64 ((rd_T37 l0 x12_1).f0), .int .i64 0]) ?_ 1 _ rfl; (with_reducible repeat (first | refine blk_drewN ?_ _ | refine blk_drew ?_ | refine blk_alloc ?_ _)); refine blk_put (cs := #[.int .i64 0, .int .i64 0]) ?_ 0 _ rfl; (with_reducible repeat (first | refine blk_drewN ?_ _ | refine blk_drew ?_ | refine blk_alloc ?_ _)); exact BK421.out) hg (Kd.R_ne HO_4.out BK421.out (by decide))); have n2_ := Aside0.mk (hb); have n3_ := Aside0.mk (ho); clear HO_5; clear BK421; clear HB; clear HO_4; have HO_5 := n0_; have BK421 := n1_; have HB := n2_; have HO426 := n3_; clear n0_ n1_ n2_ n3_; clear ho hb hg hat))
                      go_roundg k1
                      case measure => have := HK1.out; omega
                      case rel => exact ⟨(y424), (x5_1), (wrap64 (x12_1 + 1)), (by first | rfl | (simp; done) | (simp [*]; done)), H', ⟨by have := HK1.out; omega⟩, ⟨by (with_reducible repeat (first | apply Kd.R_alloc | apply Kd.R_drewN | apply Kd.R_drew)); exact HO426.out⟩, ⟨by (with_reducible repeat (first | apply Kd.R_alloc | apply Kd.R_drewN | apply Kd.R_drew)); exact Kd.R_mono HO_5.out (fun _ hk => hk.2)⟩, ⟨by repeat (first | (with_reducible first | exact HB.out | apply below_alloc | apply pw_below_drewN | apply below_drew1 | refine below_set ?_ GE421.out) | exact HB.out)⟩⟩
                    · rw [if_neg c24] at H
                      exact absurd H (by simp)
                  · rw [if_neg c23] at H
                    exact absurd H (by simp)
                · rw [if_neg c22] at H
                  exact absurd H (by simp)
            · rw [if_neg c11] at H
              exact absurd H (by simp)
          · rw [if_neg c10] at H
            exact absurd H (by simp)
        · rw [if_neg c9] at H
          have c9b0 : decide (x12_1 < (l0.length : Int)) = false := decide_eq_false c9
          clear c9
          simp only [Option.some.injEq, Prod.mk.injEq] at H
          obtain ⟨rfl, rfl⟩ := H
          go_wp2
          go_ret2
          exact ⟨_, _, by first | rfl | (simp [errW_none, errW_some] <;> rfl) | (simp [*, errW_none, errW_some] <;> rfl), by (with_reducible repeat (first | apply Kd.R_alloc | apply Kd.R_drewN | apply Kd.R_drew)); exact HO_4.out, by (with_reducible repeat (first | apply Kd.R_alloc | apply Kd.R_drewN | apply Kd.R_drew)); exact HO_5.out, by repeat (first | (with_reducible first | exact HB.out | apply below_alloc | apply pw_below_drewN | apply below_drew1) | exact HB.out)⟩
  · rw [if_neg c2] at H
    exact absurd H (by simp)
def impl_PlainReads.f (k : Nat) (l0 : List (S37)) : Option (List Int × Bool) := (impl_ValidTrace.f l0).bind fun t427 => (if t427 = true then ((impl_plainRun.f k l0).bind fun bt428 => (some (bt428.1, true))) else (some (([] : List Int), false)))
theorem impl_PlainReads.mono : ∀ a0 k, LeO (impl_PlainReads.f k a0) (impl_PlainReads.f (k + 1) a0) := by
  intro a0 k
  unfold impl_PlainReads.f
  repeat' first
      | (with_reducible exact impl_plainRun.mono _ _)
      | (with_reducible exact LeO.refl _)
      | (with_reducible exact LeO.none _)
      | (with_reducible refine LeO.ite ?_ ?_)
      | (with_reducible refine LeO.bind ?_ (fun _ => ?_))
      | exact impl_plainRun.mono _ _
      | exact LeO.none _
      | refine LeO.ite ?_ ?_
      | refine LeO.bind ?_ (fun _ => ?_)
set_option maxHeartbeats 8000000 in
set_option maxRecDepth 100000 in
theorem impl_PlainReads.calls (k : Nat) (A0 : Option Addr) (c0 : Nat) (l0 : List (S37)) (r1 : List Int) (r2 : Bool) (w : World) (hr0 : Kd.C k37 w A0 l0.length l0) (hc0 : l0.length ≤ c0) (h : impl_PlainReads.f k l0 = some (r1, r2)) :
    Calls Try.prog 9 #[.slice A0 l0.length c0] w fun e w' => ∃ v0_ : Value, e = .returned (.tuple #[v0_, .bool r2]) ∧ Kd.R (Kd.int .i64) 2 w' w.heap.size (fun _ => True) v0_ r1 ∧ Below w.heap.size w w' := by
  have HR0 := Aside0.mk hr0
  have HC0 := Aside0.mk hc0
  clear hr0 hc0
  have HB := Aside0.mk (Below.refl w.heap.size w)
  have H : ((impl_ValidTrace.f l0).bind fun t427 => (if t427 = true then ((impl_plainRun.f k l0).bind fun bt428 => (some (bt428.1, true))) else (some (([] : List Int), false)))) = some (r1, r2) := h
  clear h
  replace H := Option.bind_eq_some_iff.mp H
  obtain ⟨t427, A20, H⟩ := H
  replace H : (if t427 = true then ((impl_plainRun.f k l0).bind fun bt428 => (some (bt428.1, true))) else (some (([] : List Int), false))) = some (r1, r2) := H
  have A2 := Aside0.mk A20
  clear A20
  by_cases c3 : t427 = true
  · subst c3
    have H1 : ((impl_plainRun.f k l0).bind fun bt428 => (some (bt428.1, true))) = some (r1, r2) := by rw [if_pos rfl] at H; exact H
    clear H
    have H := H1
    clear H1
    replace H := Option.bind_eq_some_iff.mp H
    obtain ⟨⟨t428, t429⟩, A40, H⟩ := H
    replace H : (some (t428, true)) = some (r1, r2) := H
    have A4 := Aside0.mk A40
    clear A40
    simp only [Option.some.injEq, Prod.mk.injEq] at H
    obtain ⟨rfl, rfl⟩ := H
    go_enter Try.func9, Try.ntmps9
    go_wp2_with (first | ((with_reducible refine gate_callee (f := 28) rfl ?_); refine goesL_ (some 7) rfl rfl Try.func28 (by kernel_rfl) rfl #[.slice A0 l0.length c0] rfl (by (try simp only [List.map_toArray, List.map_cons, List.map_nil]); first | done | rfl | (simp only [List.length_drop, List.length_take]; rfl)) ?_; (with_reducible refine (impl_ValidTrace.calls _ _ l0 true _ ?side1 ?side2 A2.out).mono ?_); (case side1 => repeat (first | exact HR0.out | (with_reducible refine Kd.C_alloc ?_ _) | (with_reducible refine Kd.C_drewN ?_ _) | (with_reducible refine Kd.C_drew ?_))); (case side2 => exact HC0.out); rintro e w5 ⟨rfl, hb⟩; refine ⟨_, rfl, ?_⟩; have n0_ := Aside0.mk (below_step (by repeat (first | (with_reducible first | exact HB.out | apply below_alloc | apply pw_below_drewN | apply below_drew1) | exact HB.out)) hb); clear HB; have HB := n0_; clear n0_; (try clear hb); (try clear hb2); (try clear hk); (try clear hi)) | ((with_reducible refine gate_callee (f := 29) rfl ?_); refine goesL_ (some 11) rfl rfl Try.func29 (by kernel_rfl) rfl #[.slice A0 l0.length c0] rfl (by (try simp only [List.map_toArray, List.map_cons, List.map_nil]); first | done | rfl | (simp only [List.length_drop, List.length_take]; rfl)) ?_; (with_reducible refine (impl_plainRun.calls k _ _ l0 t428 t429 _ ?side1 ?side2 A4.out).mono ?_); (case side1 => repeat (first | exact (Kd.C_below HR0.out HB.out) | (with_reducible refine Kd.C_alloc ?_ _) | (with_reducible refine Kd.C_drewN ?_ _) | (with_reducible refine Kd.C_drew ?_))); (case side2 => exact HC0.out); rintro e w6 ⟨v430, v432, rfl, ho0, ho1, hb⟩; refine ⟨_, rfl, ?_⟩; have n0_ := Aside0.mk (Kd.R_lower ho0 (below_size (by repeat (first | (with_reducible first | exact HB.out | apply below_alloc | apply pw_below_drewN | apply below_drew1) | exact HB.out)))); have n1_ := Aside0.mk (Kd.R_lower ho1 (below_size (by repeat (first | (with_reducible first | exact HB.out | apply below_alloc | apply pw_below_drewN | apply below_drew1) | exact HB.out)))); have n2_ := Aside0.mk (below_step (by repeat (first | (with_reducible first | exact HB.out | apply below_alloc | apply pw_below_drewN | apply below_drew1) | exact HB.out)) hb); clear HB; have HO431 := n0_; have HO433 := n1_; have HB := n2_; clear n0_ n1_ n2_; (try clear hb); (try clear hb2); (try clear hk); (try clear hi); (try clear ho0); (try clear ho1)))
    go_ret2
    exact ⟨_, by first | rfl | (simp [errW_none, errW_some] <;> rfl) | (simp [*, errW_none, errW_some] <;> rfl), by (with_reducible repeat (first | apply Kd.R_alloc | apply Kd.R_drewN | apply Kd.R_drew)); exact Kd.R_mono HO431.out (fun _ hk => trivial), by repeat (first | (with_reducible first | exact HB.out | apply below_alloc | apply pw_below_drewN | apply below_drew1) | exact HB.out)⟩
  · replace c3 := Bool.eq_false_iff.mpr c3
    subst c3
    have H1 : (some (([] : List Int), false)) = some (r1, r2) := by rw [if_neg (show ¬ (false = true) by decide)] at H; exact H
    clear H
    have H := H1
    clear H1
    simp only [Option.some.injEq, Prod.mk.injEq] at H
    obtain ⟨rfl, rfl⟩ := H
    go_enter Try.func9, Try.ntmps9
    go_wp2_with (first | ((with_reducible refine gate_callee (f := 28) rfl ?_); refine goesL_ (some 7) rfl rfl Try.func28 (by kernel_rfl) rfl #[.slice A0 l0.length c0] rfl (by (try simp only [List.map_toArray, List.map_cons, List.map_nil]); first | done | rfl | (simp only [List.length_drop, List.length_take]; rfl)) ?_; (with_reducible refine (impl_ValidTrace.calls _ _ l0 false _ ?side1 ?side2 A2.out).mono ?_); (case side1 => repeat (first | exact HR0.out | (with_reducible refine Kd.C_alloc ?_ _) | (with_reducible refine Kd.C_drewN ?_ _) | (with_reducible refine Kd.C_drew ?_))); (case side2 => exact HC0.out); rintro e w7 ⟨rfl, hb⟩; refine ⟨_, rfl, ?_⟩; have n0_ := Aside0.mk (below_step (by repeat (first | (with_reducible first | exact HB.out | apply below_alloc | apply pw_below_drewN | apply below_drew1) | exact HB.out)) hb); clear HB; have HB := n0_; clear n0_; (try clear hb); (try clear hb2); (try clear hk); (try clear hi)))
    go_ret2
    exact ⟨_, by first | rfl | (simp [errW_none, errW_some] <;> rfl) | (simp [*, errW_none, errW_some] <;> rfl), by first | exact Kd.R_nil _ _ _ _ _ | exact Kd.N_nil _ _ _ _ _ | exact Kd.V_nil _ _ _ _ _ | exact Kd.Q_nil _ _ _ _ _ | exact Kd.S_nil _ _ _ _ _, by repeat (first | (with_reducible first | exact HB.out | apply below_alloc | apply pw_below_drewN | apply below_drew1) | exact HB.out)⟩
def impl_CacheMemory.f (l0_0 : List (List Int)) (l0_1 : List Int) (a0_2 : Bool) (a0_3 : Bool) (l1 : List S37) : Option (List Int × Bool) := if polLen l0_0 l0_1 ∧ l1.length ≤ 1048576 then some (memoryV l0_0 l0_1 a0_2 a0_3 l1) else none
set_option maxHeartbeats 1600000 in
set_option maxRecDepth 100000 in
theorem yCacheMemory_bad (A0_0 : Option Addr) (c0_0 : Nat) (l0_0 : List (List Int)) (A0_1 : Option Addr) (c0_1 : Nat) (l0_1 : List Int) (a0_2 : Bool) (a0_3 : Bool) (A1 : Option Addr) (c1 : Nat) (l1 : List S37) (w : World) (hr0_0 : Kd.C (Kd.slice 2 (Kd.int .i64)) w A0_0 l0_0.length l0_0) (hc0_0 : l0_0.length ≤ c0_0) (hr0_1 : Kd.C (Kd.int .i64) w A0_1 l0_1.length l0_1) (hc0_1 : l0_1.length ≤ c0_1) (hr1 : Kd.C k37 w A1 l1.length l1) (hc1 : l1.length ≤ c1) (hln : polLen l0_0 l0_1 ∧ l1.length ≤ 1048576) (hv : (validB l0_0 l0_1 && traceB l1) = false) :
    Calls Try.prog 10 #[.agg #[.slice A0_0 l0_0.length c0_0, .slice A0_1 l0_1.length c0_1, .bool a0_2, .bool a0_3], .slice A1 l1.length c1] w fun e w' => ∃ v0_ : Value, e = .returned (.tuple #[v0_, .bool false]) ∧ Kd.R (Kd.int .i64) 2 w' w.heap.size (fun _ => True) v0_ [] ∧ Below w.heap.size w w' := by
  have HR0 := Aside0.mk hr0_0
  have HC0 := Aside0.mk hc0_0
  have HR1 := Aside0.mk hr0_1
  have HC1 := Aside0.mk hc0_1
  have HT := Aside0.mk hr1
  have HCT := Aside0.mk hc1
  have HLN := Aside0.mk hln
  have HV := Aside0.mk hv
  clear hr0_0 hc0_0 hr0_1 hc0_1 hr1 hc1 hln hv
  have HS := (Hold.start w).box #[.slice A0_0 l0_0.length c0_0, .slice A0_1 l0_1.length c0_1, .bool a0_2, .bool a0_3] 29
  go_enter Try.func10, Try.ntmps10
  go_wp2_with fail
  refine (impl_isCached.calls A0_0 c0_0 l0_0 A0_1 c0_1 l0_1 a0_2 a0_3 A1 c1 l1 false _ (Kd.C_below HR0.out HS.below) HC0.out (Kd.C_below HR1.out HS.below) HC1.out (Kd.C_below HT.out HS.below) HCT.out ((isCached_f a0_2 a0_3 HLN.out.1).trans (by rw [HV.out]))).mono ?_
  rintro e w1 ⟨rfl, hb⟩
  replace HS := HS.step (by first | exact hb | exact hb.below)
  clear hb
  go_wp2_with fail
  go_ret2
  exact ⟨_, rfl, Kd.R_nil _ _ _ _ _, HS.below⟩
set_option maxHeartbeats 1600000 in
set_option maxRecDepth 100000 in
theorem yCacheMemory_ok (A0_0 : Option Addr) (c0_0 : Nat) (l0_0 : List (List Int)) (A0_1 : Option Addr) (c0_1 : Nat) (l0_1 : List Int) (a0_2 : Bool) (a0_3 : Bool) (A1 : Option Addr) (c1 : Nat) (l1 : List S37) (w : World) (hr0_0 : Kd.C (Kd.slice 2 (Kd.int .i64)) w A0_0 l0_0.length l0_0) (hc0_0 : l0_0.length ≤ c0_0) (hr0_1 : Kd.C (Kd.int .i64) w A0_1 l0_1.length l0_1) (hc0_1 : l0_1.length ≤ c0_1) (hr1 : Kd.C k37 w A1 l1.length l1) (hc1 : l1.length ≤ c1) (hln : polLen l0_0 l0_1 ∧ l1.length ≤ 1048576) (hv : (validB l0_0 l0_1 && traceB l1) = true) :
    Calls Try.prog 10 #[.agg #[.slice A0_0 l0_0.length c0_0, .slice A0_1 l0_1.length c0_1, .bool a0_2, .bool a0_3], .slice A1 l1.length c1] w fun e w' => ∃ v0_ : Value, e = .returned (.tuple #[v0_, .bool true]) ∧ Kd.R (Kd.int .i64) 2 w' w.heap.size (fun _ => True) v0_ (flushE (cacheEnd l0_0 l0_1 a0_2 a0_3 l1)).2.1 ∧ Below w.heap.size w w' := by
  have HR0 := Aside0.mk hr0_0
  have HC0 := Aside0.mk hc0_0
  have HR1 := Aside0.mk hr0_1
  have HC1 := Aside0.mk hc0_1
  have HT := Aside0.mk hr1
  have HCT := Aside0.mk hc1
  have HLN := Aside0.mk hln
  have HV := Aside0.mk hv
  clear hr0_0 hc0_0 hr0_1 hc0_1 hr1 hc1 hln hv
  have HS := (Hold.start w).box #[.slice A0_0 l0_0.length c0_0, .slice A0_1 l0_1.length c0_1, .bool a0_2, .bool a0_3] 29
  go_enter Try.func10, Try.ntmps10
  go_wp2_with fail
  refine (impl_isCached.calls A0_0 c0_0 l0_0 A0_1 c0_1 l0_1 a0_2 a0_3 A1 c1 l1 true _ (Kd.C_below HR0.out HS.below) HC0.out (Kd.C_below HR1.out HS.below) HC1.out (Kd.C_below HT.out HS.below) HCT.out ((isCached_f a0_2 a0_3 HLN.out.1).trans (by rw [HV.out]))).mono ?_
  rintro e w1 ⟨rfl, hb⟩
  replace HS := HS.step (by first | exact hb | exact hb.below)
  clear hb
  obtain ⟨hv1, hv2⟩ := Bool.and_eq_true_iff.1 HV.out
  have HTF := Aside0.mk (trace_facts hv2)
  have HVF := Aside0.mk (valid_facts hv1)
  have HV1 := Aside0.mk hv1
  clear hv1 hv2
  have x0 : w1.cell? ⟨w.heap.size, 0, none⟩ = some (.slice A0_0 l0_0.length c0_0) := HS.cell List.mem_cons_self 0 _ rfl
  have x1 : w1.cell? ⟨w.heap.size, 1, none⟩ = some (.slice A0_1 l0_1.length c0_1) := HS.cell List.mem_cons_self 1 _ rfl
  have x2 : w1.cell? ⟨w.heap.size, 2, none⟩ = some (.bool a0_2) := HS.cell List.mem_cons_self 2 _ rfl
  have x3 : w1.cell? ⟨w.heap.size, 3, none⟩ = some (.bool a0_3) := HS.cell List.mem_cons_self 3 _ rfl
  go_wp2_with fail
  clear x0 x1 x2 x3
  refine (cached_calls A0_0 c0_0 l0_0 A0_1 c0_1 l0_1 a0_2 a0_3 A1 c1 l1 (m := l0_1.length) (fin := (cacheEnd l0_0 l0_1 a0_2 a0_3 l1)) (Kd.C_below HR0.out HS.below) HC0.out (Kd.C_below HR1.out HS.below) HC1.out HV1.out rfl (Kd.C_below HT.out HS.below) HCT.out HTF.out.2 HTF.out.1 rfl (by unfold impl_Policy_empty.f; exact if_pos ⟨HVF.out.1, by have := HVF.out.2.1; omega⟩)).mono ?_
  rintro e w2 ⟨g, rfl, bm, cm, lm, hm, p, q, R, HI⟩
  go_wp2_with fail
  have HEO := Aside0.mk (end_ok HV1.out a0_2 a0_3 HTF.out.2)
  refine (flush_calls HI HEO.out.1 HEO.out.2 ⟨HVF.out.1, HVF.out.2.1⟩).mono ?_
  clear HI
  rintro e w3 ⟨rfl, HI⟩
  obtain ⟨bk, kc, lk, hk, V, vc, lv, hv, K, b, c, lo, hi, M, D, mn, dn, _, HQ⟩ := HI
  replace HS := hold_glue HS HQ
  clear HQ
  simp only [List.cons_append, List.nil_append] at HS
  have o4 : w3.cell? ⟨g, 4, none⟩ = some (.slice (some ⟨bm, 0, none⟩) 64 cm) := HS.cell List.mem_cons_self 4 _ rfl
  have HRR := Aside0.mk (HS.one (List.mem_cons_of_mem _ List.mem_cons_self))
  have HB := Aside0.mk HS.below
  clear HS
  go_wp2_with fail
  go_ret2
  exact ⟨_, rfl, HRR.out, HB.out⟩
theorem impl_CacheMemory.calls (A0_0 : Option Addr) (c0_0 : Nat) (l0_0 : List (List Int)) (A0_1 : Option Addr) (c0_1 : Nat) (l0_1 : List Int) (a0_2 : Bool) (a0_3 : Bool) (A1 : Option Addr) (c1 : Nat) (l1 : List S37) (r1 : List Int) (r2 : Bool) (w : World) (hr0_0 : Kd.C (Kd.slice 2 (Kd.int .i64)) w A0_0 l0_0.length l0_0) (hc0_0 : l0_0.length ≤ c0_0) (hr0_1 : Kd.C (Kd.int .i64) w A0_1 l0_1.length l0_1) (hc0_1 : l0_1.length ≤ c0_1) (hr1 : Kd.C k37 w A1 l1.length l1) (hc1 : l1.length ≤ c1) (h : impl_CacheMemory.f l0_0 l0_1 a0_2 a0_3 l1 = some (r1, r2)) :
    Calls Try.prog 10 #[.agg #[.slice A0_0 l0_0.length c0_0, .slice A0_1 l0_1.length c0_1, .bool a0_2, .bool a0_3], .slice A1 l1.length c1] w fun e w' => ∃ v0_ : Value, e = .returned (.tuple #[v0_, .bool r2]) ∧ Kd.R (Kd.int .i64) 2 w' w.heap.size (fun _ => True) v0_ r1 ∧ Below w.heap.size w w' := by
  unfold impl_CacheMemory.f memoryV cacheOk at h
  split at h
  rotate_left
  · cases h
  rename_i hln
  cases hv : (validB l0_0 l0_1 && traceB l1) with
  | false =>
    rw [hv, if_neg (by decide)] at h
    cases h
    exact yCacheMemory_bad A0_0 c0_0 l0_0 A0_1 c0_1 l0_1 a0_2 a0_3 A1 c1 l1 w hr0_0 hc0_0 hr0_1 hc0_1 hr1 hc1 hln hv
  | true =>
    rw [hv, if_pos rfl] at h
    injection h with h
    injection h with h1 h2
    subst h1 h2
    exact yCacheMemory_ok A0_0 c0_0 l0_0 A0_1 c0_1 l0_1 a0_2 a0_3 A1 c1 l1 w hr0_0 hc0_0 hr0_1 hc0_1 hr1 hc1 hln hv
def impl_PlainMemory.f (k : Nat) (l0 : List (S37)) : Option (List Int × Bool) := (impl_ValidTrace.f l0).bind fun t434 => (if t434 = true then ((impl_plainRun.f k l0).bind fun bt435 => (some (bt435.2, true))) else (some (([] : List Int), false)))
theorem impl_PlainMemory.mono : ∀ a0 k, LeO (impl_PlainMemory.f k a0) (impl_PlainMemory.f (k + 1) a0) := by
  intro a0 k
  unfold impl_PlainMemory.f
  repeat' first
      | (with_reducible exact impl_plainRun.mono _ _)
      | (with_reducible exact LeO.refl _)
      | (with_reducible exact LeO.none _)
      | (with_reducible refine LeO.ite ?_ ?_)
      | (with_reducible refine LeO.bind ?_ (fun _ => ?_))
      | exact impl_plainRun.mono _ _
      | exact LeO.none _
      | refine LeO.ite ?_ ?_
      | refine LeO.bind ?_ (fun _ => ?_)
set_option maxHeartbeats 8000000 in
set_option maxRecDepth 100000 in
theorem impl_PlainMemory.calls (k : Nat) (A0 : Option Addr) (c0 : Nat) (l0 : List (S37)) (r1 : List Int) (r2 : Bool) (w : World) (hr0 : Kd.C k37 w A0 l0.length l0) (hc0 : l0.length ≤ c0) (h : impl_PlainMemory.f k l0 = some (r1, r2)) :
    Calls Try.prog 11 #[.slice A0 l0.length c0] w fun e w' => ∃ v0_ : Value, e = .returned (.tuple #[v0_, .bool r2]) ∧ Kd.R (Kd.int .i64) 2 w' w.heap.size (fun _ => True) v0_ r1 ∧ Below w.heap.size w w' := by
  have HR0 := Aside0.mk hr0
  have HC0 := Aside0.mk hc0
  clear hr0 hc0
  have HB := Aside0.mk (Below.refl w.heap.size w)
  have H : ((impl_ValidTrace.f l0).bind fun t434 => (if t434 = true then ((impl_plainRun.f k l0).bind fun bt435 => (some (bt435.2, true))) else (some (([] : List Int), false)))) = some (r1, r2) := h
  clear h
  replace H := Option.bind_eq_some_iff.mp H
  obtain ⟨t434, A20, H⟩ := H
  replace H : (if t434 = true then ((impl_plainRun.f k l0).bind fun bt435 => (some (bt435.2, true))) else (some (([] : List Int), false))) = some (r1, r2) := H
  have A2 := Aside0.mk A20
  clear A20
  by_cases c3 : t434 = true
  · subst c3
    have H1 : ((impl_plainRun.f k l0).bind fun bt435 => (some (bt435.2, true))) = some (r1, r2) := by rw [if_pos rfl] at H; exact H
    clear H
    have H := H1
    clear H1
    replace H := Option.bind_eq_some_iff.mp H
    obtain ⟨⟨t435, t436⟩, A40, H⟩ := H
    replace H : (some (t436, true)) = some (r1, r2) := H
    have A4 := Aside0.mk A40
    clear A40
    simp only [Option.some.injEq, Prod.mk.injEq] at H
    obtain ⟨rfl, rfl⟩ := H
    go_enter Try.func11, Try.ntmps11
    go_wp2_with (first | ((with_reducible refine gate_callee (f := 28) rfl ?_); refine goesL_ (some 7) rfl rfl Try.func28 (by kernel_rfl) rfl #[.slice A0 l0.length c0] rfl (by (try simp only [List.map_toArray, List.map_cons, List.map_nil]); first | done | rfl | (simp only [List.length_drop, List.length_take]; rfl)) ?_; (with_reducible refine (impl_ValidTrace.calls _ _ l0 true _ ?side1 ?side2 A2.out).mono ?_); (case side1 => repeat (first | exact HR0.out | (with_reducible refine Kd.C_alloc ?_ _) | (with_reducible refine Kd.C_drewN ?_ _) | (with_reducible refine Kd.C_drew ?_))); (case side2 => exact HC0.out); rintro e w5 ⟨rfl, hb⟩; refine ⟨_, rfl, ?_⟩; have n0_ := Aside0.mk (below_step (by repeat (first | (with_reducible first | exact HB.out | apply below_alloc | apply pw_below_drewN | apply below_drew1) | exact HB.out)) hb); clear HB; have HB := n0_; clear n0_; (try clear hb); (try clear hb2); (try clear hk); (try clear hi)) | ((with_reducible refine gate_callee (f := 29) rfl ?_); refine goesL_ (some 11) rfl rfl Try.func29 (by kernel_rfl) rfl #[.slice A0 l0.length c0] rfl (by (try simp only [List.map_toArray, List.map_cons, List.map_nil]); first | done | rfl | (simp only [List.length_drop, List.length_take]; rfl)) ?_; (with_reducible refine (impl_plainRun.calls k _ _ l0 t435 t436 _ ?side1 ?side2 A4.out).mono ?_); (case side1 => repeat (first | exact (Kd.C_below HR0.out HB.out) | (with_reducible refine Kd.C_alloc ?_ _) | (with_reducible refine Kd.C_drewN ?_ _) | (with_reducible refine Kd.C_drew ?_))); (case side2 => exact HC0.out); rintro e w6 ⟨v437, v439, rfl, ho0, ho1, hb⟩; refine ⟨_, rfl, ?_⟩; have n0_ := Aside0.mk (Kd.R_lower ho0 (below_size (by repeat (first | (with_reducible first | exact HB.out | apply below_alloc | apply pw_below_drewN | apply below_drew1) | exact HB.out)))); have n1_ := Aside0.mk (Kd.R_lower ho1 (below_size (by repeat (first | (with_reducible first | exact HB.out | apply below_alloc | apply pw_below_drewN | apply below_drew1) | exact HB.out)))); have n2_ := Aside0.mk (below_step (by repeat (first | (with_reducible first | exact HB.out | apply below_alloc | apply pw_below_drewN | apply below_drew1) | exact HB.out)) hb); clear HB; have HO438 := n0_; have HO440 := n1_; have HB := n2_; clear n0_ n1_ n2_; (try clear hb); (try clear hb2); (try clear hk); (try clear hi); (try clear ho0); (try clear ho1)))
    go_ret2
    exact ⟨_, by first | rfl | (simp [errW_none, errW_some] <;> rfl) | (simp [*, errW_none, errW_some] <;> rfl), by (with_reducible repeat (first | apply Kd.R_alloc | apply Kd.R_drewN | apply Kd.R_drew)); exact Kd.R_mono HO440.out (fun _ hk => trivial), by repeat (first | (with_reducible first | exact HB.out | apply below_alloc | apply pw_below_drewN | apply below_drew1) | exact HB.out)⟩
  · replace c3 := Bool.eq_false_iff.mpr c3
    subst c3
    have H1 : (some (([] : List Int), false)) = some (r1, r2) := by rw [if_neg (show ¬ (false = true) by decide)] at H; exact H
    clear H
    have H := H1
    clear H1
    simp only [Option.some.injEq, Prod.mk.injEq] at H
    obtain ⟨rfl, rfl⟩ := H
    go_enter Try.func11, Try.ntmps11
    go_wp2_with (first | ((with_reducible refine gate_callee (f := 28) rfl ?_); refine goesL_ (some 7) rfl rfl Try.func28 (by kernel_rfl) rfl #[.slice A0 l0.length c0] rfl (by (try simp only [List.map_toArray, List.map_cons, List.map_nil]); first | done | rfl | (simp only [List.length_drop, List.length_take]; rfl)) ?_; (with_reducible refine (impl_ValidTrace.calls _ _ l0 false _ ?side1 ?side2 A2.out).mono ?_); (case side1 => repeat (first | exact HR0.out | (with_reducible refine Kd.C_alloc ?_ _) | (with_reducible refine Kd.C_drewN ?_ _) | (with_reducible refine Kd.C_drew ?_))); (case side2 => exact HC0.out); rintro e w7 ⟨rfl, hb⟩; refine ⟨_, rfl, ?_⟩; have n0_ := Aside0.mk (below_step (by repeat (first | (with_reducible first | exact HB.out | apply below_alloc | apply pw_below_drewN | apply below_drew1) | exact HB.out)) hb); clear HB; have HB := n0_; clear n0_; (try clear hb); (try clear hb2); (try clear hk); (try clear hi)))
    go_ret2
    exact ⟨_, by first | rfl | (simp [errW_none, errW_some] <;> rfl) | (simp [*, errW_none, errW_some] <;> rfl), by first | exact Kd.R_nil _ _ _ _ _ | exact Kd.N_nil _ _ _ _ _ | exact Kd.V_nil _ _ _ _ _ | exact Kd.Q_nil _ _ _ _ _ | exact Kd.S_nil _ _ _ _ _, by repeat (first | (with_reducible first | exact HB.out | apply below_alloc | apply pw_below_drewN | apply below_drew1) | exact HB.out)⟩
def laws_b10Nums.l0 : Nat → List Int → List Int → Int → Option (Bool)
  | 0, _, _, _ => none
  | k + 1, x0, x1, x5 => if x5 < (x0.length : Int) then (if 0 ≤ x5 then (if x5 < (x1.length : Int) then (if (rd x0 x5) = (rd x1 x5) then (laws_b10Nums.l0 k x0 x1 (wrap64 (x5 + 1))) else (some false)) else (none)) else (none)) else (some true)
def laws_b10Nums.f (k : Nat) (l0 : List Int) (l1 : List Int) : Option (Bool) := if (l0.length : Int) = (l1.length : Int) then (laws_b10Nums.l0 k l0 l1 0) else (some false)
theorem laws_b10Nums.mono_l : ∀ k, (∀ y0 y1 y2, LeO (laws_b10Nums.l0 k y0 y1 y2) (laws_b10Nums.l0 (k + 1) y0 y1 y2))
  | 0 => fun _ _ _ r h => by simp [laws_b10Nums.l0] at h
  | k + 1 => by
    have ih0 := laws_b10Nums.mono_l k
    · intro y0 y1 y2
      unfold laws_b10Nums.l0
      repeat' first
      | (with_reducible exact ih0 _ _ _)
      | (with_reducible exact LeO.refl _)
      | (with_reducible exact LeO.none _)
      | (with_reducible refine LeO.ite ?_ ?_)
      | (with_reducible refine LeO.bind ?_ (fun _ => ?_))
      | exact ih0 _ _ _
      | exact LeO.none _
      | refine LeO.ite ?_ ?_
      | refine LeO.bind ?_ (fun _ => ?_)
theorem laws_b10Nums.mono : ∀ a0 a1 k, LeO (laws_b10Nums.f k a0 a1) (laws_b10Nums.f (k + 1) a0 a1) := by
  intro a0 a1 k
  have ih0 := laws_b10Nums.mono_l k
  unfold laws_b10Nums.f
  repeat' first
      | (with_reducible exact ih0 _ _ _)
      | (with_reducible exact LeO.refl _)
      | (with_reducible exact LeO.none _)
      | (with_reducible refine LeO.ite ?_ ?_)
      | (with_reducible refine LeO.bind ?_ (fun _ => ?_))
      | exact ih0 _ _ _
      | exact LeO.none _
      | refine LeO.ite ?_ ?_
      | refine LeO.bind ?_ (fun _ => ?_)
set_option maxHeartbeats 8000000 in
set_option maxRecDepth 100000 in
theorem laws_b10Nums.calls (k : Nat) (A0 : Option Addr) (c0 : Nat) (l0 : List Int) (A1 : Option Addr) (c1 : Nat) (l1 : List Int) (r : Bool) (w : World) (hr0 : Kd.C (Kd.int .i64) w A0 l0.length l0) (hc0 : l0.length ≤ c0) (hr1 : Kd.C (Kd.int .i64) w A1 l1.length l1) (hc1 : l1.length ≤ c1) (h : laws_b10Nums.f k l0 l1 = some r) :
    Calls Try.prog 12 #[.slice A0 l0.length c0, .slice A1 l1.length c1] w fun e w' => e = .returned (.bool r) ∧ Drawn0 w w' := by
  have HR0 := Aside0.mk hr0
  have HC0 := Aside0.mk hc0
  clear hr0 hc0
  have HR1 := Aside0.mk hr1
  have HC1 := Aside0.mk hc1
  clear hr1 hc1
  have H : (if (l0.length : Int) = (l1.length : Int) then (laws_b10Nums.l0 k l0 l1 0) else (some false)) = some r := h
  clear h
  by_cases c3 : (l0.length : Int) = (l1.length : Int)
  · rw [if_pos c3] at H
    have c3b0 : ((l0.length : Int) == (l1.length : Int)) = true := beq_iff_eq.mpr c3
    have c3b1 : ((l0.length : Int) != (l1.length : Int)) = false := bne_eq_false_iff_eq.mpr c3
    have c3b2 : (l0.length == l1.length) = true := by first | simpa using c3 | (simp at c3 ⊢; omega)
    clear c3
    have H' := Aside0.mk H
    clear H
    go_enter Try.func12, Try.ntmps12
    go_wp2
    repeat (go_quiet (fail); try go_wp2)
    go_loopg [5] k (fun kq v5 w' => ∃ (x5_1 : Int), v5 = .int .i64 x5_1 ∧ Aside0 (laws_b10Nums.l0 kq l0 l1 x5_1 = some r) ∧ Aside0 (kq ≤ k) ∧ Drawn0 w w')
    case atStart => exact ⟨(0), (by first | rfl | (simp; done) | (simp [*]; done)), H', ⟨Nat.le_refl _⟩, by repeat (first | exact Drawn0.refl _ | apply Drawn0.step)⟩
    case round =>
      clear H'
      try clear c1
      try clear p2
      try clear c3
      try clear c3b0
      try clear c3b1
      try clear c3b2
      obtain ⟨x5_1, rfl, HA, HK1, ⟨m1, rfl⟩⟩ := hrel
      cases gk with
      | zero => exact absurd HA.out (by simp [laws_b10Nums.l0])
      | succ k1 =>
        have H := HA.out
        clear HA
        simp only [laws_b10Nums.l0] at H
        by_cases c4 : x5_1 < (l0.length : Int)
        · rw [if_pos c4] at H
          have c4b0 : decide (x5_1 < (l0.length : Int)) = true := decide_eq_true c4
          clear c4
          by_cases c5 : 0 ≤ x5_1
          · rw [if_pos c5] at H
            have c5b0 : decide (0 ≤ x5_1) = true := decide_eq_true c5
            clear c5
            by_cases c6 : x5_1 < (l1.length : Int)
            · rw [if_pos c6] at H
              have c6b0 : decide (x5_1 < (l1.length : Int)) = true := decide_eq_true c6
              clear c6
              by_cases c7 : (rd l0 x5_1) = (rd l1 x5_1)
              · rw [if_pos c7] at H
                have c7b0 : ((rd l0 x5_1) == (rd l1 x5_1)) = true := beq_iff_eq.mpr c7
                have c7b1 : ((rd l0 x5_1) != (rd l1 x5_1)) = false := bne_eq_false_iff_eq.mpr c7
                clear c7
                have H' := Aside0.mk H
                clear H
                have p441 : 0 ≤ (x5_1 : Int) := of_decide_eq_true (by first | (with_reducible assumption) | assumption)
                have q441 : x5_1 < (l0.length : Int) := of_decide_eq_true (by first | (with_reducible assumption) | assumption)
                obtain ⟨ad441, e441, hx441_0⟩ := Kd.at_int HR0.out x5_1 p441 q441
                cases e441
                replace p441 := eq_true p441
                replace q441 := eq_true q441
                have p442 : 0 ≤ (x5_1 : Int) := of_decide_eq_true (by first | (with_reducible assumption) | assumption)
                have q442 : x5_1 < (l1.length : Int) := of_decide_eq_true (by first | (with_reducible assumption) | assumption)
                obtain ⟨ad442, e442, hx442_0⟩ := Kd.at_int HR1.out x5_1 p442 q442
                cases e442
                replace p442 := eq_true p442
                replace q442 := eq_true q442
                go_wp2
                repeat (go_quiet (fail); try go_wp2)
                go_roundg k1
                case measure => have := HK1.out; omega
                case rel => exact ⟨(wrap64 (x5_1 + 1)), (by first | rfl | (simp; done) | (simp [*]; done)), H', ⟨by have := HK1.out; omega⟩, by repeat (first | exact Drawn0.refl _ | apply Drawn0.step)⟩
              · rw [if_neg c7] at H
                have c7b0 : ((rd l0 x5_1) == (rd l1 x5_1)) = false := beq_eq_false_iff_ne.mpr c7
                have c7b1 : ((rd l0 x5_1) != (rd l1 x5_1)) = true := bne_iff_ne.mpr c7
                obtain rfl := Option.some.inj H
                have p441 : 0 ≤ (x5_1 : Int) := of_decide_eq_true (by first | (with_reducible assumption) | assumption)
                have q441 : x5_1 < (l0.length : Int) := of_decide_eq_true (by first | (with_reducible assumption) | assumption)
                obtain ⟨ad441, e441, hx441_0⟩ := Kd.at_int HR0.out x5_1 p441 q441
                cases e441
                replace p441 := eq_true p441
                replace q441 := eq_true q441
                have p442 : 0 ≤ (x5_1 : Int) := of_decide_eq_true (by first | (with_reducible assumption) | assumption)
                have q442 : x5_1 < (l1.length : Int) := of_decide_eq_true (by first | (with_reducible assumption) | assumption)
                obtain ⟨ad442, e442, hx442_0⟩ := Kd.at_int HR1.out x5_1 p442 q442
                cases e442
                replace p442 := eq_true p442
                replace q442 := eq_true q442
                go_wp2
                repeat (go_quiet (fail); try go_wp2)
                go_ret
                exact ⟨by first | rfl | (simp; done) | (simp [*]; done), by repeat (first | exact Drawn0.refl _ | apply Drawn0.step)⟩
            · rw [if_neg c6] at H
              exact absurd H (by simp)
          · rw [if_neg c5] at H
            exact absurd H (by simp)
        · rw [if_neg c4] at H
          have c4b0 : decide (x5_1 < (l0.length : Int)) = false := decide_eq_false c4
          clear c4
          obtain rfl := Option.some.inj H
          go_wp2
          repeat (go_quiet (fail); try go_wp2)
          go_ret
          exact ⟨by first | rfl | (simp; done) | (simp [*]; done), by repeat (first | exact Drawn0.refl _ | apply Drawn0.step)⟩
  · rw [if_neg c3] at H
    have c3b0 : ((l0.length : Int) == (l1.length : Int)) = false := beq_eq_false_iff_ne.mpr c3
    have c3b1 : ((l0.length : Int) != (l1.length : Int)) = true := bne_iff_ne.mpr c3
    have c3b2 : (l0.length == l1.length) = false := by first | simpa using c3 | (simp at c3 ⊢; omega)
    obtain rfl := Option.some.inj H
    go_enter Try.func12, Try.ntmps12
    go_wp2
    repeat (go_quiet (fail); try go_wp2)
    go_ret
    exact ⟨by first | rfl | (simp; done) | (simp [*]; done), by repeat (first | exact Drawn0.refl _ | apply Drawn0.step)⟩
end Go.Proofs.Ytdkpdpdaggnmhaa.PFnReads
