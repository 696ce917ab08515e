-- Printed by this session's own program (wip/tools/xprint.py) over the kit's print; not trusted: Lean checks it.
import Derived.Test.YtdkpdpdaggnmhaaGreatZExactCacheMemoryPFnExactCacheMemoryx0
import Derived.Test.YtdkpdpdaggnmhaaGreatZExactCacheMemoryPFnExactCacheMemoryx7
import Derived.Test.YtdkpdpdaggnmhaaGreatZExactCacheMemoryPFnExactCacheMemoryx8
import Derived.Test.YtdkpdpdaggnmhaaGreatZExactCacheMemoryPFnExactCacheMemoryx9
import Derived.Test.YtdkpdpdaggnmhaaGreatZExactCacheMemoryPFnExactCacheMemoryx10
namespace Go.Proofs.YtdkpdpdaggnmhaaGreat.PFnExactCacheMemory
open Go.RowKit Go.Proofs.YtdkpdpdaggnmhaaGreatW.PrintWords Go.Proofs.YtdkpdpdaggnmhaaGreatW.PrintLast Go.Proofs.YtdkpdpdaggnmhaaGreatW.PrintMore
attribute [local go_sem] max2_int min2_int max_two min_two max_three min_three max_four min_four   -- for this text's walks alone
set_option linter.unusedVariables false
set_option linter.unusedSimpArgs false

/-! ### impl_cacheRun_flush: function 33 -/
theorem flush_next {cont : List Int} {qq : Nat} {y : Int} {ws cs : List Int} {ds ds0 : List Bool} (ho : Once cont) (hq : qq < cont.length) (hy : cont.getD qq 0 = y) (h : ∀ y ∈ cont.drop qq, 0 ≤ y → ds.getD y.toNat false = ds0.getD y.toNat false) :
    ∀ z ∈ cont.drop (qq + 1), 0 ≤ z → (outV ws cs ds y).2.2.getD z.toNat false = ds0.getD z.toNat false := by
  intro z hz h0
  have e : cont.drop qq = y :: cont.drop (qq + 1) := by rw [List.drop_eq_getElem_cons hq, ← hy, getD_lt cont qq 0 hq]
  have hne : z ≠ y := by
    intro e2
    have h1 : Once (cont.drop qq) := List.Nodup.sublist ((List.drop_sublist qq cont).filter _) ho
    rw [e, once_cons] at h1
    subst e2
    exact h1.1 h0 hz
  rw [← h z (by rw [e]; exact List.mem_cons_of_mem _ hz) h0]
  have h2 := out_ds ws cs ds y z.toNat
  rw [Int.toNat_of_nonneg h0] at h2
  rw [Bool.eq_iff_iff, h2]
  exact ⟨fun h => h.1, fun h => ⟨h, hne⟩⟩
set_option maxHeartbeats 4000000 in
set_option maxRecDepth 100000 in
theorem flush_calls {w0 w : World} {R : List (Thing × Nat × Nat)} {g bm cm lm hm p q m : Nat} {A0 : Option Addr} {c0 : Nat} {l0 : List (List Int)} {A1 : Option Addr} {c1 : Nat} {l1 : List Int} {back al : Bool} {j : Nat} {s : CacheV} (h : ImplAt w0 w R g bm cm lm hm p q m A0 c0 l0.length A1 c1 l1.length back al 0 j s) (hok : s.Ok m) (hfin : s.Fine) (hm1 : 1 ≤ m ∧ m ≤ 6) :
    Calls Tryz.prog 33 #[.pointer (some ⟨g, 0, none⟩)] w fun e w' => e = .returned (.tuple #[]) ∧ ImplAt w0 w' R g bm cm lm hm p q m A0 c0 l0.length A1 c1 l1.length back al (flushC s.cs s.cont 0 s.ws s.ds).1 j { s with ws := (flushC s.cs s.cont 0 s.ws s.ds).2.1 } := by
  obtain ⟨bk, kc, lk, hk, V, vc, lv, hv, K, b, c, lo, hi, M, D, mn, dn, ⟨hK, hM, hD, hmn, hdn⟩, HS⟩ := h
  have HOK := Aside0.mk hok
  have HFN := Aside0.mk hfin
  have HK := Aside0.mk hK
  have HM := Aside0.mk hM
  have HD_ := Aside0.mk hD
  have HMN := Aside0.mk hmn
  have HDN := Aside0.mk hdn
  have HM1 := Aside0.mk hm1
  clear hok hfin hK hM hD hmn hdn hm1
  have HCM := Aside0.mk (HS.reads' (List.mem_cons_of_mem _ (List.mem_cons_of_mem _ List.mem_cons_self))).1
  go_enter Tryz.func33, Tryz.ntmps33
  have q6 : w.cell? ⟨g, 6, none⟩ = some (.slice (some ⟨bk, 0, none⟩) m kc) := HS.cell List.mem_cons_self 6 _ rfl
  go_wp2_with fail
  clear q6
  have HSS := Aside0.mk HS
  have HFL := Aside0.mk (rfl : flushC s.cs s.cont 0 s.ws s.ds = flushC s.cs s.cont 0 s.ws s.ds)
  clear HS
  go_loopg [9] m (fun gg s9 wr => ∃ (qq : Nat) (f : Int) (ws : List Int) (ds : List Bool), qq ≤ m ∧ m - qq ≤ gg ∧ s9 = .int .i64 (qq : Int) ∧ Aside0 (flushC s.cs (s.cont.drop qq) f ws ds = flushC s.cs s.cont 0 s.ws s.ds) ∧ Aside0 (0 ≤ f ∧ f ≤ 4 * qq) ∧ Aside0 (∀ y ∈ s.cont.drop qq, 0 ≤ y → ds.getD y.toNat false = s.ds.getD y.toNat false) ∧ Aside0 (Hold w0 wr ((boxT #[.slice A0 l0.length c0, .slice A1 l1.length c1, .bool back, .bool al, .slice (some ⟨bm, 0, none⟩) 64 cm, .slice V s.rd.length vc, .slice (some ⟨bk, 0, none⟩) m kc, .map (some p), .map (some q), .int .i64 s.h, .int .i64 s.m, .int .i64 s.i, .int .i64 s.o, .int .i64 f] 65, g, g + 1) :: (flat (Kd.int .i64) 2 (.slice (some ⟨bm, 0, none⟩) 64 cm) ws, lm, hm) :: (flat (Kd.int .i64) 2 (.slice (some ⟨bk, 0, none⟩) m kc) s.cont, lk, hk) :: (flat (Kd.int .i64) 2 (.slice V s.rd.length vc) s.rd, lv, hv) :: (mapT Tryz.prog 2 M mn, p, p + 1) :: (mapT Tryz.prog 2 D dn, q, q + 1) :: (K.map (lineI s.cs b c lo hi) ++ R))))
  case atStart => exact ⟨0, 0, s.ws, s.ds, Nat.zero_le _, Nat.le_refl _, rfl, HFL, ⟨⟨Int.le_refl _, by omega⟩⟩, ⟨fun _ _ _ => rfl⟩, HSS⟩
  case round =>
    clear HSS HFL
    obtain ⟨qq, f, ws, ds, hqq, hgq, rfl, HFL, HBN, HDS, HSS⟩ := hrel
    by_cases hqm : qq < m
    · have HS := HSS.out
      have hqz : (qq : Int) < (m : Int) := by omega
      have hq0 : (0 : Int) ≤ qq := Int.natCast_nonneg qq
      have hm6 : (m : Int) ≤ 6 := by have := HM1.out.2; omega
      have hqs : qq < s.cont.length := by have := HOK.out.cont; omega
      obtain ⟨y, hy⟩ : ∃ y, s.cont.getD qq 0 = y := ⟨_, rfl⟩
      have HY := Aside0.mk hy
      have HYM : Aside0 (y ∈ s.cont ∧ y ∈ s.cont.drop qq) := ⟨by rw [← hy]; exact ⟨getD_memI s.cont qq 0 hqs, by rw [List.drop_eq_getElem_cons hqs, getD_lt s.cont qq 0 hqs]; exact List.mem_cons_self⟩⟩
      have HY16 := Aside0.mk (HOK.out.lines y HYM.out.1)
      clear hy
      have ry := (HS.cellI (List.mem_cons_of_mem _ (List.mem_cons_of_mem _ List.mem_cons_self)) (qq : Int) hq0 (by exact Int.ofNat_lt.2 hqs)).1
      rw [Int.toNat_natCast, HY.out] at ry
      obtain ⟨dv, hdv⟩ : ∃ dv, decide (0 ≤ y ∧ s.ds.getD y.toNat false = true) = dv := ⟨_, rfl⟩
      have HDV := Aside0.mk hdv
      clear hdv
      have lk1 := look_dirty HS (List.mem_cons_of_mem _ (List.mem_cons_of_mem _ (List.mem_cons_of_mem _ (List.mem_cons_of_mem _ (List.mem_cons_of_mem _ List.mem_cons_self))))) HD_.out (o := y) (by have := HY16.out; omega) HDV.out
      have HNX := Aside0.mk (flush_next HFN.out.once hqs HY.out (ws := ws) (cs := s.cs) HDS.out)
      have q8 : wr.cell? ⟨g, 8, none⟩ = some (.map (some q)) := HS.cell List.mem_cons_self 8 _ rfl
      cases dv
      · go_wp2_with fail
        obtain ⟨o1, ws1, ds1, hov⟩ : ∃ o1 ws1 ds1, outV ws s.cs ds y = (o1, ws1, ds1) := ⟨_, _, _, rfl⟩
        have h3 := out_not hov (fun k => of_decide_eq_false HDV.out ⟨k.1, by rw [← HDS.out y HYM.out.2 k.1]; exact k.2⟩)
        rw [h3.1, h3.2.1, h3.2.2] at hov
        have HOV := Aside0.mk hov
        clear hov h3
        clear q8 lk1 ry HS
        go_roundg (m - (qq + 1))
        case measure => omega
        case rel => exact ⟨qq + 1, f, ws, ds, hqm, Nat.le_refl _, rfl, ⟨by rw [← HFL.out, flush_step _ _ _ hqs, HY.out, HOV.out, Int.add_zero]⟩, ⟨⟨HBN.out.1, by have := HBN.out.2; omega⟩⟩, ⟨by have h := HNX.out; rw [HOV.out] at h; exact h⟩, HSS⟩
      · obtain ⟨hy0, hyd⟩ := of_decide_eq_true HDV.out
        obtain ⟨yl, rfl⟩ : ∃ yl : Nat, y = (yl : Int) := ⟨y.toNat, by omega⟩
        rw [Int.toNat_natCast] at hyd
        have HYK : Aside0 ((yl : Int) ∈ K) := ⟨(HK.out.mem _).2 ⟨hy0, HYM.out.1⟩⟩
        have hyd2 : ds.getD yl false = true := by have := HDS.out _ HYM.out.2 hy0; rw [Int.toNat_natCast] at this; rw [this]; exact hyd
        obtain ⟨o1, ws1, ds1, hov⟩ : ∃ o1 ws1 ds1, outV ws s.cs ds (yl : Int) = (o1, ws1, ds1) := ⟨_, _, _, rfl⟩
        have HOV := Aside0.mk hov
        obtain ⟨rfl, rfl⟩ := out_yes hov hyd2
        clear hov hyd hyd2 hy0
        clear HSS
        go_wp2_with fail
        clear q8 lk1 ry
        replace HS := hold_take (L := [(boxT #[.slice A0 l0.length c0, .slice A1 l1.length c1, .bool back, .bool al, .slice (some ⟨bm, 0, none⟩) 64 cm, .slice V s.rd.length vc, .slice (some ⟨bk, 0, none⟩) m kc, .map (some p), .map (some q), .int .i64 s.h, .int .i64 s.m, .int .i64 s.i, .int .i64 s.o, .int .i64 f] 65, g, g + 1), (flat (Kd.int .i64) 2 (.slice (some ⟨bm, 0, none⟩) 64 cm) ws, lm, hm), (flat (Kd.int .i64) 2 (.slice (some ⟨bk, 0, none⟩) m kc) s.cont, lk, hk), (flat (Kd.int .i64) 2 (.slice V s.rd.length vc) s.rd, lv, hv), (mapT Tryz.prog 2 M mn, p, p + 1), (mapT Tryz.prog 2 D dn, q, q + 1)]) HS HYK.out
        change Hold w0 wr ((flat (Kd.int .i64) 2 (.slice (some ⟨(b yl), 0, none⟩) 4 (c yl)) ([s.cs.getD (yl * 4 + 0) 0, s.cs.getD (yl * 4 + 1) 0, s.cs.getD (yl * 4 + 2) 0, s.cs.getD (yl * 4 + 3) 0]), (lo yl), (hi yl)) :: (boxT #[.slice A0 l0.length c0, .slice A1 l1.length c1, .bool back, .bool al, .slice (some ⟨bm, 0, none⟩) 64 cm, .slice V s.rd.length vc, .slice (some ⟨bk, 0, none⟩) m kc, .map (some p), .map (some q), .int .i64 s.h, .int .i64 s.m, .int .i64 s.i, .int .i64 s.o, .int .i64 f] 65, g, g + 1) :: (flat (Kd.int .i64) 2 (.slice (some ⟨bm, 0, none⟩) 64 cm) ws, lm, hm) :: (flat (Kd.int .i64) 2 (.slice (some ⟨bk, 0, none⟩) m kc) s.cont, lk, hk) :: (flat (Kd.int .i64) 2 (.slice V s.rd.length vc) s.rd, lv, hv) :: (mapT Tryz.prog 2 M mn, p, p + 1) :: (mapT Tryz.prog 2 D dn, q, q + 1) :: ((K.erase (yl : Int)).map (lineI s.cs b c lo hi) ++ R)) at HS
        replace HS := HS.pick (.there (.there (.there (.there (.there .here)))))
        replace HS := HS.pick (.there (.there (.there .here)))
        replace HS := HS.pick (.there (.there (.there .here)))
        refine (put_calls (n := yl) (by have := HY16.out; omega) (by rw [HM.out]; exact if_pos HYK.out) HS).mono ?_
        clear HS
        rintro e w3 ⟨rfl, HS⟩
        replace HS := HS.pick (.there (.there (.there (.there (.there (.there .here))))))
        replace HS := HS.pick (.there (.there (.there .here)))
        replace HS := HS.pick (.there (.there (.there (.there (.there (.there .here))))))
        replace HS := HS.pick (.there (.there (.there (.there (.there (.there .here))))))
        replace HS := HS.pick (.there (.there (.there (.there (.there .here)))))
        replace HS := HS.pick (.there (.there (.there (.there (.there .here)))))
        replace HS := HS.pick (.there (.there (.there (.there (.there (.there .here))))))
        replace HS := hold_give (f := lineI s.cs b c lo hi) (K := K) (L := [(boxT #[.slice A0 l0.length c0, .slice A1 l1.length c1, .bool back, .bool al, .slice (some ⟨bm, 0, none⟩) 64 cm, .slice V s.rd.length vc, .slice (some ⟨bk, 0, none⟩) m kc, .map (some p), .map (some q), .int .i64 s.h, .int .i64 s.m, .int .i64 s.i, .int .i64 s.o, .int .i64 f] 65, g, g + 1), (flat (Kd.int .i64) 2 (.slice (some ⟨bm, 0, none⟩) 64 cm) (put4 ws (yl * 4) (s.cs.getD (yl * 4 + 0) 0) (s.cs.getD (yl * 4 + 1) 0) (s.cs.getD (yl * 4 + 2) 0) (s.cs.getD (yl * 4 + 3) 0)), lm, hm), (flat (Kd.int .i64) 2 (.slice (some ⟨bk, 0, none⟩) m kc) s.cont, lk, hk), (flat (Kd.int .i64) 2 (.slice V s.rd.length vc) s.rd, lv, hv), (mapT Tryz.prog 2 M mn, p, p + 1), (mapT Tryz.prog 2 D dn, q, q + 1)]) HS HYK.out
        change Hold w0 w3 ((boxT #[.slice A0 l0.length c0, .slice A1 l1.length c1, .bool back, .bool al, .slice (some ⟨bm, 0, none⟩) 64 cm, .slice V s.rd.length vc, .slice (some ⟨bk, 0, none⟩) m kc, .map (some p), .map (some q), .int .i64 s.h, .int .i64 s.m, .int .i64 s.i, .int .i64 s.o, .int .i64 f] 65, g, g + 1) :: (flat (Kd.int .i64) 2 (.slice (some ⟨bm, 0, none⟩) 64 cm) (put4 ws (yl * 4) (s.cs.getD (yl * 4 + 0) 0) (s.cs.getD (yl * 4 + 1) 0) (s.cs.getD (yl * 4 + 2) 0) (s.cs.getD (yl * 4 + 3) 0)), lm, hm) :: (flat (Kd.int .i64) 2 (.slice (some ⟨bk, 0, none⟩) m kc) s.cont, lk, hk) :: (flat (Kd.int .i64) 2 (.slice V s.rd.length vc) s.rd, lv, hv) :: (mapT Tryz.prog 2 M mn, p, p + 1) :: (mapT Tryz.prog 2 D dn, q, q + 1) :: (K.map (lineI s.cs b c lo hi) ++ R)) at HS
        have y1 := HBN.out.1
        have y2 : f ≤ 1000 := by have := HBN.out.2; omega
        have q13 : w3.cell? ⟨g, 13, none⟩ = some (.int .i64 f) := HS.cell List.mem_cons_self 13 _ rfl
        have fzq : ∀ j, w3.frozen? ⟨g, j, none⟩ = false := HS.thaw List.mem_cons_self
        go_wp2_with fail
        clear y1 y2 q13 fzq
        replace HS := HS.setBox 13 (.int .i64 (f + 4)) .here
        simp only [List.setIfInBounds_toArray, List.set_cons_zero, List.set_cons_succ] at HS
        generalize w3.setCell ⟨g, 13, none⟩ (.int .i64 (f + 4)) = w4 at HS ⊢
        have HSS := Aside0.mk HS
        clear HS
        go_roundg (m - (qq + 1))
        case measure => omega
        case rel => exact ⟨qq + 1, f + 4, _, ds1, hqm, Nat.le_refl _, rfl, ⟨by rw [← HFL.out, flush_step _ _ _ hqs, HY.out, HOV.out]⟩, ⟨⟨by have := HBN.out.1; omega, by have := HBN.out.2; omega⟩⟩, ⟨by have h := HNX.out; rw [HOV.out] at h; exact h⟩, HSS⟩
    · have HS := HSS.out
      obtain rfl : qq = m := by omega
      have hqz : ¬ (qq : Int) < (qq : Int) := by omega
      have hfl : (f, ws, ds) = flushC s.cs s.cont 0 s.ws s.ds := by rw [← HFL.out, List.drop_eq_nil_of_le (by have := HOK.out.cont; omega)]; rfl
      have HF2 := Aside0.mk hfl
      clear hfl HSS
      go_wp2_with fail
      (try simp only [Exit.inBlock, Exit.then]); first | refine bodyPost_ret (results_none rfl _ _ _) rfl ?_ | refine bodyPost_end (results_none rfl _ _ _) rfl ?_
      refine ⟨rfl, ?_⟩
      rw [← HF2.out]
      exact ⟨bk, kc, lk, hk, V, vc, lv, hv, K, b, c, lo, hi, M, D, mn, dn, ⟨HK.out, HM.out, HD_.out, HMN.out, HDN.out⟩, HS⟩


/-! ### impl_CacheMemory: function 20 -/
def impl_CacheMemory.f (l0_0 : List (List Int)) (l0_1 : List Int) (a0_2 : Bool) (a0_3 : Bool) (l1 : List S58) : Option (List Int × Bool) := if polLen l0_0 l0_1 ∧ l1.length ≤ 1048576 then some (memoryV l0_0 l0_1 a0_2 a0_3 l1) else none
set_option maxHeartbeats 1600000 in
set_option maxRecDepth 100000 in
theorem yCacheMemory_bad (A0_0 : Option Addr) (c0_0 : Nat) (l0_0 : List (List Int)) (A0_1 : Option Addr) (c0_1 : Nat) (l0_1 : List Int) (a0_2 : Bool) (a0_3 : Bool) (A1 : Option Addr) (c1 : Nat) (l1 : List S58) (w : World) (hr0_0 : Kd.C (Kd.slice 2 (Kd.int .i64)) w A0_0 l0_0.length l0_0) (hc0_0 : l0_0.length ≤ c0_0) (hr0_1 : Kd.C (Kd.int .i64) w A0_1 l0_1.length l0_1) (hc0_1 : l0_1.length ≤ c0_1) (hr1 : Kd.C k58 w A1 l1.length l1) (hc1 : l1.length ≤ c1) (hln : polLen l0_0 l0_1 ∧ l1.length ≤ 1048576) (hv : (validB l0_0 l0_1 && traceB l1) = false) :
    Calls Tryz.prog 20 #[.agg #[.slice A0_0 l0_0.length c0_0, .slice A0_1 l0_1.length c0_1, .bool a0_2, .bool a0_3], .slice A1 l1.length c1] w fun e w' => ∃ v0_ : Value, e = .returned (.tuple #[v0_, .bool false]) ∧ Kd.R (Kd.int .i64) 2 w' w.heap.size (fun _ => True) v0_ [] ∧ Below w.heap.size w w' := by
  have HR0 := Aside0.mk hr0_0
  have HC0 := Aside0.mk hc0_0
  have HR1 := Aside0.mk hr0_1
  have HC1 := Aside0.mk hc0_1
  have HT := Aside0.mk hr1
  have HCT := Aside0.mk hc1
  have HLN := Aside0.mk hln
  have HV := Aside0.mk hv
  clear hr0_0 hc0_0 hr0_1 hc0_1 hr1 hc1 hln hv
  have HS := (Hold.start w).box #[.slice A0_0 l0_0.length c0_0, .slice A0_1 l0_1.length c0_1, .bool a0_2, .bool a0_3] 35
  go_enter Tryz.func20, Tryz.ntmps20
  go_wp2_with fail
  refine (impl_isCached.calls A0_0 c0_0 l0_0 A0_1 c0_1 l0_1 a0_2 a0_3 A1 c1 l1 false _ (Kd.C_below HR0.out HS.below) HC0.out (Kd.C_below HR1.out HS.below) HC1.out (Kd.C_below HT.out HS.below) HCT.out ((isCached_f a0_2 a0_3 HLN.out.1).trans (by rw [HV.out]))).mono ?_
  rintro e w1 ⟨rfl, hb⟩
  replace HS := HS.step (by first | exact hb | exact hb.below)
  clear hb
  go_wp2_with fail
  go_ret2
  exact ⟨_, rfl, Kd.R_nil _ _ _ _ _, HS.below⟩

set_option maxHeartbeats 1600000 in
set_option maxRecDepth 100000 in
theorem yCacheMemory_ok (A0_0 : Option Addr) (c0_0 : Nat) (l0_0 : List (List Int)) (A0_1 : Option Addr) (c0_1 : Nat) (l0_1 : List Int) (a0_2 : Bool) (a0_3 : Bool) (A1 : Option Addr) (c1 : Nat) (l1 : List S58) (w : World) (hr0_0 : Kd.C (Kd.slice 2 (Kd.int .i64)) w A0_0 l0_0.length l0_0) (hc0_0 : l0_0.length ≤ c0_0) (hr0_1 : Kd.C (Kd.int .i64) w A0_1 l0_1.length l0_1) (hc0_1 : l0_1.length ≤ c0_1) (hr1 : Kd.C k58 w A1 l1.length l1) (hc1 : l1.length ≤ c1) (hln : polLen l0_0 l0_1 ∧ l1.length ≤ 1048576) (hv : (validB l0_0 l0_1 && traceB l1) = true) :
    Calls Tryz.prog 20 #[.agg #[.slice A0_0 l0_0.length c0_0, .slice A0_1 l0_1.length c0_1, .bool a0_2, .bool a0_3], .slice A1 l1.length c1] w fun e w' => ∃ v0_ : Value, e = .returned (.tuple #[v0_, .bool true]) ∧ Kd.R (Kd.int .i64) 2 w' w.heap.size (fun _ => True) v0_ (flushE (cacheEnd l0_0 l0_1 a0_2 a0_3 l1)).2.1 ∧ Below w.heap.size w w' := by
  have HR0 := Aside0.mk hr0_0
  have HC0 := Aside0.mk hc0_0
  have HR1 := Aside0.mk hr0_1
  have HC1 := Aside0.mk hc0_1
  have HT := Aside0.mk hr1
  have HCT := Aside0.mk hc1
  have HLN := Aside0.mk hln
  have HV := Aside0.mk hv
  clear hr0_0 hc0_0 hr0_1 hc0_1 hr1 hc1 hln hv
  have HS := (Hold.start w).box #[.slice A0_0 l0_0.length c0_0, .slice A0_1 l0_1.length c0_1, .bool a0_2, .bool a0_3] 35
  go_enter Tryz.func20, Tryz.ntmps20
  go_wp2_with fail
  refine (impl_isCached.calls A0_0 c0_0 l0_0 A0_1 c0_1 l0_1 a0_2 a0_3 A1 c1 l1 true _ (Kd.C_below HR0.out HS.below) HC0.out (Kd.C_below HR1.out HS.below) HC1.out (Kd.C_below HT.out HS.below) HCT.out ((isCached_f a0_2 a0_3 HLN.out.1).trans (by rw [HV.out]))).mono ?_
  rintro e w1 ⟨rfl, hb⟩
  replace HS := HS.step (by first | exact hb | exact hb.below)
  clear hb
  obtain ⟨hv1, hv2⟩ := Bool.and_eq_true_iff.1 HV.out
  have HTF := Aside0.mk (trace_facts hv2)
  have HVF := Aside0.mk (valid_facts hv1)
  have HV1 := Aside0.mk hv1
  clear hv1 hv2
  have x0 : w1.cell? ⟨w.heap.size, 0, none⟩ = some (.slice A0_0 l0_0.length c0_0) := HS.cell List.mem_cons_self 0 _ rfl
  have x1 : w1.cell? ⟨w.heap.size, 1, none⟩ = some (.slice A0_1 l0_1.length c0_1) := HS.cell List.mem_cons_self 1 _ rfl
  have x2 : w1.cell? ⟨w.heap.size, 2, none⟩ = some (.bool a0_2) := HS.cell List.mem_cons_self 2 _ rfl
  have x3 : w1.cell? ⟨w.heap.size, 3, none⟩ = some (.bool a0_3) := HS.cell List.mem_cons_self 3 _ rfl
  go_wp2_with fail
  clear x0 x1 x2 x3
  refine (cached_calls A0_0 c0_0 l0_0 A0_1 c0_1 l0_1 a0_2 a0_3 A1 c1 l1 (m := l0_1.length) (fin := (cacheEnd l0_0 l0_1 a0_2 a0_3 l1)) (Kd.C_below HR0.out HS.below) HC0.out (Kd.C_below HR1.out HS.below) HC1.out HV1.out rfl (Kd.C_below HT.out HS.below) HCT.out HTF.out.2 HTF.out.1 rfl (by unfold impl_Policy_empty.f; exact if_pos ⟨HVF.out.1, by have := HVF.out.2.1; omega⟩)).mono ?_
  rintro e w2 ⟨g, rfl, bm, cm, lm, hm, p, q, R, HI⟩
  go_wp2_with fail
  have HEO := Aside0.mk (end_ok HV1.out a0_2 a0_3 HTF.out.2)
  refine (flush_calls HI HEO.out.1 HEO.out.2 ⟨HVF.out.1, HVF.out.2.1⟩).mono ?_
  clear HI
  rintro e w3 ⟨rfl, HI⟩
  obtain ⟨bk, kc, lk, hk, V, vc, lv, hv, K, b, c, lo, hi, M, D, mn, dn, _, HQ⟩ := HI
  replace HS := hold_glue HS HQ
  clear HQ
  simp only [List.cons_append, List.nil_append] at HS
  have o4 : w3.cell? ⟨g, 4, none⟩ = some (.slice (some ⟨bm, 0, none⟩) 64 cm) := HS.cell List.mem_cons_self 4 _ rfl
  have HRR := Aside0.mk (HS.one (List.mem_cons_of_mem _ List.mem_cons_self))
  have HB := Aside0.mk HS.below
  clear HS
  go_wp2_with fail
  go_ret2
  exact ⟨_, rfl, HRR.out, HB.out⟩

theorem impl_CacheMemory.calls (A0_0 : Option Addr) (c0_0 : Nat) (l0_0 : List (List Int)) (A0_1 : Option Addr) (c0_1 : Nat) (l0_1 : List Int) (a0_2 : Bool) (a0_3 : Bool) (A1 : Option Addr) (c1 : Nat) (l1 : List S58) (r1 : List Int) (r2 : Bool) (w : World) (hr0_0 : Kd.C (Kd.slice 2 (Kd.int .i64)) w A0_0 l0_0.length l0_0) (hc0_0 : l0_0.length ≤ c0_0) (hr0_1 : Kd.C (Kd.int .i64) w A0_1 l0_1.length l0_1) (hc0_1 : l0_1.length ≤ c0_1) (hr1 : Kd.C k58 w A1 l1.length l1) (hc1 : l1.length ≤ c1) (h : impl_CacheMemory.f l0_0 l0_1 a0_2 a0_3 l1 = some (r1, r2)) :
    Calls Tryz.prog 20 #[.agg #[.slice A0_0 l0_0.length c0_0, .slice A0_1 l0_1.length c0_1, .bool a0_2, .bool a0_3], .slice A1 l1.length c1] w fun e w' => ∃ v0_ : Value, e = .returned (.tuple #[v0_, .bool r2]) ∧ Kd.R (Kd.int .i64) 2 w' w.heap.size (fun _ => True) v0_ r1 ∧ Below w.heap.size w w' := by
  unfold impl_CacheMemory.f memoryV cacheOk at h
  split at h
  rotate_left
  · cases h
  rename_i hln
  cases hv : (validB l0_0 l0_1 && traceB l1) with
  | false =>
    rw [hv, if_neg (by decide)] at h
    cases h
    exact yCacheMemory_bad A0_0 c0_0 l0_0 A0_1 c0_1 l0_1 a0_2 a0_3 A1 c1 l1 w hr0_0 hc0_0 hr0_1 hc0_1 hr1 hc1 hln hv
  | true =>
    rw [hv, if_pos rfl] at h
    injection h with h
    injection h with h1 h2
    subst h1 h2
    exact yCacheMemory_ok A0_0 c0_0 l0_0 A0_1 c0_1 l0_1 a0_2 a0_3 A1 c1 l1 w hr0_0 hc0_0 hr0_1 hc0_1 hr1 hc1 hln hv



end Go.Proofs.YtdkpdpdaggnmhaaGreat.PFnExactCacheMemory
