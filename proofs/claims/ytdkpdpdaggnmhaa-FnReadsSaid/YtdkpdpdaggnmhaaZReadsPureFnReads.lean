/- The law holds for every input: with a cache, reads and the words in the end are those that there are without one, and the words are those that were written last. -/
import Derived.Test.YtdkpdpdaggnmhaaZReadsPFnReadsx
import Derived.Test.YtdkpdpdaggnmhaaZReadsX2
import Derived.Test.YtdkpdpdaggnmhaaZReadsX7
namespace Go.Proofs.Ytdkpdpdaggnmhaa.Pure
open Go.RowKit Go.Proofs.YtdkpdpdaggnmhaaW.PrintWords Go.Proofs.Ytdkpdpdaggnmhaa.PFnReads
set_option linter.unusedVariables false
set_option linter.unusedSimpArgs false
theorem bits_255 (x : Int) : 0 ≤ Go.bits .and .u64 x 255 ∧ Go.bits .and .u64 x 255 ≤ 255 := by
  have h : ((BitVec.ofInt 64 x &&& BitVec.ofInt 64 255).toNat) ≤ 255 := by rw [BitVec.toNat_and]; exact Nat.le_trans Nat.and_le_right (by decide)
  have e : Go.bits .and .u64 x 255 = IntKind.u64.wrap ((BitVec.ofInt 64 x &&& BitVec.ofInt 64 255).toNat : Int) := rfl
  rw [e]
  generalize (BitVec.ofInt 64 x &&& BitVec.ofInt 64 255).toNat = m at h
  have e2 : IntKind.u64.wrap (m : Int) = (m : Int) % (2 ^ 64 : Int) := rfl
  rw [e2]
  omega
def bytesL (s : List Int) : Prop := ∀ x ∈ s, 0 ≤ x ∧ x ≤ 255
theorem next_ok (s : List Int) (hs : bytesL s) (i u : Int) (h0 : 0 ≤ i) (h1 : i ≤ 1000000000) : ∃ v u', spec_l00Src_next.f s i u = some (v, i + 1, u') ∧ 0 ≤ v ∧ v ≤ 255 := by
  have e1 : wrap64 (i + 1) = i + 1 := wrap_id (by omega) (by omega)
  unfold spec_l00Src_next.f
  rw [e1]
  by_cases hl : i < (s.length : Int)
  · rw [if_pos hl, if_pos h0, if_pos (by omega)]
    have hm : rd s i ∈ s := by
      show s.getD i.toNat 0 ∈ s
      exact getD_mem s i.toNat 0 (by omega)
    have hb := hs _ hm
    exact ⟨_, _, rfl, by rw [wrap_id (by omega) (by omega)]; exact hb.1, by rw [wrap_id (by omega) (by omega)]; exact hb.2⟩
  · rw [if_neg hl]
    by_cases h2 : i + 1 ≤ (s.length : Int)
    · rw [if_pos h2]; exact ⟨_, _, rfl, by omega, by omega⟩
    · rw [if_neg h2]
      refine ⟨_, _, rfl, ?_, ?_⟩
      · have := bits_255 ((IntKind.u64.wrap ((IntKind.u64.wrap (IntKind.u64.wrap (u * 6364136223846793005))) + 1442695040888963407)) / 1099511627776)
        rw [wrap_id (by omega) (by omega)]; exact this.1
      · have := bits_255 ((IntKind.u64.wrap ((IntKind.u64.wrap (IntKind.u64.wrap (u * 6364136223846793005))) + 1442695040888963407)) / 1099511627776)
        rw [wrap_id (by omega) (by omega)]; exact this.2
theorem pick_ok (s : List Int) (hs : bytesL s) (i u n : Int) (h0 : 0 ≤ i) (h1 : i ≤ 900000000) (hn : n ≤ 65536) : ∃ v i' u', spec_l00Src_pick.f s i u n = some (v, i', u') ∧ 0 ≤ v ∧ (v < n ∨ v = 0) ∧ i ≤ i' ∧ i' ≤ i + 2 := by
  unfold spec_l00Src_pick.f
  by_cases h : n ≤ 1
  · rw [if_pos h]; exact ⟨0, i, u, rfl, by omega, .inr rfl, by omega, by omega⟩
  · rw [if_neg h]
    obtain ⟨v, u', e, hv0, hv1⟩ := next_ok s hs i u h0 (by omega)
    rw [e, Option.bind_some]
    dsimp only
    by_cases h2 : n > 200
    · rw [if_pos h2]
      obtain ⟨v2, u2, e2, hw0, hw1⟩ := next_ok s hs (i + 1) u' (by omega) (by omega)
      rw [e2, Option.bind_some]
      dsimp only
      rw [if_neg (by omega), wrap_id (x := v * 256) (by omega) (by omega), wrap_id (x := v * 256 + v2) (by omega) (by omega)]
      exact ⟨_, _, _, rfl, Int.tmod_nonneg _ (by omega), .inl (Int.tmod_lt_of_pos _ (by omega)), by omega, by omega⟩
    · rw [if_neg h2, if_neg (by omega)]
      exact ⟨_, _, _, rfl, Int.tmod_nonneg _ (by omega), .inl (Int.tmod_lt_of_pos _ (by omega)), by omega, by omega⟩
theorem one_ok (s : List Int) (hs : bytesL s) (i u n : Int) (h0 : 0 ≤ i) (h1 : i ≤ 900000000) (hn : n ≤ 65536) : ∃ b i' u', spec_l00Src_one.f s i u n = some (b, i', u') ∧ i ≤ i' ∧ i' ≤ i + 2 := by
  obtain ⟨v, i', u', e, _, _, h2, h3⟩ := pick_ok s hs i u n h0 h1 hn
  unfold spec_l00Src_one.f
  rw [e, Option.bind_some]
  exact ⟨_, _, _, rfl, h2, h3⟩
theorem bytes_wf (s : List Int) (h : ∀ x ∈ s, (Lit.int .u8 x).wf = true) : bytesL s := by
  intro x hx
  have := h x hx
  simp only [Lit.wf, Bool.and_eq_true, decide_eq_true_eq] at this
  have e1 : IntKind.min .u8 = 0 := rfl
  have e2 : IntKind.max .u8 = 255 := rfl
  rw [e1, e2] at this
  exact this
theorem copyN_in (ws cs : List Int) (b : Nat) : ∀ k, (∀ i, i < k → b + i < ws.length) → ∀ i, i < k → (copyN ws cs b k).getD (b + i) 0 = cs.getD (b + i) 0
  | 0, _, i, hi => absurd hi (Nat.not_lt_zero i)
  | k + 1, h, i, hi => by
    rw [copyN, List.getD_eq_getElem?_getD]
    by_cases e : i = k
    · subst e
      rw [List.getElem?_set_self (by rw [copyN_length]; exact h i hi)]
      rfl
    · rw [List.getElem?_set_ne (by omega), ← List.getD_eq_getElem?_getD]
      exact copyN_in ws cs b k (fun j hj => h j (by omega)) i (by omega)
theorem copyN_out (ws cs : List Int) (b : Nat) : ∀ k a, (a < b ∨ b + k ≤ a) → (copyN ws cs b k).getD a 0 = ws.getD a 0
  | 0, a, _ => rfl
  | k + 1, a, h => by
    rw [copyN, List.getD_eq_getElem?_getD, List.getElem?_set_ne (by omega), ← List.getD_eq_getElem?_getD]
    exact copyN_out ws cs b k a (by omega)
theorem copyN_line (ws cs : List Int) (n a : Nat) (hn : n < 16) (hl : ws.length = 64) : (copyN ws cs (n * 4) 4).getD a 0 = if a / 4 = n then cs.getD a 0 else ws.getD a 0 := by
  split
  · rename_i e
    have h := copyN_in ws cs (n * 4) 4 (fun i hi => by omega) (a - n * 4) (by omega)
    rwa [show n * 4 + (a - n * 4) = a by omega] at h
  · rename_i e
    exact copyN_out ws cs (n * 4) 4 a (by omega)
/-- Reads and words without a cache. -/
def plainC : Nat → List (Int × Nat) → List Int → List Int → List Int × List Int
  | _, [], p, r => (p, r)
  | k, (q, a) :: t, p, r => if q = 1 then plainC (k + 1) t (p.set a ((k : Int) + 1)) r else plainC (k + 1) t p (r ++ [p.getD a 0])
/-- What is cached is what was written last; and so are the words of lines that are not dirty. -/
structure Coh (s : CacheV) (p : List Int) : Prop where
  len : p.length = 64
  hot : ∀ a : Nat, a < 64 → ((a / 4 : Nat) : Int) ∈ s.cont → s.cs.getD a 0 = p.getD a 0
  cold : ∀ a : Nat, a < 64 → s.ds.getD (a / 4) false = false → s.ws.getD a 0 = p.getD a 0
theorem out_words (ws cs : List Int) (ds : List Bool) (gone : Int) (hg : gone < 16) (hl : ws.length = 64) (a : Nat) : (outV ws cs ds gone).2.1.getD a 0 = if ((a / 4 : Nat) : Int) = gone ∧ ds.getD (a / 4) false = true then cs.getD a 0 else ws.getD a 0 := by
  unfold outV
  by_cases h0 : gone < 0
  · rw [if_pos h0, if_neg (fun k => by omega)]
  · rw [if_neg h0]
    by_cases hd : ds.getD gone.toNat false = true
    · rw [if_pos hd]
      show (copyN ws cs (gone.toNat * 4) 4).getD a 0 = _
      rw [copyN_line ws cs gone.toNat a (by omega) hl]
      by_cases e : a / 4 = gone.toNat
      · rw [if_pos e, if_pos ⟨by omega, by rw [e]; exact hd⟩]
      · rw [if_neg e, if_neg (fun k => e (by omega))]
    · rw [if_neg hd, if_neg]
      rintro ⟨e, hk⟩
      rw [show a / 4 = gone.toNat by omega] at hk
      exact hd hk
section
variable {hit : List (List Int)} {miss : List Int} (hv : validB hit miss = true)
include hv
theorem coh_fill {s : CacheV} {p : List Int} (hc : s.cont.length = miss.length) (hok : s.Ok miss.length) (hf : s.Fine) (h : Coh s p) {n : Nat} (hn : n < 16) (hx : (n : Int) ∉ s.cont) : Coh (fillC hit miss n s) p := by
  have hmem := (fill_fine hv hc hf hx).2.2
  have hgl : s.cont.getD (s.cont.length - 1) 0 < 16 := by
    have h1 := (valid_facts hv).1
    exact (hok.lines _ (getD_memI s.cont _ 0 (by omega))).2
  have hdn : s.ds.getD n false = false := by
    cases hd : s.ds.getD n false with
    | false => rfl
    | true => exact absurd (hf.held n hd) hx
  have hol := (outV_length s.ws s.cs s.ds (s.cont.getD (s.cont.length - 1) 0)).1
  have cold : ∀ a : Nat, a < 64 → (outV s.ws s.cs s.ds (s.cont.getD (s.cont.length - 1) 0)).2.2.getD (a / 4) false = false → (outV s.ws s.cs s.ds (s.cont.getD (s.cont.length - 1) 0)).2.1.getD a 0 = p.getD a 0 := by
    intro a ha hd
    rw [out_words _ _ _ _ hgl hok.ws]
    split
    · rename_i e
      exact h.hot a ha (hf.held _ e.2)
    · rename_i e
      refine h.cold a ha ?_
      cases hd2 : s.ds.getD (a / 4) false with
      | false => rfl
      | true =>
        have h1 := (out_ds s.ws s.cs s.ds (s.cont.getD (s.cont.length - 1) 0) (a / 4)).2 ⟨hd2, fun e2 => e ⟨e2, hd2⟩⟩
        rw [hd] at h1
        cases h1
  refine ⟨h.len, fun a ha hm => ?_, cold⟩
  show (copyN s.cs (outV s.ws s.cs s.ds (s.cont.getD (s.cont.length - 1) 0)).2.1 (n * 4) 4).getD a 0 = _
  rw [copyN_line _ _ n a hn hok.cs]
  split
  · rename_i e
    refine cold a ha ?_
    cases hd2 : (outV s.ws s.cs s.ds (s.cont.getD (s.cont.length - 1) 0)).2.2.getD (a / 4) false with
    | false => rfl
    | true =>
      have h1 := ((out_ds _ _ _ _ _).1 hd2).1
      rw [e, hdn] at h1
      cases h1
  · rename_i e
    rcases (hmem _ (Int.natCast_nonneg _)).1 hm with e2 | e2
    · exact absurd (Int.ofNat_inj.1 e2) e
    · exact h.hot a ha e2.1
theorem coh_enter {s : CacheV} {p : List Int} (hok : s.Ok miss.length) (hf : s.Fine) (h : Coh s p) {n : Nat} (hn : n < 16) : Coh (enterC hit miss n s) p := by
  unfold enterC
  split
  · rename_i hh
    have hp := step_hit hv hok.cont ((any_mem s.cont n).1 hh)
    exact ⟨h.len, fun a ha hm => h.hot a ha (hp.mem_iff.1 hm), h.cold⟩
  · rename_i hh
    exact coh_fill hv (s := { s with m := s.m + 1 }) hok.cont ⟨hok.ws, hok.cs, hok.ds, hok.cont, hok.lines⟩ ⟨hf.once, hf.held⟩ ⟨h.len, h.hot, h.cold⟩ hn (fun e => hh ((any_mem s.cont n).2 e))
end
theorem set_getD (l : List Int) (a b : Nat) (v : Int) (ha : a < l.length) : (l.set a v).getD b 0 = if b = a then v else l.getD b 0 := by
  rw [List.getD_eq_getElem?_getD]
  split
  · rename_i e
    rw [e, List.getElem?_set_self ha]; rfl
  · rename_i e
    rw [List.getElem?_set_ne (by omega), List.getD_eq_getElem?_getD]
theorem cont_line {hit : List (List Int)} {miss : List Int} (hv : validB hit miss = true) {s : CacheV} (hok : s.Ok miss.length) (hf : s.Fine) (n : Nat) : (n : Int) ∈ (enterC hit miss n s).cont := (enter_fine hv hok.cont hf n).2
theorem coh_access {hit : List (List Int)} {miss : List Int} (hv : validB hit miss = true) {s : CacheV} {p : List Int} (hok : s.Ok miss.length) (hf : s.Fine) (h : Coh s p) (back alloc : Bool) (k : Nat) (q : Int) {a : Nat} (ha : a < 64) :
    Coh (accessC hit miss back alloc k q a s) (if q = 1 then p.set a ((k : Int) + 1) else p) ∧ (accessC hit miss back alloc k q a s).rd = if q = 1 then s.rd else s.rd ++ [p.getD a 0] := by
  have he := coh_enter hv hok hf h (show a / 4 < 16 by omega)
  have hok2 := enterC_ok (fun c x hc => okStep_valid hv c hc x) (fun c x hc => stepV_length hv c hc x) hok (show a / 4 < 16 by omega)
  have hln := cont_line hv hok hf (a / 4)
  have hrd := enterC_rd hit miss (a / 4) s
  have hp : a < p.length := by rw [h.len]; exact ha
  unfold accessC
  by_cases hw : (s.cont.any fun y => decide (y = ((a / 4 : Nat) : Int))) = false ∧ q = 1 ∧ alloc = false
  · rw [if_pos hw, if_pos hw.2.1, if_pos hw.2.1]
    refine ⟨⟨by rw [List.length_set]; exact h.len, fun b hb hm => ?_, fun b hb hd => ?_⟩, rfl⟩
    · have hne : b ≠ a := by
        rintro rfl
        have h1 := (any_mem s.cont ((b / 4 : Nat) : Int)).2 hm
        rw [hw.1] at h1
        cases h1
      rw [set_getD p a b _ hp, if_neg hne]
      exact h.hot b hb hm
    · show (s.ws.set a ((k : Int) + 1)).getD b 0 = _
      rw [set_getD p a b _ hp, set_getD s.ws a b _ (by rw [hok.ws]; exact ha)]
      split
      · rfl
      · exact h.cold b hb hd
  · rw [if_neg hw]
    by_cases hq : q = 1
    · rw [if_pos hq, if_pos hq, if_pos hq]
      unfold writeC
      split
      · refine ⟨⟨by rw [List.length_set]; exact h.len, fun b hb hm => ?_, fun b hb hd => ?_⟩, hrd⟩
        · show ((enterC hit miss (a / 4) s).cs.set a ((k : Int) + 1)).getD b 0 = _
          rw [set_getD p a b _ hp, set_getD _ a b _ (by rw [hok2.cs]; exact ha)]
          split
          · rfl
          · exact he.hot b hb hm
        · have hd' : ((enterC hit miss (a / 4) s).ds.set (a / 4) true).getD (b / 4) false = false := hd
          have hne : b / 4 ≠ a / 4 := by
            intro e
            rw [e, List.getD_eq_getElem?_getD, List.getElem?_set_self (by rw [hok2.ds]; omega)] at hd'
            cases hd'
          rw [List.getD_eq_getElem?_getD, List.getElem?_set_ne (Ne.symm hne), ← List.getD_eq_getElem?_getD] at hd'
          rw [set_getD p a b _ hp, if_neg (fun e => hne (by rw [e]))]
          exact he.cold b hb hd'
      · refine ⟨⟨by rw [List.length_set]; exact h.len, fun b hb hm => ?_, fun b hb hd => ?_⟩, hrd⟩
        · show ((enterC hit miss (a / 4) s).cs.set a ((k : Int) + 1)).getD b 0 = _
          rw [set_getD p a b _ hp, set_getD _ a b _ (by rw [hok2.cs]; exact ha)]
          split
          · rfl
          · exact he.hot b hb hm
        · show ((enterC hit miss (a / 4) s).ws.set a ((k : Int) + 1)).getD b 0 = _
          rw [set_getD p a b _ hp, set_getD _ a b _ (by rw [hok2.ws]; exact ha)]
          split
          · rfl
          · exact he.cold b hb hd
    · rw [if_neg hq, if_neg hq, if_neg hq]
      refine ⟨⟨he.len, he.hot, he.cold⟩, ?_⟩
      show (enterC hit miss (a / 4) s).rd ++ [(enterC hit miss (a / 4) s).cs.getD a 0] = _
      rw [hrd, he.hot a ha hln]
theorem coh_run {hit : List (List Int)} {miss : List Int} (hv : validB hit miss = true) (back alloc : Bool) : ∀ (t : List (Int × Nat)) (k : Nat) (s : CacheV) (p : List Int), (∀ x ∈ t, x.2 < 64) → s.Ok miss.length → s.Fine → Coh s p →
    Coh (runC hit miss back alloc k t s) (plainC k t p s.rd).1 ∧ (runC hit miss back alloc k t s).rd = (plainC k t p s.rd).2 ∧ (runC hit miss back alloc k t s).Ok miss.length ∧ (runC hit miss back alloc k t s).Fine
  | [], _, s, p, _, h1, h2, h3 => ⟨h3, rfl, h1, h2⟩
  | (q, a) :: t, k, s, p, ht, h1, h2, h3 => by
    have ha := ht (q, a) List.mem_cons_self
    obtain ⟨c1, c2⟩ := coh_access hv h1 h2 h3 back alloc k q ha
    have o1 := accessC_ok (fun c x hc => okStep_valid hv c hc x) (fun c x hc => stepV_length hv c hc x) h1 back alloc k q ha
    have f1 := access_fine hv h1.cont h2 back alloc k q a
    have ih := coh_run hv back alloc t (k + 1) (accessC hit miss back alloc k q a s) _ (fun y hy => ht y (List.mem_cons_of_mem _ hy)) o1 f1 c1
    rw [c2] at ih
    show Coh (runC hit miss back alloc (k + 1) t (accessC hit miss back alloc k q a s)) _ ∧ _
    unfold plainC
    split
    · rename_i hq
      rw [if_pos hq, if_pos hq] at ih
      exact ih
    · rename_i hq
      rw [if_neg hq, if_neg hq] at ih
      exact ih
theorem flush_words (cs p : List Int) (hcs : True) : ∀ (l : List Int) (f : Int) (ws : List Int) (ds : List Bool), (∀ y ∈ l, y < 16) → ws.length = 64 → (∀ a : Nat, a < 64 → ds.getD (a / 4) false = false → ws.getD a 0 = p.getD a 0) → (∀ a : Nat, a < 64 → ds.getD (a / 4) false = true → cs.getD a 0 = p.getD a 0) → (∀ n : Nat, ds.getD n false = true → (n : Int) ∈ l) →
    (flushC cs l f ws ds).2.1.length = 64 ∧ ∀ a : Nat, a < 64 → (flushC cs l f ws ds).2.1.getD a 0 = p.getD a 0
  | [], f, ws, ds, _, hl, hc, _, hd => ⟨hl, fun a ha => hc a ha (by
      cases h : ds.getD (a / 4) false with
      | false => rfl
      | true => exact absurd (hd _ h) List.not_mem_nil)⟩
  | y :: l, f, ws, ds, hb, hl, hc, hh, hd => by
    have hy := hb y List.mem_cons_self
    refine flush_words cs p hcs l _ _ _ (fun z hz => hb z (List.mem_cons_of_mem _ hz)) ((outV_length ws cs ds y).1.trans hl) (fun a ha hk => ?_) (fun a ha hk => hh a ha ((out_ds ws cs ds y _).1 hk).1) (fun n hk => ?_)
    · rw [out_words ws cs ds y hy hl]
      split
      · rename_i e
        exact hh a ha e.2
      · rename_i e
        refine hc a ha ?_
        cases h : ds.getD (a / 4) false with
        | false => rfl
        | true =>
          have h1 := (out_ds ws cs ds y (a / 4)).2 ⟨h, fun e2 => e ⟨e2, h⟩⟩
          rw [hk] at h1
          cases h1
    · obtain ⟨h1, h2⟩ := (out_ds ws cs ds y n).1 hk
      rcases List.mem_cons.1 (hd n h1) with e | e
      · exact absurd e h2
      · exact e
theorem list_eq_getD {l m : List Int} (hl : l.length = 64) (hm : m.length = 64) (h : ∀ a : Nat, a < 64 → l.getD a 0 = m.getD a 0) : l = m := by
  apply List.ext_getElem (by rw [hl, hm])
  intro i h1 h2
  have := h i (by omega)
  rwa [getD_lt l i 0 h1, getD_lt m i 0 h2] at this
theorem start_coh (n : Nat) : Coh (startC n) (List.replicate 64 0) := by
  refine ⟨by simp, fun a ha hm => ?_, fun a ha _ => rfl⟩
  have h1 : ((a / 4 : Nat) : Int) ∈ List.replicate n (-1 : Int) := hm
  have h2 := List.eq_of_mem_replicate h1
  omega
/-- Behind the trace, and behind the flush: the reads and the words are those that there are without a cache. -/
theorem end_plain {hit : List (List Int)} {miss : List Int} (hv : validB hit miss = true) (back al : Bool) {t : List S37} (ht : ∀ x ∈ t, ∃ a : Nat, x.f1 = (a : Int) ∧ a < 64 ∧ (x.f0 = 0 ∨ x.f0 = 1)) :
    (cacheEnd hit miss back al t).rd = (plainC 0 (t.map pairA) (List.replicate 64 0) []).2 ∧ (flushE (cacheEnd hit miss back al t)).2.1 = (plainC 0 (t.map pairA) (List.replicate 64 0) []).1 := by
  have hb : ∀ x ∈ t.map pairA, x.2 < 64 := by
    intro x hx
    obtain ⟨y, hy, rfl⟩ := List.mem_map.1 hx
    obtain ⟨a, h1, h2, _⟩ := ht y hy
    show y.f1.toNat < 64
    omega
  obtain ⟨h1, h2, h3, h4⟩ := coh_run hv back al (t.map pairA) 0 (startC miss.length) (List.replicate 64 0) hb (start_ok _) (start_fine _) (start_coh _)
  refine ⟨h2, ?_⟩
  obtain ⟨w1, w2⟩ := flush_words (cacheEnd hit miss back al t).cs (plainC 0 (t.map pairA) (List.replicate 64 0) []).1 trivial (cacheEnd hit miss back al t).cont 0 (cacheEnd hit miss back al t).ws (cacheEnd hit miss back al t).ds (fun y hy => (h3.lines y hy).2) h3.ws h1.cold (fun a ha hk => h1.hot a ha (h4.held _ hk)) (fun n hk => h4.held n hk)
  exact list_eq_getD w1 h1.len w2
theorem Ev.ofMono {α : Type} {g : Nat → Option α} {r : α} (hm : ∀ k, LeO (g k) (g (k + 1))) (K : Nat) (h : g K = some r) : Ev g r := by
  refine ⟨K, fun k hk => ?_⟩
  induction hk with
  | refl => exact h
  | step _ ih => exact hm _ _ ih
def nWays (n : Int) : Prop := n = 1 ∨ n = 2 ∨ n = 3 ∨ n = 4 ∨ n = 6
theorem valid_of {h : List (List Int)} {m : List Int} (h1 : 1 ≤ m.length) (h2 : m.length ≤ 6) (h3 : h.length = m.length) (h4 : orderB m (m.length : Int) = true) (h5 : ∀ y ∈ h, orderB y (m.length : Int) = true) : validB h m = true := by
  unfold validB
  have e : (h.any fun y => !orderB y (m.length : Int)) = false := by
    rw [List.any_eq_false]
    intro y hy
    rw [h5 y hy]
    decide
  rw [e, h4, decide_eq_true h1, decide_eq_true h2, decide_eq_true (show (h.length : Int) = (m.length : Int) by omega)]
  rfl
set_option maxRecDepth 100000 in
theorem drawLru_ev (n : Int) (hn : n = 1 ∨ n = 2 ∨ n = 3 ∨ n = 4 ∨ n = 6) : ∃ h m, Ev (fun k => spec_l03Lru.f k n) (h, m) ∧ validB h m = true ∧ (m.length : Int) = n := by
  rcases hn with rfl | rfl | rfl | rfl | rfl
  · exact ⟨[[0]], [0], Ev.ofMono (fun k => spec_l03Lru.mono _ k) 60 (by kernel_rfl), valid_of (by decide) (by decide) rfl (by rw [orderB_iff]; exact ⟨rfl, by decide, by simp⟩) (by intro y hy; simp only [List.mem_cons, List.not_mem_nil, or_false] at hy; rcases hy with rfl <;> exact (by rw [orderB_iff]; exact ⟨rfl, by decide, by simp⟩)), rfl⟩
  · exact ⟨[[0, 1], [1, 0]], [1, 0], Ev.ofMono (fun k => spec_l03Lru.mono _ k) 60 (by kernel_rfl), valid_of (by decide) (by decide) rfl (by rw [orderB_iff]; exact ⟨rfl, by decide, by simp⟩) (by intro y hy; simp only [List.mem_cons, List.not_mem_nil, or_false] at hy; rcases hy with rfl | rfl <;> exact (by rw [orderB_iff]; exact ⟨rfl, by decide, by simp⟩)), rfl⟩
  · exact ⟨[[0, 1, 2], [1, 0, 2], [2, 0, 1]], [2, 0, 1], Ev.ofMono (fun k => spec_l03Lru.mono _ k) 60 (by kernel_rfl), valid_of (by decide) (by decide) rfl (by rw [orderB_iff]; exact ⟨rfl, by decide, by simp⟩) (by intro y hy; simp only [List.mem_cons, List.not_mem_nil, or_false] at hy; rcases hy with rfl | rfl | rfl <;> exact (by rw [orderB_iff]; exact ⟨rfl, by decide, by simp⟩)), rfl⟩
  · exact ⟨[[0, 1, 2, 3], [1, 0, 2, 3], [2, 0, 1, 3], [3, 0, 1, 2]], [3, 0, 1, 2], Ev.ofMono (fun k => spec_l03Lru.mono _ k) 60 (by kernel_rfl), valid_of (by decide) (by decide) rfl (by rw [orderB_iff]; exact ⟨rfl, by decide, by simp⟩) (by intro y hy; simp only [List.mem_cons, List.not_mem_nil, or_false] at hy; rcases hy with rfl | rfl | rfl | rfl <;> exact (by rw [orderB_iff]; exact ⟨rfl, by decide, by simp⟩)), rfl⟩
  · exact ⟨[[0, 1, 2, 3, 4, 5], [1, 0, 2, 3, 4, 5], [2, 0, 1, 3, 4, 5], [3, 0, 1, 2, 4, 5], [4, 0, 1, 2, 3, 5], [5, 0, 1, 2, 3, 4]], [5, 0, 1, 2, 3, 4], Ev.ofMono (fun k => spec_l03Lru.mono _ k) 60 (by kernel_rfl), valid_of (by decide) (by decide) rfl (by rw [orderB_iff]; exact ⟨rfl, by decide, by simp⟩) (by intro y hy; simp only [List.mem_cons, List.not_mem_nil, or_false] at hy; rcases hy with rfl | rfl | rfl | rfl | rfl | rfl <;> exact (by rw [orderB_iff]; exact ⟨rfl, by decide, by simp⟩)), rfl⟩
set_option maxRecDepth 100000 in
theorem drawFifo_ev (n : Int) (hn : n = 1 ∨ n = 2 ∨ n = 3 ∨ n = 4 ∨ n = 6) : ∃ h m, Ev (fun k => spec_l03Fifo.f k n) (h, m) ∧ validB h m = true ∧ (m.length : Int) = n := by
  rcases hn with rfl | rfl | rfl | rfl | rfl
  · exact ⟨[[0]], [0], Ev.ofMono (fun k => spec_l03Fifo.mono _ k) 60 (by kernel_rfl), valid_of (by decide) (by decide) rfl (by rw [orderB_iff]; exact ⟨rfl, by decide, by simp⟩) (by intro y hy; simp only [List.mem_cons, List.not_mem_nil, or_false] at hy; rcases hy with rfl <;> exact (by rw [orderB_iff]; exact ⟨rfl, by decide, by simp⟩)), rfl⟩
  · exact ⟨[[0, 1], [0, 1]], [1, 0], Ev.ofMono (fun k => spec_l03Fifo.mono _ k) 60 (by kernel_rfl), valid_of (by decide) (by decide) rfl (by rw [orderB_iff]; exact ⟨rfl, by decide, by simp⟩) (by intro y hy; simp only [List.mem_cons, List.not_mem_nil, or_false] at hy; rcases hy with rfl | rfl <;> exact (by rw [orderB_iff]; exact ⟨rfl, by decide, by simp⟩)), rfl⟩
  · exact ⟨[[0, 1, 2], [0, 1, 2], [0, 1, 2]], [2, 0, 1], Ev.ofMono (fun k => spec_l03Fifo.mono _ k) 60 (by kernel_rfl), valid_of (by decide) (by decide) rfl (by rw [orderB_iff]; exact ⟨rfl, by decide, by simp⟩) (by intro y hy; simp only [List.mem_cons, List.not_mem_nil, or_false] at hy; rcases hy with rfl | rfl | rfl <;> exact (by rw [orderB_iff]; exact ⟨rfl, by decide, by simp⟩)), rfl⟩
  · exact ⟨[[0, 1, 2, 3], [0, 1, 2, 3], [0, 1, 2, 3], [0, 1, 2, 3]], [3, 0, 1, 2], Ev.ofMono (fun k => spec_l03Fifo.mono _ k) 60 (by kernel_rfl), valid_of (by decide) (by decide) rfl (by rw [orderB_iff]; exact ⟨rfl, by decide, by simp⟩) (by intro y hy; simp only [List.mem_cons, List.not_mem_nil, or_false] at hy; rcases hy with rfl | rfl | rfl | rfl <;> exact (by rw [orderB_iff]; exact ⟨rfl, by decide, by simp⟩)), rfl⟩
  · exact ⟨[[0, 1, 2, 3, 4, 5], [0, 1, 2, 3, 4, 5], [0, 1, 2, 3, 4, 5], [0, 1, 2, 3, 4, 5], [0, 1, 2, 3, 4, 5], [0, 1, 2, 3, 4, 5]], [5, 0, 1, 2, 3, 4], Ev.ofMono (fun k => spec_l03Fifo.mono _ k) 60 (by kernel_rfl), valid_of (by decide) (by decide) rfl (by rw [orderB_iff]; exact ⟨rfl, by decide, by simp⟩) (by intro y hy; simp only [List.mem_cons, List.not_mem_nil, or_false] at hy; rcases hy with rfl | rfl | rfl | rfl | rfl | rfl <;> exact (by rw [orderB_iff]; exact ⟨rfl, by decide, by simp⟩)), rfl⟩
set_option maxRecDepth 100000 in
theorem drawMru_ev (n : Int) (hn : n = 1 ∨ n = 2 ∨ n = 3 ∨ n = 4 ∨ n = 6) : ∃ h m, Ev (fun k => spec_l03Mru.f k n) (h, m) ∧ validB h m = true ∧ (m.length : Int) = n := by
  rcases hn with rfl | rfl | rfl | rfl | rfl
  · exact ⟨[[0]], [0], Ev.ofMono (fun k => spec_l03Mru.mono _ k) 60 (by kernel_rfl), valid_of (by decide) (by decide) rfl (by rw [orderB_iff]; exact ⟨rfl, by decide, by simp⟩) (by intro y hy; simp only [List.mem_cons, List.not_mem_nil, or_false] at hy; rcases hy with rfl <;> exact (by rw [orderB_iff]; exact ⟨rfl, by decide, by simp⟩)), rfl⟩
  · exact ⟨[[1, 0], [0, 1]], [0, 1], Ev.ofMono (fun k => spec_l03Mru.mono _ k) 60 (by kernel_rfl), valid_of (by decide) (by decide) rfl (by rw [orderB_iff]; exact ⟨rfl, by decide, by simp⟩) (by intro y hy; simp only [List.mem_cons, List.not_mem_nil, or_false] at hy; rcases hy with rfl | rfl <;> exact (by rw [orderB_iff]; exact ⟨rfl, by decide, by simp⟩)), rfl⟩
  · exact ⟨[[1, 2, 0], [0, 2, 1], [0, 1, 2]], [0, 1, 2], Ev.ofMono (fun k => spec_l03Mru.mono _ k) 60 (by kernel_rfl), valid_of (by decide) (by decide) rfl (by rw [orderB_iff]; exact ⟨rfl, by decide, by simp⟩) (by intro y hy; simp only [List.mem_cons, List.not_mem_nil, or_false] at hy; rcases hy with rfl | rfl | rfl <;> exact (by rw [orderB_iff]; exact ⟨rfl, by decide, by simp⟩)), rfl⟩
  · exact ⟨[[1, 2, 3, 0], [0, 2, 3, 1], [0, 1, 3, 2], [0, 1, 2, 3]], [0, 1, 2, 3], Ev.ofMono (fun k => spec_l03Mru.mono _ k) 60 (by kernel_rfl), valid_of (by decide) (by decide) rfl (by rw [orderB_iff]; exact ⟨rfl, by decide, by simp⟩) (by intro y hy; simp only [List.mem_cons, List.not_mem_nil, or_false] at hy; rcases hy with rfl | rfl | rfl | rfl <;> exact (by rw [orderB_iff]; exact ⟨rfl, by decide, by simp⟩)), rfl⟩
  · exact ⟨[[1, 2, 3, 4, 5, 0], [0, 2, 3, 4, 5, 1], [0, 1, 3, 4, 5, 2], [0, 1, 2, 4, 5, 3], [0, 1, 2, 3, 5, 4], [0, 1, 2, 3, 4, 5]], [0, 1, 2, 3, 4, 5], Ev.ofMono (fun k => spec_l03Mru.mono _ k) 60 (by kernel_rfl), valid_of (by decide) (by decide) rfl (by rw [orderB_iff]; exact ⟨rfl, by decide, by simp⟩) (by intro y hy; simp only [List.mem_cons, List.not_mem_nil, or_false] at hy; rcases hy with rfl | rfl | rfl | rfl | rfl | rfl <;> exact (by rw [orderB_iff]; exact ⟨rfl, by decide, by simp⟩)), rfl⟩
set_option maxRecDepth 100000 in
theorem drawTree_ev (n : Int) (hn : n = 2 ∨ n = 4) : ∃ h m, Ev (fun k => spec_l03Tree.f k n) (h, m) ∧ validB h m = true ∧ (m.length : Int) = n := by
  rcases hn with rfl | rfl
  · exact ⟨[[0, 1], [1, 0]], [1, 0], Ev.ofMono (fun k => spec_l03Tree.mono _ k) 60 (by kernel_rfl), valid_of (by decide) (by decide) rfl (by rw [orderB_iff]; exact ⟨rfl, by decide, by simp⟩) (by intro y hy; simp only [List.mem_cons, List.not_mem_nil, or_false] at hy; rcases hy with rfl | rfl <;> exact (by rw [orderB_iff]; exact ⟨rfl, by decide, by simp⟩)), rfl⟩
  · exact ⟨[[0, 1, 2, 3], [1, 0, 2, 3], [2, 3, 0, 1], [3, 2, 0, 1]], [3, 2, 0, 1], Ev.ofMono (fun k => spec_l03Tree.mono _ k) 60 (by kernel_rfl), valid_of (by decide) (by decide) rfl (by rw [orderB_iff]; exact ⟨rfl, by decide, by simp⟩) (by intro y hy; simp only [List.mem_cons, List.not_mem_nil, or_false] at hy; rcases hy with rfl | rfl | rfl | rfl <;> exact (by rw [orderB_iff]; exact ⟨rfl, by decide, by simp⟩)), rfl⟩
set_option maxRecDepth 100000 in
theorem drawSame_ev (n : Int) (hn : nWays n) : ∃ m, Ev (fun k => spec_l03Same.f k n) m ∧ orderB m n = true := by
  rcases hn with rfl | rfl | rfl | rfl | rfl
  · exact ⟨[0], Ev.ofMono (fun k => spec_l03Same.mono _ k) 60 (by kernel_rfl), (by rw [orderB_iff]; exact ⟨rfl, by decide, by simp⟩)⟩
  · exact ⟨[0, 1], Ev.ofMono (fun k => spec_l03Same.mono _ k) 60 (by kernel_rfl), (by rw [orderB_iff]; exact ⟨rfl, by decide, by simp⟩)⟩
  · exact ⟨[0, 1, 2], Ev.ofMono (fun k => spec_l03Same.mono _ k) 60 (by kernel_rfl), (by rw [orderB_iff]; exact ⟨rfl, by decide, by simp⟩)⟩
  · exact ⟨[0, 1, 2, 3], Ev.ofMono (fun k => spec_l03Same.mono _ k) 60 (by kernel_rfl), (by rw [orderB_iff]; exact ⟨rfl, by decide, by simp⟩)⟩
  · exact ⟨[0, 1, 2, 3, 4, 5], Ev.ofMono (fun k => spec_l03Same.mono _ k) 60 (by kernel_rfl), (by rw [orderB_iff]; exact ⟨rfl, by decide, by simp⟩)⟩
theorem next01_f (s : Int) (h0 : 0 ≤ s) (h1 : s ≤ 2147483647) : ∃ v, spec_l01Next.f s = some v ∧ 0 ≤ v ∧ v < 2147483647 := by
  unfold spec_l01Next.f
  rw [wrap_id (by omega) (by omega)]
  exact ⟨_, rfl, Int.tmod_nonneg _ (by omega), Int.tmod_lt_of_pos _ (by omega)⟩
theorem order1_ev : ∀ (i : Nat) (s : Int) (l : List Int), 0 ≤ s → s ≤ 2147483647 → i < l.length → l.length ≤ 1000 → ∃ r s', Ev (fun k => spec_l01Order.l1 k s l (i : Int)) (r, s') ∧ r.Perm l ∧ 0 ≤ s' ∧ s' ≤ 2147483647
  | 0, s, l, h0, h1, _, _ => ⟨l, s, by
      refine Ev.succ ?_
      simp only [spec_l01Order.l1]
      exact Ev.neg (by omega) (Ev.some rfl), List.Perm.refl _, h0, h1⟩
  | i + 1, s, l, h0, h1, hi, hl => by
    obtain ⟨v, hv, hv0, hv1⟩ := next01_f s h0 h1
    have e1 : wrap64 (((i + 1 : Nat) : Int) + 1) = ((i + 2 : Nat) : Int) := by rw [wrap_id (by omega) (by omega)]; omega
    have e2 : wrap64 (((i + 1 : Nat) : Int) - 1) = ((i : Nat) : Int) := by rw [wrap_id (by omega) (by omega)]; omega
    have k0 : 0 ≤ Int.tmod v ((i + 2 : Nat) : Int) := Int.tmod_nonneg _ hv0
    have k1 : Int.tmod v ((i + 2 : Nat) : Int) < ((i + 2 : Nat) : Int) := Int.tmod_lt_of_pos _ (by omega)
    obtain ⟨j, hj⟩ : ∃ j : Nat, Int.tmod v ((i + 2 : Nat) : Int) = (j : Int) := ⟨(Int.tmod v ((i + 2 : Nat) : Int)).toNat, by omega⟩
    have hj2 : j < l.length := by omega
    obtain ⟨r, s', hr, hp, a, b⟩ := order1_ev i v ((l.set (i + 1) (l.getD j 0)).set j (l.getD (i + 1) 0)) hv0 (by omega) (by rw [List.length_set, List.length_set]; omega) (by rw [List.length_set, List.length_set]; exact hl)
    refine ⟨r, s', ?_, hp.trans ?_, a, b⟩
    · refine Ev.succ ?_
      simp only [spec_l01Order.l1]
      rw [e1, e2]
      refine Ev.pos (by omega) (Ev.bindc hv ?_)
      rw [hj]
      have r1 : rd l (j : Int) = l.getD j 0 := rfl
      have r2 : rd l ((i + 1 : Nat) : Int) = l.getD (i + 1) 0 := rfl
      rw [r1, r2, Int.toNat_natCast, Int.toNat_natCast]
      exact Ev.neg (by omega) (Ev.pos (by omega) (Ev.pos (by omega) (Ev.pos (by omega) (Ev.pos (by omega) hr))))
    · rw [getD_lt l j 0 hj2, getD_lt l (i + 1) 0 hi]
      exact List.set_set_perm hi hj2
theorem order0_ev (n : Nat) (hn : 1 ≤ n) (hn6 : n ≤ 6) (s : Int) (h0 : 0 ≤ s) (h1 : s ≤ 2147483647) : ∃ r s', Ev (fun k => spec_l01Order.f k s (n : Int)) (r, s') ∧ orderB r (n : Int) = true ∧ 0 ≤ s' ∧ s' ≤ 2147483647 := by
  obtain ⟨r, s', hr, hp, a, b⟩ := order1_ev (n - 1) s ((List.range n).map fun (j : Nat) => (j : Int)) h0 h1 (by simp; omega) (by simp; omega)
  refine ⟨r, s', ?_, ?_, a, b⟩
  · unfold spec_l01Order.f
    have key : ∀ d i, i + d = n → Ev (fun k => spec_l01Order.l0 k s (n : Int) ((List.range i).map fun (j : Nat) => (j : Int)) (i : Int)) (r, s') := by
      intro d
      induction d with
      | zero =>
        intro i hi
        obtain rfl : i = n := by omega
        refine Ev.succ ?_
        simp only [spec_l01Order.l0]
        rw [show wrap64 ((i : Int) - 1) = ((i - 1 : Nat) : Int) by rw [wrap_id (by omega) (by omega)]; omega]
        exact Ev.neg (by omega) hr
      | succ d ih =>
        intro i hi
        have e : ((List.range i).map fun (j : Nat) => (j : Int)) ++ [(i : Int)] = (List.range (i + 1)).map fun (j : Nat) => (j : Int) := by rw [List.range_succ, List.map_append]; rfl
        have e2 : wrap64 ((i : Int) + 1) = ((i + 1 : Nat) : Int) := by rw [wrap_id (by omega) (by omega)]; omega
        refine Ev.succ ?_
        simp only [spec_l01Order.l0]
        rw [e, e2]
        exact Ev.pos (by omega) (Ev.pos (by simp; omega) (ih (i + 1) (by omega)))
    exact key n 0 (by omega)
  · rw [orderB_iff]
    refine ⟨by rw [hp.length_eq]; simp, fun x hx => ?_, hp.nodup_iff.2 ?_⟩
    · have := hp.mem_iff.1 hx
      obtain ⟨j, hj, rfl⟩ := List.mem_map.1 this
      have := List.mem_range.1 hj
      omega
    · rw [List.nodup_iff_pairwise_ne] at *
      exact List.Pairwise.map _ (fun a b h e => h (by exact_mod_cast e)) (List.nodup_iff_pairwise_ne.1 List.nodup_range)
theorem nWays_nat {n : Int} (h : nWays n) : ∃ m : Nat, n = (m : Int) ∧ 1 ≤ m ∧ m ≤ 6 := by
  rcases h with rfl | rfl | rfl | rfl | rfl
  · exact ⟨1, rfl, by omega, by omega⟩
  · exact ⟨2, rfl, by omega, by omega⟩
  · exact ⟨3, rfl, by omega, by omega⟩
  · exact ⟨4, rfl, by omega, by omega⟩
  · exact ⟨6, rfl, by omega, by omega⟩
theorem seed_ev (n : Nat) (hn : 1 ≤ n) (hn6 : n ≤ 6) (s : Int) (h0 : 0 ≤ s) (h1 : s ≤ 2147483647) : ∃ h m, Ev (fun k => spec_l03Seed.f k (n : Int) s) (h, m) ∧ validB h m = true ∧ (m.length : Int) = n := by
  have key : ∀ d i (s : Int) (acc : List (List Int)), i + d = n → 0 ≤ s → s ≤ 2147483647 → acc.length = i → (∀ y ∈ acc, orderB y (n : Int) = true) → ∃ h m, Ev (fun k => spec_l03Seed.l0 k (n : Int) s (i : Int) acc) (h, m) ∧ h.length = n ∧ (∀ y ∈ h, orderB y (n : Int) = true) ∧ orderB m (n : Int) = true := by
    intro d
    induction d with
    | zero =>
      intro i s acc hi h0 h1 hl ha
      obtain ⟨r, s', hr, ho, _, _⟩ := order0_ev n hn hn6 s h0 h1
      refine ⟨acc, r, Ev.succ ?_, by omega, ha, ho⟩
      simp only [spec_l03Seed.l0]
      exact Ev.neg (by omega) (Ev.bind hr (Ev.some rfl))
    | succ d ih =>
      intro i s acc hi h0 h1 hl ha
      obtain ⟨r, s', hr, ho, a, b⟩ := order0_ev n hn hn6 s h0 h1
      obtain ⟨h, m, he, p⟩ := ih (i + 1) s' (acc ++ [r]) (by omega) a b (by simp; omega) (fun y hy => by
        rcases List.mem_append.1 hy with h2 | h2
        · exact ha y h2
        · rw [List.mem_singleton.1 h2]; exact ho)
      refine ⟨h, m, Ev.succ ?_, p⟩
      simp only [spec_l03Seed.l0]
      rw [show wrap64 ((i : Int) + 1) = ((i + 1 : Nat) : Int) by rw [wrap_id (by omega) (by omega)]; omega]
      exact Ev.pos (by omega) (Ev.bind hr (Ev.pos (by omega) he))
  obtain ⟨h, m, he, p1, p2, p3⟩ := key n 0 s [] (by omega) h0 h1 rfl (fun y hy => by cases hy)
  have hm := ((orderB_iff _ _).1 p3).1
  refine ⟨h, m, he, valid_of (by omega) (by omega) (by omega) (by rw [hm]; exact p3) (fun y hy => by rw [hm]; exact p2 y hy), hm⟩
theorem drawJ_ev (s : List Int) (hs : bytesL s) (n : Int) (hn : nWays n) (i u : Int) (hi0 : 0 ≤ i) (hi1 : i ≤ 1000) : ∃ h m i' u', Ev (fun k => spec_l03DrawOf.j0 k n s i u) (h, m, i', u') ∧ validB h m = true ∧ (m.length : Int) = n ∧ i ≤ i' ∧ i' ≤ i + 10 := by
  obtain ⟨N, hN, hN1, hN6⟩ := nWays_nat hn
  obtain ⟨h, m, e0, hv, hl⟩ := drawLru_ev n hn
  obtain ⟨f1, f2, f3, f4, f5⟩ := valid_facts hv
  obtain ⟨v1, i1, u1, e1, p1, q1, r1, t1⟩ := pick_ok s hs i u n (by omega) (by omega) (by omega)
  obtain ⟨v2, i2, u2, e2, p2, q2, r2, t2⟩ := pick_ok s hs i1 u1 50000 (by omega) (by omega) (by omega)
  have hw : wrap64 (1 + v2) = 1 + v2 := wrap_id (by omega) (by omega)
  obtain ⟨o, s', e3, ho, _, _⟩ := order0_ev N hN1 hN6 (1 + v2) (by omega) (by omega)
  rw [← hN] at e3 ho
  rw [← hw] at e3
  obtain ⟨b1, i3, u3, e4, r3, t3⟩ := one_ok s hs i2 u2 2 (by omega) (by omega) (by omega)
  have hset : ∀ y : List Int, orderB y n = true → validB (h.set v1.toNat y) m = true := by
    intro y hy
    refine valid_of f1 f2 (by rw [List.length_set]; omega) f4 (fun z hz => ?_)
    rcases List.mem_or_eq_of_mem_set hz with h1 | h1
    · exact f5 z h1
    · rw [h1, hl]; exact hy
  by_cases hb : b1 = true
  · refine ⟨h.set v1.toNat o, m, i3, u3, Ev.succ ?_, hset o ho, hl, by omega, by omega⟩
    simp only [spec_l03DrawOf.j0]
    exact Ev.bind e0 (Ev.bindc e1 (Ev.bindc e2 (Ev.bind e3 (Ev.bindc e4 (Ev.pos hb (Ev.pos p1 (Ev.pos (show v1 < (h.length : Int) by omega) (Ev.some rfl))))))))
  · obtain ⟨b2, i4, u4, e5, r4, t4⟩ := one_ok s hs i3 u3 2 (by omega) (by omega) (by omega)
    by_cases hb2 : b2 = true
    · obtain ⟨y, e6, hy⟩ := drawSame_ev n hn
      refine ⟨h.set v1.toNat y, m, i4, u4, Ev.succ ?_, hset y hy, hl, by omega, by omega⟩
      simp only [spec_l03DrawOf.j0]
      exact Ev.bind e0 (Ev.bindc e1 (Ev.bindc e2 (Ev.bind e3 (Ev.bindc e4 (Ev.neg hb (Ev.bindc e5 (Ev.pos hb2 (Ev.bind e6 (Ev.pos p1 (Ev.pos (show v1 < (h.length : Int) by omega) (Ev.some rfl)))))))))))
    · have hol := ((orderB_iff _ _).1 ho).1
      refine ⟨h, o, i4, u4, Ev.succ ?_, valid_of (by omega) (by omega) (by omega) (by rw [hol]; exact ho) (fun y hy => by rw [hol, ← hl]; exact f5 y hy), hol, by omega, by omega⟩
      simp only [spec_l03DrawOf.j0]
      exact Ev.bind e0 (Ev.bindc e1 (Ev.bindc e2 (Ev.bind e3 (Ev.bindc e4 (Ev.neg hb (Ev.bindc e5 (Ev.neg hb2 (Ev.some rfl))))))))
theorem drawOf_ev (s : List Int) (hs : bytesL s) (n : Int) (hn : nWays n) (i u : Int) (hi0 : 0 ≤ i) (hi1 : i ≤ 900) : ∃ h m i' u', Ev (fun k => spec_l03DrawOf.f k s i u n) (h, m, i', u') ∧ validB h m = true ∧ i ≤ i' ∧ i' ≤ i + 20 := by
  obtain ⟨N, hN, hN1, hN6⟩ := nWays_nat hn
  unfold spec_l03DrawOf.f
  obtain ⟨v, i1, u1, e1, p1, q1, r1, t1⟩ := pick_ok s hs i u 7 (by omega) (by omega) (by omega)
  by_cases h0 : v = 0
  · obtain ⟨h, m, e, hv, _⟩ := drawLru_ev n hn
    exact ⟨h, m, i1, u1, Ev.bindc e1 (Ev.pos h0 (Ev.bind e (Ev.some rfl))), hv, by omega, by omega⟩
  by_cases h1 : v = 1
  · obtain ⟨h, m, e, hv, _⟩ := drawFifo_ev n hn
    exact ⟨h, m, i1, u1, Ev.bindc e1 (Ev.neg h0 (Ev.pos h1 (Ev.bind e (Ev.some rfl)))), hv, by omega, by omega⟩
  by_cases h2 : v = 2
  · obtain ⟨h, m, e, hv, _⟩ := drawMru_ev n hn
    exact ⟨h, m, i1, u1, Ev.bindc e1 (Ev.neg h0 (Ev.neg h1 (Ev.pos h2 (Ev.bind e (Ev.some rfl))))), hv, by omega, by omega⟩
  obtain ⟨hj, mj, ij, uj, ej, hvj, _, rj, tj⟩ := drawJ_ev s hs n hn i1 u1 (by omega) (by omega)
  by_cases h3 : v = 3
  · by_cases n2 : n = 2
    · obtain ⟨h, m, e, hv, _⟩ := drawTree_ev n (.inl n2)
      exact ⟨h, m, i1, u1, Ev.bindc e1 (Ev.neg h0 (Ev.neg h1 (Ev.neg h2 (Ev.pos h3 (Ev.pos n2 (Ev.bind e (Ev.some rfl))))))), hv, by omega, by omega⟩
    · by_cases n4 : n = 4
      · obtain ⟨h, m, e, hv, _⟩ := drawTree_ev n (.inr n4)
        exact ⟨h, m, i1, u1, Ev.bindc e1 (Ev.neg h0 (Ev.neg h1 (Ev.neg h2 (Ev.pos h3 (Ev.neg n2 (Ev.pos n4 (Ev.bind e (Ev.some rfl)))))))), hv, by omega, by omega⟩
      · exact ⟨hj, mj, ij, uj, Ev.bindc e1 (Ev.neg h0 (Ev.neg h1 (Ev.neg h2 (Ev.pos h3 (Ev.neg n2 (Ev.neg n4 ej)))))), hvj, by omega, by omega⟩
  by_cases h4 : v = 4
  · obtain ⟨v2, i2, u2, e2, p2, q2, r2, t2⟩ := pick_ok s hs i1 u1 50000 (by omega) (by omega) (by omega)
    have hw : wrap64 (1 + v2) = 1 + v2 := wrap_id (by omega) (by omega)
    obtain ⟨h, m, e, hv, _⟩ := seed_ev N hN1 hN6 (1 + v2) (by omega) (by omega)
    rw [← hN, ← hw] at e
    exact ⟨h, m, i2, u2, Ev.bindc e1 (Ev.neg h0 (Ev.neg h1 (Ev.neg h2 (Ev.neg h3 (Ev.pos h4 (Ev.bindc e2 (Ev.bind e (Ev.some rfl)))))))), hv, by omega, by omega⟩
  · exact ⟨hj, mj, ij, uj, Ev.bindc e1 (Ev.neg h0 (Ev.neg h1 (Ev.neg h2 (Ev.neg h3 (Ev.neg h4 ej))))), hvj, by omega, by omega⟩
theorem b10Cache_ev (s : List Int) (hs : bytesL s) : ∃ h m b1 b2, Ev (fun k => spec_B10Cache.f k s) (h, m, b1, b2) ∧ validB h m = true := by
  obtain ⟨v, i1, u1, e1, p1, q1, r1, t1⟩ := pick_ok s hs 0 0 4 (by omega) (by omega) (by omega)
  obtain ⟨b, i2, u2, e2, r2, t2⟩ := one_ok s hs i1 u1 6 (by omega) (by omega) (by omega)
  have key : ∃ h m i3 u3, Ev (fun k => spec_l03DrawOk.f k s 0 0) (h, m, i3, u3) ∧ validB h m = true ∧ 0 ≤ i3 ∧ i3 ≤ 100 := by
    unfold spec_l03DrawOk.f
    by_cases hb : b = true
    · obtain ⟨h, m, i3, u3, e3, hv, r3, t3⟩ := drawOf_ev s hs 6 (.inr (.inr (.inr (.inr rfl)))) i2 u2 (by omega) (by omega)
      exact ⟨h, m, i3, u3, Ev.bindc e1 (Ev.bindc e2 (Ev.pos hb (Ev.bind e3 (Ev.some rfl)))), hv, by omega, by omega⟩
    · have hw : wrap64 (1 + v) = 1 + v := wrap_id (by omega) (by omega)
      obtain ⟨h, m, i3, u3, e3, hv, r3, t3⟩ := drawOf_ev s hs (1 + v) (by unfold nWays; omega) i2 u2 (by omega) (by omega)
      rw [← hw] at e3
      exact ⟨h, m, i3, u3, Ev.bindc e1 (Ev.bindc e2 (Ev.neg hb (Ev.bind e3 (Ev.some rfl)))), hv, by omega, by omega⟩
  obtain ⟨h, m, i3, u3, e3, hv, r3, t3⟩ := key
  obtain ⟨b1, i4, u4, e4, r4, t4⟩ := one_ok s hs i3 u3 2 (by omega) (by omega) (by omega)
  obtain ⟨b2, i5, u5, e5, r5, t5⟩ := one_ok s hs i4 u4 3 (by omega) (by omega) (by omega)
  refine ⟨h, m, b1, !b2, ?_, hv⟩
  unfold spec_B10Cache.f spec_l00From.f
  exact Ev.bindc rfl (Ev.bind e3 (Ev.bindc e4 (Ev.bindc e5 (Ev.some rfl))))
def okAcc (x : S37) : Prop := 0 ≤ x.f0 ∧ x.f0 ≤ 1 ∧ 0 ≤ x.f1 ∧ x.f1 < 64
theorem b10Trace_l0 (s : List Int) (hs : bytesL s) (few : Int) (hf0 : 1 ≤ few) (hf1 : few ≤ 60) : ∀ (n : Nat) (L0 : List S37) (i u : Int), n ≤ 30 → L0.length + n ≤ 30 → (∀ x ∈ L0, okAcc x) → 0 ≤ i → i ≤ 1000 - 10 * n →
    ∃ L, Ev (fun k => spec_B10Trace.l0 k L0 few (n : Int) s i u) L ∧ L.length ≤ 30 ∧ ∀ x ∈ L, okAcc x := by
  intro n
  induction n with
  | zero =>
    intro L0 i u _ hl hok _ _
    refine ⟨L0, Ev.succ ?_, by omega, hok⟩
    simp only [spec_B10Trace.l0]
    exact Ev.neg (by omega) (Ev.some rfl)
  | succ n ih =>
    intro L0 i u hn hl hok hi0 hi1
    obtain ⟨v1, i1, u1, e1, p1, q1, r1, t1⟩ := pick_ok s hs i u 2 (by omega) (by omega) (by omega)
    obtain ⟨v2, i2, u2, e2, p2, q2, r2, t2⟩ := pick_ok s hs i1 u1 few (by omega) (by omega) (by omega)
    obtain ⟨L, w1, w2, w3⟩ := ih (L0 ++ [(⟨v1, v2⟩ : S37)]) i2 u2 (by omega) (by simp; omega) (fun x hx => by
      rcases List.mem_append.1 hx with h | h
      · exact hok x h
      · obtain rfl : x = ⟨v1, v2⟩ := by simpa using h
        exact ⟨p1, by show v1 ≤ 1; omega, p2, by show v2 < 64; omega⟩) (by omega) (by omega)
    refine ⟨L, Ev.succ ?_, w2, w3⟩
    simp only [spec_B10Trace.l0]
    rw [show wrap64 (((n + 1 : Nat) : Int) - 1) = (n : Int) by rw [wrap_id (by omega) (by omega)]; omega]
    exact Ev.pos (by omega) (Ev.bindc e1 (Ev.bindc e2 (Ev.pos (by omega) w1)))
theorem b10Trace_ev (s : List Int) (hs : bytesL s) : ∃ L, Ev (fun k => spec_B10Trace.f k s) L ∧ traceB L = true := by
  obtain ⟨v0, i0, u0, e0, p0, q0, r0, t0⟩ := pick_ok s hs 0 0 30 (by omega) (by omega) (by omega)
  obtain ⟨v1, i1, u1, e1, p1, q1, r1, t1⟩ := pick_ok s hs i0 u0 30 (by omega) (by omega) (by omega)
  have hw : wrap64 (6 + v0) = 6 + v0 := wrap_id (by omega) (by omega)
  obtain ⟨n, hn⟩ : ∃ n : Nat, v1 = n := ⟨v1.toNat, by omega⟩
  subst hn
  obtain ⟨L, w1, w2, w3⟩ := b10Trace_l0 s hs (6 + v0) (by omega) (by omega) n [] i1 u1 (by omega) (by simp; omega) (by simp) (by omega) (by omega)
  refine ⟨L, ?_, ?_⟩
  · unfold spec_B10Trace.f spec_l00From.f
    rw [← hw] at w1
    exact Ev.bindc rfl (Ev.bindc e0 (Ev.bindc e1 w1))
  · unfold traceB
    rw [Bool.and_eq_true, decide_eq_true_eq]
    refine ⟨by omega, ?_⟩
    rw [Bool.not_eq_true', List.any_eq_false]
    intro x hx
    obtain ⟨a, b, c, d⟩ := w3 x hx
    unfold xpAccess
    rw [decide_eq_true a, decide_eq_true b, decide_eq_true c, decide_eq_true (show x.f1 ≤ 63 by omega)]
    decide
theorem polLen_valid {h : List (List Int)} {m : List Int} (hv : validB h m = true) : polLen h m := by
  obtain ⟨h1, h2, h3, h4, h5⟩ := valid_facts hv
  refine ⟨by omega, fun x hx => ?_, by omega⟩
  have := ((orderB_iff _ _).1 (h5 x hx)).1
  omega
theorem plain_reads : ∀ (k : Nat) (t : List (Int × Nat)) (p r : List Int), (plainC k t p r).2.length ≤ r.length + t.length
  | _, [], p, r => by show r.length ≤ r.length + 0; omega
  | k, (q, a) :: t, p, r => by
    unfold plainC
    rw [List.length_cons]
    split
    · have := plain_reads (k + 1) t (p.set a ((k : Int) + 1)) r
      omega
    · have := plain_reads (k + 1) t p (r ++ [p.getD a 0])
      rw [List.length_append, List.length_singleton] at this
      omega
theorem plain_len : ∀ (k : Nat) (t : List (Int × Nat)) (p r : List Int), (plainC k t p r).1.length = p.length
  | _, [], p, r => rfl
  | k, (q, a) :: t, p, r => by
    unfold plainC
    split
    · exact (plain_len (k + 1) t _ r).trans List.length_set
    · exact plain_len (k + 1) t p _
/-- The number of the last write to an address; v if there is none. -/
def lastC : Nat → List (Int × Nat) → Nat → Int → Int
  | _, [], _, v => v
  | k, (q, b) :: t, a, v => lastC (k + 1) t a (if q = 1 ∧ b = a then (k : Int) + 1 else v)
theorem plain_lastC (a : Nat) (ha : a < 64) : ∀ (t : List (Int × Nat)) (k : Nat) (p r : List Int), p.length = 64 → (∀ x ∈ t, x.2 < 64) → (plainC k t p r).1.getD a 0 = lastC k t a (p.getD a 0)
  | [], k, p, r, _, _ => rfl
  | (q, b) :: t, k, p, r, hp, ht => by
    have hb := ht (q, b) List.mem_cons_self
    unfold plainC lastC
    by_cases hq : q = 1
    · rw [if_pos hq, plain_lastC a ha t (k + 1) _ r (by rw [List.length_set]; exact hp) (fun x hx => ht x (List.mem_cons_of_mem _ hx)), set_getD p b a _ (by rw [hp]; exact hb)]
      by_cases e : a = b
      · rw [if_pos e, if_pos ⟨hq, e.symm⟩]
      · rw [if_neg e, if_neg (fun h => e h.2.symm)]
    · rw [if_neg hq, if_neg (fun h => hq h.1)]
      exact plain_lastC a ha t (k + 1) p _ hp (fun x hx => ht x (List.mem_cons_of_mem _ hx))
theorem plain_last {t : List S37} (ht : ∀ x ∈ t, ∃ a : Nat, x.f1 = (a : Int) ∧ a < 64 ∧ (x.f0 = 0 ∨ x.f0 = 1)) :
    (plainC 0 (t.map pairA) (List.replicate 64 0) []).1.length = 64 ∧ ∀ a : Nat, a < 64 → (plainC 0 (t.map pairA) (List.replicate 64 0) []).1.getD a 0 = lastC 0 (t.map pairA) a 0 := by
  refine ⟨by rw [plain_len]; simp, fun a ha => ?_⟩
  rw [plain_lastC a ha _ 0 _ [] (by simp) (fun x hx => by
    obtain ⟨y, hy, rfl⟩ := List.mem_map.1 hx
    obtain ⟨b, h1, h2, _⟩ := ht y hy
    show y.f1.toNat < 64
    omega)]
  congr 1
  rw [List.getD_eq_getElem?_getD, List.getElem?_replicate, if_pos ha]
  rfl
theorem drop_pair (t : List S37) (i : Nat) (hi : i < t.length) : (t.drop i).map pairA = ((rd_T37 t (i : Int)).f0, (rd_T37 t (i : Int)).f1.toNat) :: (t.drop (i + 1)).map pairA := by
  have e : t.drop i = rd_T37 t (i : Int) :: t.drop (i + 1) := by
    rw [List.drop_eq_getElem_cons hi]
    congr 1
    show _ = t.getD ((i : Int)).toNat _
    rw [Int.toNat_natCast, getD_lt t i _ hi]
  rw [e, List.map_cons]
  rfl
theorem rd_mem (t : List S37) (i : Nat) (hi : i < t.length) : rd_T37 t (i : Int) ∈ t := by
  show t.getD ((i : Int)).toNat _ ∈ t
  rw [Int.toNat_natCast, getD_lt t i _ hi]
  exact List.getElem_mem hi
theorem plainRun_ev (t : List S37) (hl : t.length ≤ 60) (ht : ∀ x ∈ t, ∃ a : Nat, x.f1 = (a : Int) ∧ a < 64 ∧ (x.f0 = 0 ∨ x.f0 = 1)) :
    Ev (fun k => impl_plainRun.f k t) ((plainC 0 (t.map pairA) (List.replicate 64 0) []).2, (plainC 0 (t.map pairA) (List.replicate 64 0) []).1) := by
  unfold impl_plainRun.f
  refine Ev.pos (by decide) ?_
  have key : ∀ d i (p r : List Int), t.length - i = d → i ≤ t.length → p.length = 64 → r.length ≤ i → Ev (fun k => impl_plainRun.l0 k r p t (t.length : Int) (i : Int)) ((plainC i ((t.drop i).map pairA) p r).2, (plainC i ((t.drop i).map pairA) p r).1) := by
    intro d
    induction d with
    | zero =>
      intro i p r hd hi hp hr
      refine Ev.succ ?_
      simp only [impl_plainRun.l0]
      rw [List.drop_eq_nil_of_le (by omega)]
      exact Ev.neg (by omega) (Ev.some rfl)
    | succ d ih =>
      intro i p r hd hi hp hr
      have hi' : i < t.length := by omega
      obtain ⟨a, ha, hal, hk⟩ := ht _ (rd_mem t i hi')
      have e1 : wrap64 ((i : Int) + 1) = (i : Int) + 1 := wrap_id (by omega) (by omega)
      have e3 : ((i + 1 : Nat) : Int) = (i : Int) + 1 := by omega
      refine Ev.succ ?_
      simp only [impl_plainRun.l0]
      rw [drop_pair t i hi', ha, e1, Int.toNat_natCast]
      refine Ev.pos (by omega) (Ev.pos (by omega) (Ev.pos (by omega) ?_))
      unfold plainC
      by_cases hq : (rd_T37 t (i : Int)).f0 = 1
      · rw [if_pos hq]
        have h5 := ih (i + 1) (p.set a ((i : Int) + 1)) r (by omega) (by omega) (by rw [List.length_set]; exact hp) (by omega)
        rw [e3] at h5
        exact Ev.pos hq (Ev.pos (by omega) (Ev.pos (by omega) h5))
      · rw [if_neg hq]
        have h5 := ih (i + 1) p (r ++ [p.getD a 0]) (by omega) (by omega) hp (by simp; omega)
        rw [e3] at h5
        exact Ev.neg hq (Ev.pos (by omega) (Ev.pos (by omega) (Ev.pos (by omega) h5)))
  have := key t.length 0 (List.replicate 64 0) [] (by omega) (by omega) (by simp) (by simp)
  simpa using this
theorem nums_ev (l : List Int) (h : l.length ≤ 1048576) : Ev (fun k => laws_b10Nums.f k l l) true := by
  unfold laws_b10Nums.f
  refine Ev.pos rfl ?_
  have key : ∀ d i, l.length - i = d → i ≤ l.length → Ev (fun k => laws_b10Nums.l0 k l l (i : Int)) true := by
    intro d
    induction d with
    | zero =>
      intro i hd hi
      refine Ev.succ ?_
      simp only [laws_b10Nums.l0]
      exact Ev.neg (by omega) (Ev.some rfl)
    | succ d ih =>
      intro i hd hi
      refine Ev.succ ?_
      simp only [laws_b10Nums.l0]
      rw [wrap_succ (show i < l.length by omega) (by omega)]
      exact Ev.pos (by omega) (Ev.pos (by omega) (Ev.pos (by omega) (Ev.pos (by first | trivial | rfl) (ih (i + 1) (by omega) (by omega)))))
  exact key l.length 0 (by omega) (by omega)
theorem law_l0 (t : List S37) (hl : t.length ≤ 60) (r p : List Int) (hp : p.length = 64) (hr : r.length ≤ 1048576) (hlast : ∀ a : Nat, a < 64 → p.getD a 0 = lastC 0 (t.map pairA) a 0) (ht : ∀ x ∈ t, ∃ a : Nat, x.f1 = (a : Int) ∧ a < 64 ∧ (x.f0 = 0 ∨ x.f0 = 1)) :
    Ev (fun k => laws_FnReads.l0 k t r r p p 0) true := by
  have key : ∀ (d i : Nat), 64 - i = d → i ≤ 64 → Ev (fun k => laws_FnReads.l0 k t r r p p (i : Int)) true := by
    intro d
    induction d with
    | zero =>
      intro i hd hi
      refine Ev.succ ?_
      simp only [laws_FnReads.l0]
      refine Ev.neg (by omega) (Ev.bind (nums_ev r hr) (Ev.pos rfl (Ev.bind (nums_ev p (by omega)) (Ev.some rfl))))
    | succ d ih =>
      intro i hd hi
      refine Ev.succ ?_
      simp only [laws_FnReads.l0]
      refine Ev.pos (by omega) ?_
      have e64 : wrap64 ((i : Int) + 1) = ((i + 1 : Nat) : Int) := by rw [wrap_id (by omega) (by omega)]; omega
      have inner : ∀ (d j : Nat) (v : Int), t.length - j = d → j ≤ t.length → lastC j ((t.drop j).map pairA) i v = p.getD i 0 → Ev (fun k => laws_FnReads.l1 k t r r p p (i : Int) v (j : Int)) true := by
        intro d
        induction d with
        | zero =>
          intro j v hd hj hv
          refine Ev.succ ?_
          simp only [laws_FnReads.l1]
          rw [List.drop_eq_nil_of_le (by omega)] at hv
          have hv' : v = p.getD i 0 := hv
          rw [e64]
          refine Ev.neg (by omega) (Ev.pos (by omega) (Ev.pos (by omega) (Ev.pos ?_ (ih (i + 1) (by omega) (by omega)))))
          show p.getD ((i : Int)).toNat 0 = v
          rw [Int.toNat_natCast, hv']
        | succ d ih2 =>
          intro j v hd hj hv
          have hj' : j < t.length := by omega
          obtain ⟨a, ha, hal, hk⟩ := ht _ (rd_mem t j hj')
          refine Ev.succ ?_
          simp only [laws_FnReads.l1]
          rw [wrap_succ hj' (by omega), ha]
          rw [drop_pair t j hj', ha, Int.toNat_natCast] at hv
          unfold lastC at hv
          refine Ev.pos (by omega) (Ev.pos (by omega) ?_)
          by_cases hq : (rd_T37 t (j : Int)).f0 = 1
          · by_cases e : (a : Int) = (i : Int)
            · rw [if_pos ⟨hq, by omega⟩] at hv
              exact Ev.pos hq (Ev.pos e (ih2 (j + 1) ((j : Int) + 1) (by omega) (by omega) hv))
            · rw [if_neg (fun h => e (by omega))] at hv
              exact Ev.pos hq (Ev.neg e (ih2 (j + 1) v (by omega) (by omega) hv))
          · rw [if_neg (fun h => hq h.1)] at hv
            exact Ev.neg hq (ih2 (j + 1) v (by omega) (by omega) hv)
      exact inner t.length 0 0 (by omega) (by omega) (by rw [List.drop_zero]; exact (hlast i (by omega)).symm)
  exact key 64 0 (by omega) (by omega)
theorem FnReads : laws_FnReads.Pure := by
  intro l0 l1 _ _ b0 _ _ b1
  refine Ev.rounds ?_
  unfold laws_FnReads.f laws_b10Long.f
  by_cases h0 : (l0.length : Int) > 1048576
  · rw [if_pos h0]
    exact Ev.bindc rfl (Ev.pos rfl (Ev.some rfl))
  rw [if_neg h0]
  by_cases h1 : (l1.length : Int) > 1048576
  · exact Ev.bindc rfl (Ev.pos (by rw [decide_eq_true h1]) (Ev.some rfl))
  refine Ev.bindc rfl (Ev.neg (by rw [decide_eq_false h1]; exact Bool.false_ne_true) ?_)
  obtain ⟨h, m, c1, c2, ec, hv⟩ := b10Cache_ev l0 (bytes_wf _ b0)
  obtain ⟨t, et, htb⟩ := b10Trace_ev l1 (bytes_wf _ b1)
  obtain ⟨ht60, htv⟩ := trace_facts htb
  have hok : cacheOk h m t = true := by unfold cacheOk; rw [hv, htb]; rfl
  have hp := polLen_valid hv
  obtain ⟨e1, e2⟩ := end_plain hv c1 c2 htv
  have er : impl_CacheReads.f h m c1 c2 t = some ((plainC 0 (t.map pairA) (List.replicate 64 0) []).2, true) := by
    unfold impl_CacheReads.f readsV
    rw [if_pos ⟨hp, by omega⟩, if_pos hok, e1]
  have em : impl_CacheMemory.f h m c1 c2 t = some ((plainC 0 (t.map pairA) (List.replicate 64 0) []).1, true) := by
    unfold impl_CacheMemory.f memoryV
    rw [if_pos ⟨hp, by omega⟩, if_pos hok, e2]
  obtain ⟨hl, hlast⟩ := plain_last htv
  have hpr := plainRun_ev t ht60 htv
  have evt : impl_ValidTrace.f t = some true := by
    show some (traceB t) = some true
    rw [htb]
  have epr : Ev (fun k => impl_PlainReads.f k t) ((plainC 0 (t.map pairA) (List.replicate 64 0) []).2, true) := by
    unfold impl_PlainReads.f
    exact Ev.bindc evt (Ev.pos rfl (Ev.bind hpr (Ev.some rfl)))
  have epm : Ev (fun k => impl_PlainMemory.f k t) ((plainC 0 (t.map pairA) (List.replicate 64 0) []).1, true) := by
    unfold impl_PlainMemory.f
    exact Ev.bindc evt (Ev.pos rfl (Ev.bind hpr (Ev.some rfl)))
  refine Ev.bind ec (Ev.bind et (Ev.bindc er (Ev.bind epr (Ev.bindc em (Ev.bind epm (Ev.pos rfl (Ev.pos rfl (Ev.pos rfl (Ev.pos rfl ?_)))))))))
  have hne : (((plainC 0 (t.map pairA) (List.replicate 64 0) []).1.length : Int) != 64) = false := by rw [hl]; rfl
  show Ev (fun k => laws_FnReads.j0 k t _ _ _ _ (((plainC 0 (t.map pairA) (List.replicate 64 0) []).1.length : Int) != 64)) true
  rw [hne]
  refine Ev.succ ?_
  simp only [laws_FnReads.j0]
  refine Ev.neg (by decide) ?_
  have hrl : (plainC 0 (t.map pairA) (List.replicate 64 0) []).2.length ≤ 1048576 := by
    have := plain_reads 0 (t.map pairA) (List.replicate 64 0) []
    rw [List.length_map] at this
    simp only [List.length_nil] at this
    omega
  exact law_l0 t ht60 _ _ hl hrl hlast htv
end Go.Proofs.Ytdkpdpdaggnmhaa.Pure
