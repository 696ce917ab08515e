/- The law holds for every input: under lru the contents of few ways are the first of those of more ways. -/
import Derived.Test.YtpndbaomhcehdaaZLruIncludedPFnLruIncludedx
import Derived.Test.YtpndbaomhcehdaaZLruIncludedX2
import Derived.Test.YtpndbaomhcehdaaZLruIncludedX7
namespace Go.Proofs.Ytpndbaomhcehdaa.Pure
open Go.RowKit Go.Proofs.YtpndbaomhcehdaaW.PrintWords Go.Proofs.Ytpndbaomhcehdaa.PFnLruIncluded
set_option linter.unusedVariables false
set_option linter.unusedSimpArgs false

theorem getD_mem {α : Type} (l : List α) (i : Nat) (z : α) (h : i < l.length) : l.getD i z ∈ l := by rw [getD_lt l i z h]; exact List.getElem_mem h
theorem rising_range : ∀ (s : List Int) (a : Int), s.Pairwise (· < ·) → (∀ x ∈ s, a ≤ x ∧ x ≤ a + s.length - 1) → s = (List.range s.length).map fun (j : Nat) => a + (j : Int)
  | [], _, _, _ => rfl
  | x :: t, a, hp, hb => by
    rw [List.pairwise_cons] at hp
    have hx := hb x List.mem_cons_self
    have ht : t = (List.range t.length).map fun (j : Nat) => (a + 1) + (j : Int) := by
      refine rising_range t (a + 1) hp.2 (fun y hy => ?_)
      have h1 := hp.1 y hy
      have h2 := hb y (List.mem_cons_of_mem _ hy)
      rw [List.length_cons] at h2
      omega
    have e : x = a := by
      by_cases h0 : t.length = 0
      · rw [List.length_cons] at hx; omega
      · have hm : (a + 1) ∈ t := by
          rw [ht]
          exact List.mem_map.2 ⟨0, by simp only [List.mem_range, List.length_map, List.length_range]; omega, by simp⟩
        have := hp.1 _ hm
        omega
    subst e
    rw [List.length_cons, List.range_succ_eq_map, List.map_cons, List.map_map]
    congr 1
    · simp
    · conv => lhs; rw [ht]
      refine List.map_congr_left (fun j _ => ?_)
      simp only [Function.comp_apply]
      omega
theorem orderB_iff (l : List Int) (n : Int) : orderB l n = true ↔ (l.length : Int) = n ∧ (∀ x ∈ l, 0 ≤ x ∧ x ≤ n - 1) ∧ l.Nodup := by
  unfold orderB
  rw [Bool.and_eq_true, decide_eq_true_eq, decide_eq_true_eq]
  constructor
  · rintro ⟨h1, h2⟩
    have hp := sortI_perm l
    refine ⟨h1, fun x hx => ?_, ?_⟩
    · have hx' := hp.mem_iff.2 hx
      rw [h2] at hx'
      obtain ⟨j, hj, rfl⟩ := List.mem_map.1 hx'
      rw [List.mem_range] at hj
      omega
    · refine hp.nodup_iff.1 ?_
      rw [h2]
      unfold List.Nodup
      rw [List.pairwise_map]
      exact List.Pairwise.imp (fun h => by omega) (List.pairwise_lt_range (n := l.length))
  · rintro ⟨h1, h2, h3⟩
    refine ⟨h1, ?_⟩
    have hp := sortI_perm l
    have hn : (sortI l).Nodup := hp.nodup_iff.2 h3
    have hlt : (sortI l).Pairwise (· < ·) := by
      have a := (sortI_le l)
      exact (List.Pairwise.and a hn).imp (fun h => by omega)
    have := rising_range (sortI l) 0 hlt (fun x hx => by
      have := h2 x (hp.mem_iff.1 hx)
      rw [sortI_length]; omega)
    rw [this, sortI_length]
    refine List.map_congr_left (fun j _ => ?_)
    omega
theorem bits_255 (x : Int) : 0 ≤ Go.bits .and .u64 x 255 ∧ Go.bits .and .u64 x 255 ≤ 255 := by
  have h : ((BitVec.ofInt 64 x &&& BitVec.ofInt 64 255).toNat) ≤ 255 := by rw [BitVec.toNat_and]; exact Nat.le_trans Nat.and_le_right (by decide)
  have e : Go.bits .and .u64 x 255 = IntKind.u64.wrap ((BitVec.ofInt 64 x &&& BitVec.ofInt 64 255).toNat : Int) := rfl
  rw [e]
  generalize (BitVec.ofInt 64 x &&& BitVec.ofInt 64 255).toNat = m at h
  have e2 : IntKind.u64.wrap (m : Int) = (m : Int) % (2 ^ 64 : Int) := rfl
  rw [e2]
  omega
def bytesL (s : List Int) : Prop := ∀ x ∈ s, 0 ≤ x ∧ x ≤ 255
theorem next_ok (s : List Int) (hs : bytesL s) (i u : Int) (h0 : 0 ≤ i) (h1 : i ≤ 1000000000) : ∃ v u', spec_l00Src_next.f s i u = some (v, i + 1, u') ∧ 0 ≤ v ∧ v ≤ 255 := by
  have e1 : wrap64 (i + 1) = i + 1 := wrap_id (by omega) (by omega)
  unfold spec_l00Src_next.f
  rw [e1]
  by_cases hl : i < (s.length : Int)
  · rw [if_pos hl, if_pos h0, if_pos (by omega)]
    have hm : rd s i ∈ s := by
      show s.getD i.toNat 0 ∈ s
      exact getD_mem s i.toNat 0 (by omega)
    have hb := hs _ hm
    exact ⟨_, _, rfl, by rw [wrap_id (by omega) (by omega)]; exact hb.1, by rw [wrap_id (by omega) (by omega)]; exact hb.2⟩
  · rw [if_neg hl]
    by_cases h2 : i + 1 ≤ (s.length : Int)
    · rw [if_pos h2]; exact ⟨_, _, rfl, by omega, by omega⟩
    · rw [if_neg h2]
      refine ⟨_, _, rfl, ?_, ?_⟩
      · have := bits_255 ((IntKind.u64.wrap ((IntKind.u64.wrap (IntKind.u64.wrap (u * 6364136223846793005))) + 1442695040888963407)) / 1099511627776)
        rw [wrap_id (by omega) (by omega)]; exact this.1
      · have := bits_255 ((IntKind.u64.wrap ((IntKind.u64.wrap (IntKind.u64.wrap (u * 6364136223846793005))) + 1442695040888963407)) / 1099511627776)
        rw [wrap_id (by omega) (by omega)]; exact this.2
theorem pick_ok (s : List Int) (hs : bytesL s) (i u n : Int) (h0 : 0 ≤ i) (h1 : i ≤ 900000000) (hn : n ≤ 65536) : ∃ v i' u', spec_l00Src_pick.f s i u n = some (v, i', u') ∧ 0 ≤ v ∧ (v < n ∨ v = 0) ∧ i ≤ i' ∧ i' ≤ i + 2 := by
  unfold spec_l00Src_pick.f
  by_cases h : n ≤ 1
  · rw [if_pos h]; exact ⟨0, i, u, rfl, by omega, .inr rfl, by omega, by omega⟩
  · rw [if_neg h]
    obtain ⟨v, u', e, hv0, hv1⟩ := next_ok s hs i u h0 (by omega)
    rw [e, Option.bind_some]
    dsimp only
    by_cases h2 : n > 200
    · rw [if_pos h2]
      obtain ⟨v2, u2, e2, hw0, hw1⟩ := next_ok s hs (i + 1) u' (by omega) (by omega)
      rw [e2, Option.bind_some]
      dsimp only
      rw [if_neg (by omega), wrap_id (x := v * 256) (by omega) (by omega), wrap_id (x := v * 256 + v2) (by omega) (by omega)]
      exact ⟨_, _, _, rfl, Int.tmod_nonneg _ (by omega), .inl (Int.tmod_lt_of_pos _ (by omega)), by omega, by omega⟩
    · rw [if_neg h2, if_neg (by omega)]
      exact ⟨_, _, _, rfl, Int.tmod_nonneg _ (by omega), .inl (Int.tmod_lt_of_pos _ (by omega)), by omega, by omega⟩
theorem bytes_wf (s : List Int) (h : ∀ x ∈ s, (Lit.int .u8 x).wf = true) : bytesL s := by
  intro x hx
  have := h x hx
  simp only [Lit.wf, Bool.and_eq_true, decide_eq_true_eq] at this
  have e1 : IntKind.min .u8 = 0 := rfl
  have e2 : IntKind.max .u8 = 255 := rfl
  rw [e1, e2] at this
  exact this
theorem xIdx_one (p : Int → Bool) (y : Int) (r : List Int) (a : Int) (h : p y = true) : xIdx p (y :: r) a = a := by simp [xIdx, h]
theorem xIdx_two (p : Int → Bool) (y : Int) (r : List Int) (a : Int) (h : ¬ p y = true) : xIdx p (y :: r) a = xIdx p r (a + 1) := by simp [xIdx, h]
theorem xIdx_take (p : Int → Bool) : ∀ (l : List Int) (n : Nat) (a : Int), 0 ≤ a → xIdx p (l.take n) a = if xIdx p l a < a + n then xIdx p l a else -1
  | [], n, a, h => by
    have e : xIdx p [] a = -1 := rfl
    rw [List.take_nil, e, ite_self]
  | y :: r, 0, a, h => by
    have := xIdx_ge p (y :: r) a
    rw [List.take_zero, show xIdx p [] a = -1 from rfl]
    generalize xIdx p (y :: r) a = q at this ⊢
    by_cases hq : q < a + ((0 : Nat) : Int)
    · rw [if_pos hq]; omega
    · rw [if_neg hq]
  | y :: r, n + 1, a, h => by
    rw [List.take_succ_cons]
    by_cases hp : p y = true
    · rw [xIdx_one p y _ a hp, xIdx_one p y _ a hp, if_pos (by omega)]
    · rw [xIdx_two p y _ a hp, xIdx_two p y _ a hp, xIdx_take p r n (a + 1) (by omega)]
      generalize xIdx p r (a + 1) = q
      by_cases hq : q < a + 1 + n
      · rw [if_pos hq, if_pos (by omega)]
      · rw [if_neg hq, if_neg (by omega)]
theorem xIdx_hit (p : Int → Bool) : ∀ (l : List Int) (a : Int), a ≤ xIdx p l a → 0 ≤ a → p (l.getD (xIdx p l a - a).toNat 0) = true
  | [], a, h, h0 => by simp [xIdx] at h; omega
  | y :: r, a, h, h0 => by
    simp only [xIdx] at h ⊢
    by_cases hp : p y = true
    · rw [if_pos hp]; simpa using hp
    · rw [if_neg hp] at h ⊢
      have hg : a + 1 ≤ xIdx p r (a + 1) := by rcases xIdx_ge p r (a + 1) with q | q <;> omega
      have := xIdx_hit p r (a + 1) hg (by omega)
      rw [show (xIdx p r (a + 1) - a).toNat = (xIdx p r (a + 1) - (a + 1)).toNat + 1 by omega, List.getD_cons_succ]
      exact this
theorem eraseIdx_map' {α β : Type} (f : α → β) : ∀ (l : List α) (i : Nat), (l.eraseIdx i).map f = (l.map f).eraseIdx i
  | [], i => by simp
  | x :: l, 0 => by simp
  | x :: l, i + 1 => by simp [eraseIdx_map' f l i]
theorem asc_map (c : List Int) : (asc c.length).map (fun j => rd c j) = c := by
  apply List.ext_getElem (by simp [asc])
  intro i h1 h2
  simp only [asc, List.map_map, List.getElem_map, List.getElem_range, Function.comp]
  show c.getD (Int.toNat (i : Int)) 0 = c[i]
  rw [Int.toNat_natCast, getD_lt c i 0 h2]
theorem moved_map (c : List Int) (i : Nat) (n : Nat) (hn : c.length = n) : (movedV n i).map (fun j => rd c j) = c.getD i 0 :: c.eraseIdx i := by
  subst hn
  unfold movedV
  rw [List.map_cons, eraseIdx_map', asc_map]
  rfl
theorem erase_set (c : List Int) (x : Int) : ∀ i, (c.set i x).eraseIdx i = c.eraseIdx i := by
  induction c with
  | nil => intro i; rfl
  | cons y r ih => intro i; cases i with
    | zero => rfl
    | succ i => simp [ih i]
def ageP (c : List Int) (x : Int) : Int := xIdx (fun y => decide (y = x)) c 0
def lruJ (c : List Int) (x : Int) : Nat := if 0 ≤ ageP c x then (ageP c x).toNat else c.length - 1
def lruV (c : List Int) (x : Int) : List Int := x :: c.eraseIdx (lruJ c x)
theorem ageP_lt (c : List Int) (x : Int) : ageP c x = -1 ∨ 0 ≤ ageP c x ∧ ageP c x < c.length := by
  have := xIdx_ge (fun y => decide (y = x)) c 0
  unfold ageP; omega
theorem lruJ_lt (c : List Int) (x : Int) (h : 1 ≤ c.length) : lruJ c x < c.length := by
  have := ageP_lt c x
  unfold lruJ; split <;> omega
theorem lruV_length (c : List Int) (x : Int) (h : 1 ≤ c.length) : (lruV c x).length = c.length := by
  have := lruJ_lt c x h
  unfold lruV
  rw [List.length_cons, List.length_eraseIdx, if_pos this]
  omega
theorem lruV_take (c : List Int) (x : Int) (n : Nat) (h1 : 1 ≤ n) (hn : n ≤ c.length) : lruV (c.take n) x = (lruV c x).take n := by
  have hl : (c.take n).length = n := by rw [List.length_take]; omega
  have ha : ageP (c.take n) x = if ageP c x < n then ageP c x else -1 := by
    unfold ageP
    rw [xIdx_take _ _ _ _ (Int.le_refl _), Int.zero_add]
  have hlt := ageP_lt c x
  obtain ⟨m, rfl⟩ : ∃ m, n = m + 1 := ⟨n - 1, by omega⟩
  have hj : lruJ (c.take (m + 1)) x = lruJ c x ∨ lruJ (c.take (m + 1)) x = m := by
    unfold lruJ
    rw [ha, hl]
    by_cases h : ageP c x < ((m + 1 : Nat) : Int)
    · rw [if_pos h]
      by_cases h0 : 0 ≤ ageP c x
      · rw [if_pos h0, if_pos h0]; exact .inl rfl
      · rw [if_neg h0]; right; omega
    · rw [if_neg h, if_neg (by decide)]; right; omega
  have hle : lruJ (c.take (m + 1)) x ≤ lruJ c x := by
    unfold lruJ
    rw [ha, hl]
    by_cases h : ageP c x < ((m + 1 : Nat) : Int)
    · rw [if_pos h]
      by_cases h0 : 0 ≤ ageP c x
      · rw [if_pos h0, if_pos h0]; exact Nat.le_refl _
      · rw [if_neg h0, if_neg h0]; omega
    · rw [if_neg h, if_neg (by decide), if_pos (by omega)]; omega
  have hm := lruJ_lt (c.take (m + 1)) x (by omega)
  rw [hl] at hm
  unfold lruV
  rw [List.take_succ_cons]
  congr 1
  generalize lruJ (c.take (m + 1)) x = j1 at hj hle hm ⊢
  generalize lruJ c x = j2 at hj hle ⊢
  apply List.ext_getElem?
  intro i
  rw [List.getElem?_eraseIdx, List.getElem?_take, List.getElem?_take, List.getElem?_take, List.getElem?_eraseIdx]
  by_cases hi : i < m
  · by_cases h : i < j1
    · rw [if_pos h, if_pos (by omega), if_pos hi, if_pos (by omega)]
    · rw [if_neg h, if_pos (by omega), if_pos hi, if_neg (by omega)]
  · rw [if_neg hi]
    by_cases h : i < j1
    · omega
    · rw [if_neg h, if_neg (by omega)]
theorem moved_ok : ∀ n : Nat, n ≤ 6 → ∀ i, i < n → (movedV n i).length = n ∧ (∀ x ∈ movedV n i, 0 ≤ x ∧ x ≤ (n : Int) - 1) ∧ (movedV n i).Nodup := by
  intro n hn
  obtain rfl | rfl | rfl | rfl | rfl | rfl | rfl : n = 0 ∨ n = 1 ∨ n = 2 ∨ n = 3 ∨ n = 4 ∨ n = 5 ∨ n = 6 := by omega
  all_goals decide
def lruH (n : Nat) : List (List Int) := (List.range n).map (movedV n)
def lruM (n : Nat) : List Int := movedV n (n - 1)
theorem lru_order (n i : Nat) (hn : n ≤ 6) (hi : i < n) : orderB (movedV n i) (n : Int) = true := by
  obtain ⟨a, b, c⟩ := moved_ok n hn i hi
  exact (orderB_iff _ _).2 ⟨by omega, b, c⟩
theorem lru_valid (n : Nat) (h1 : 1 ≤ n) (hn : n ≤ 6) : impl_ValidPolicy.f (lruH n) (lruM n) = some true := by
  have hm : (lruM n).length = n := (moved_ok n hn (n - 1) (by omega)).1
  have hh : (lruH n).length = n := by simp [lruH]
  have hi : ∀ y ∈ lruH n, ∃ i, i < n ∧ y = movedV n i := by
    intro y hy
    simp only [lruH, List.mem_map, List.mem_range] at hy
    obtain ⟨i, hi, rfl⟩ := hy
    exact ⟨i, hi, rfl⟩
  unfold impl_ValidPolicy.f
  rw [if_pos ⟨by omega, fun y hy => by obtain ⟨i, hi, rfl⟩ := hi y hy; have := (moved_ok n hn i hi).1; omega⟩]
  have e : validB (lruH n) (lruM n) = true := by
    unfold validB
    have ho : orderB (lruM n) (n : Int) = true := lru_order n (n - 1) hn (by omega)
    have ha : ((lruH n).any fun y => !orderB y (n : Int)) = false := by
      rw [List.any_eq_false]
      intro y hy
      obtain ⟨i, hi, rfl⟩ := hi y hy
      rw [lru_order n i hn hi]
      simp
    rw [hm, ho, ha, decide_eq_true h1, decide_eq_true hn, hh, decide_eq_true rfl]
    rfl
  rw [e]
theorem permuted_ev (l o : List Int) (hl : o.length ≤ 1048576) (ho : ∀ j ∈ o, 0 ≤ j ∧ j < (l.length : Int)) : Ev (fun k => impl_permuted.f k l o) (o.map fun j => rd l j) := by
  unfold impl_permuted.f
  refine Ev.upto (F := fun k s i => impl_permuted.l0 k l s o (o.length : Int) i) (n := o.length) (r := o.map fun j => rd l j) (fun i s => s = (o.take i).map fun j => rd l j) ?_ ?_ 0 (Nat.zero_le _) _ (by simp)
  · intro i s hi hs ih
    have hsl : s.length ≤ 1048576 := by rw [hs, List.length_map, List.length_take]; omega
    have hrd : rd o (i : Int) = o.getD i 0 := rfl
    have hj := ho _ (getD_mem o i 0 hi)
    refine Ev.succ ?_
    simp only [impl_permuted.l0]
    rw [hrd, wrap_succ hi (by omega)]
    refine Ev.pos (by omega) (Ev.pos (by omega) (Ev.pos (by omega) (Ev.pos hj.1 (Ev.pos hj.2 (Ev.pos (by omega) (ih _ ?_))))))
    rw [take_succ o i 0 hi, List.map_append, hs]
    rfl
  · intro s hs
    refine Ev.succ ?_
    simp only [impl_permuted.l0]
    exact Ev.neg (by omega) (Ev.some (by rw [hs, List.take_length]))
theorem lru_step (n : Nat) (h1 : 1 ≤ n) (hn : n ≤ 6) (c : List Int) (hc : c.length = n) (x : Int) : ∃ d b, Ev (fun k => impl_Policy_step.f k (lruH n) (lruM n) c x) (lruV c x, d, b) := by
  have hage := ageP_lt c x
  have hh : (lruH n).length = n := by simp [lruH]
  have hix : Ev (fun k => slices_Index_int64_int64.f k c x) (ageP c x) := xInIdx_ev c x (by omega)
  unfold impl_Policy_step.f
  by_cases hp : 0 ≤ ageP c x
  · have hlt : (ageP c x).toNat < n := by omega
    obtain ⟨o1, o2, _⟩ := moved_ok n hn _ hlt
    have er : rd_L2 (lruH n) (ageP c x) = movedV n (ageP c x).toNat := by
      show (lruH n).getD (ageP c x).toNat [] = _
      rw [getD_lt _ _ _ (by omega)]
      simp [lruH]
    refine ⟨-1, true, Ev.bind hix (Ev.pos hp (Ev.pos hp (Ev.pos (by omega) ?_)))⟩
    rw [er]
    refine Ev.bind (permuted_ev c _ (by omega) (fun j hj => by have := o2 j hj; omega)) (Ev.some ?_)
    rw [moved_map c _ n hc]
    have := xIdx_hit (fun y => decide (y = x)) c 0 hp (Int.le_refl _)
    rw [show (xIdx (fun y => decide (y = x)) c 0 - 0).toNat = (ageP c x).toNat by unfold ageP; simp, decide_eq_true_eq] at this
    rw [this]
    unfold lruV lruJ
    rw [if_pos hp]
  · obtain ⟨o1, o2, _⟩ := moved_ok n hn (n - 1) (by omega)
    refine ⟨rd c ((c.length : Int) - 1), false, Ev.bind hix (Ev.neg hp (Ev.bindc (show slices_Clone_int64_int64.f c = some c by unfold slices_Clone_int64_int64.f; rw [if_pos (by omega)]) ?_))⟩
    rw [wrap_id (by omega) (by omega)]
    refine Ev.pos (by omega) (Ev.pos (by omega) ?_)
    have e : ((c.length : Int) - 1).toNat = n - 1 := by omega
    rw [e]
    refine Ev.bind (permuted_ev _ (lruM n) (by show (movedV n (n - 1)).length ≤ _; omega) (fun j hj => by rw [List.length_set]; have := o2 j hj; omega)) (Ev.some ?_)
    unfold lruM
    rw [moved_map _ (n - 1) n (by rw [List.length_set]; exact hc), erase_set, getD_lt _ _ _ (by rw [List.length_set]; omega), List.getElem_set_self]
    unfold lruV lruJ
    rw [if_neg hp, hc]
theorem in_take (c : List Int) (n : Nat) (h : c.length ≤ 1048576) : impl_isIn.f (c.take n) c = some true := by
  unfold impl_isIn.f
  rw [if_pos h]
  have : ((c.take n).any fun a => inB c a) = false := by
    rw [List.any_eq_false]
    intro a ha
    have hm : (c.any fun y => decide (y = a)) = true := List.any_eq_true.2 ⟨a, List.mem_of_mem_take ha, by simp⟩
    unfold inB
    rw [hm]
    simp
  unfold isInB
  rw [this]
  rfl
theorem lru_break (n m : Nat) (h1 : 1 ≤ n) (hnm : n ≤ m) (hm : m ≤ 6) (u : List Int) (hu : u.length ≤ 60) : Ev (fun k => impl_firstBreak.f k (lruH n) (lruM n) (lruH m) (lruM m) u) (-1) := by
  have ln : (lruM n).length = n := (moved_ok n (by omega) (n - 1) (by omega)).1
  have lm : (lruM m).length = m := (moved_ok m hm (m - 1) (by omega)).1
  have key : ∀ d i (c : List Int), u.length - i = d → i ≤ u.length → c.length = m → Ev (fun k => impl_firstBreak.l0 k (c.take n) c u (u.length : Int) (i : Int) (lruH n) (lruM n) (lruH m) (lruM m)) (-1) := by
    intro d
    induction d with
    | zero =>
      intro i c hd hi hc
      refine Ev.succ ?_
      simp only [impl_firstBreak.l0]
      exact Ev.neg (by omega) (Ev.some rfl)
    | succ d ih =>
      intro i c hd hi hc
      have hlt : i < u.length := by omega
      obtain ⟨d1, b1, s1⟩ := lru_step n h1 (by omega) (c.take n) (by rw [List.length_take]; omega) (rd u (i : Int))
      obtain ⟨d2, b2, s2⟩ := lru_step m (by omega) hm c hc (rd u (i : Int))
      have hl := lruV_length c (rd u (i : Int)) (by omega)
      rw [lruV_take c _ n h1 (by omega)] at s1
      have hn := ih (i + 1) (lruV c (rd u (i : Int))) (by omega) (by omega) (by omega)
      refine Ev.succ ?_
      simp only [impl_firstBreak.l0]
      rw [wrap_succ hlt (by omega)]
      refine Ev.pos (by omega) (Ev.pos (by omega) (Ev.pos (by omega) (Ev.bind s1 (Ev.bind s2 (Ev.bindc (in_take _ n (by omega)) (Ev.pos rfl ?_))))))
      exact hn
  have e : ∀ j (h : List (List Int)) (o : List Int), o.length = j → 1 ≤ j → j ≤ 6 → impl_Policy_empty.f h o = some (List.replicate j (-1)) := by
    intro j h o ho h1 h2
    unfold impl_Policy_empty.f
    rw [if_pos ⟨by omega, by omega⟩, ho]
  unfold impl_firstBreak.f
  refine Ev.bindc (e n _ _ ln h1 (by omega)) (Ev.bindc (e m _ _ lm (by omega) hm) ?_)
  have := key u.length 0 (List.replicate m (-1)) (by omega) (by omega) List.length_replicate
  rw [List.take_replicate, Nat.min_eq_left hnm] at this
  exact this
theorem draw1_ev (s : List Int) (hs : bytesL s) (base : List Int) (hb0 : 1 ≤ base.length) (hb1 : base.length ≤ 64) (hb : ∀ x ∈ base, 0 ≤ x ∧ x ≤ 63) : ∀ (n : Nat) (out : List Int) (i v : Int), n ≤ 64 → 0 ≤ i → i + 2 * n ≤ 900000000 → out.length + n ≤ 1048576 → (∀ x ∈ out, 0 ≤ x ∧ x ≤ 63) →
    ∃ r, Ev (fun k => spec_l02DrawFew.l1 k (n : Int) base out s i v) r ∧ r.1.length = out.length + n ∧ ∀ x ∈ r.1, 0 ≤ x ∧ x ≤ 63
  | 0, out, i, v, _, _, _, _, ho => by
    refine ⟨(out, i, v), Ev.succ ?_, rfl, ho⟩
    simp only [spec_l02DrawFew.l1]
    exact Ev.neg (by decide) (Ev.some rfl)
  | n + 1, out, i, v, hn, h0, hi, hl, ho => by
    obtain ⟨p, i', v', e, hp0, hp1, hi1, hi2⟩ := pick_ok s hs i v (base.length : Int) h0 (by omega) (by omega)
    have hlt : p < (base.length : Int) := by rcases hp1 with q | q <;> omega
    have hm := hb _ (getD_mem base p.toNat 0 (by omega))
    obtain ⟨r, hr, hr1, hr2⟩ := draw1_ev s hs base hb0 hb1 hb n (out ++ [rd base p]) i' v' (by omega) (by omega) (by omega) (by rw [List.length_append, List.length_singleton]; omega) (fun x hx => by
      rcases List.mem_append.1 hx with hx | hx
      · exact ho x hx
      · rw [List.mem_singleton.1 hx]; exact hm)
    refine ⟨r, Ev.succ ?_, by rw [hr1, List.length_append, List.length_singleton]; omega, hr2⟩
    simp only [spec_l02DrawFew.l1]
    have ea : spec_l00Src_among.f s i v base = some (rd base p, i', v') := by
      unfold spec_l00Src_among.f
      rw [e, Option.bind_some]
      dsimp only
      rw [if_pos hp0, if_pos hlt]
    refine Ev.pos (by omega) (Ev.bindc ea (Ev.pos (by omega) ?_))
    dsimp only
    rw [show wrap64 (((n + 1 : Nat) : Int) - 1) = (n : Int) by rw [wrap_id (by omega) (by omega)]; omega]
    exact hr
theorem draw0_ev (s : List Int) (hs : bytesL s) (n q : Nat) (hn : n ≤ 64) (hq1 : 1 ≤ q) (hq : q ≤ 8) : ∀ (d j : Nat) (base : List Int) (i v : Int), q - j = d → j ≤ q → base.length = j → 0 ≤ i → i + 2 * d ≤ 800000000 → (∀ x ∈ base, 0 ≤ x ∧ x ≤ 63) →
    ∃ r, Ev (fun k => spec_l02DrawFew.l0 k (n : Int) (q : Int) base (j : Int) s i v) r ∧ r.1.length = n ∧ ∀ x ∈ r.1, 0 ≤ x ∧ x ≤ 63
  | 0, j, base, i, v, hd, hj, hl, h0, hi, hb => by
    obtain ⟨r, hr, hr1, hr2⟩ := draw1_ev s hs base (by omega) (by omega) hb n [] i v hn h0 (by omega) (by simp; omega) (fun x hx => absurd hx List.not_mem_nil)
    refine ⟨r, Ev.succ ?_, by simpa using hr1, hr2⟩
    simp only [spec_l02DrawFew.l0]
    exact Ev.neg (by omega) hr
  | d + 1, j, base, i, v, hd, hj, hl, h0, hi, hb => by
    obtain ⟨p, i', v', e, hp0, hp1, hi1, hi2⟩ := pick_ok s hs i v 64 h0 (by omega) (by omega)
    obtain ⟨r, hr, hr1, hr2⟩ := draw0_ev s hs n q hn hq1 hq d (j + 1) (base ++ [p]) i' v' (by omega) (by omega) (by rw [List.length_append, List.length_singleton]; omega) (by omega) (by omega) (fun x hx => by
      rcases List.mem_append.1 hx with hx | hx
      · exact hb x hx
      · rw [List.mem_singleton.1 hx]; rcases hp1 with q | q <;> omega)
    refine ⟨r, Ev.succ ?_, hr1, hr2⟩
    simp only [spec_l02DrawFew.l0]
    rw [wrap_succ (show j < q by omega) (by omega)]
    exact Ev.pos (by omega) (Ev.bindc e (Ev.pos (by omega) hr))
theorem uses_ev (s : List Int) (hs : bytesL s) : ∃ u, Ev (fun k => spec_R8Uses.f k s) u ∧ u.length ≤ 60 ∧ ∀ x ∈ u, 0 ≤ x ∧ x ≤ 63 := by
  obtain ⟨p, i, v, e, hp0, hp1, hi1, hi2⟩ := pick_ok s hs 0 0 14 (by omega) (by omega) (by omega)
  obtain ⟨q, i', v', e', hq0, hq1, hi1', hi2'⟩ := pick_ok s hs i v 5 (by omega) (by omega) (by omega)
  obtain ⟨n, rfl⟩ : ∃ n : Nat, p = n := ⟨p.toNat, by omega⟩
  obtain ⟨m, rfl⟩ : ∃ m : Nat, q = m := ⟨q.toNat, by omega⟩
  obtain ⟨r, hr, hr1, hr2⟩ := draw0_ev s hs n (m + 1) (by omega) (by omega) (by omega) (m + 1) 0 [] i' v' (by omega) (by omega) rfl (by omega) (by omega) (fun x hx => absurd hx List.not_mem_nil)
  refine ⟨r.1, ?_, by omega, hr2⟩
  unfold spec_R8Uses.f
  refine Ev.bindc (show spec_l00From.f s = some (s, 0, 0) from rfl) (Ev.bindc e (Ev.bindc e' ?_))
  dsimp only
  rw [show wrap64 (1 + (m : Int)) = ((m + 1 : Nat) : Int) by rw [wrap_id (by omega) (by omega)]; omega]
  refine Ev.bind (a := r) ?_ (Ev.some rfl)
  unfold spec_l02DrawFew.f
  exact hr
theorem at_ok (l : List Int) (hl : bytesL l) (k n : Int) (h0 : 0 ≤ k) (hn1 : 1 ≤ n) : ∃ a, laws_r8At.f l k n = some a ∧ 0 ≤ a ∧ a < n := by
  unfold laws_r8At.f
  by_cases h : n ≤ 1
  · rw [if_pos h]; exact ⟨0, rfl, Int.le_refl _, by omega⟩
  rw [if_neg h]
  by_cases h2 : k ≥ (l.length : Int)
  · rw [if_pos h2]; exact ⟨0, rfl, Int.le_refl _, by omega⟩
  rw [if_neg h2, if_pos h0, if_pos (by omega), if_neg (by omega)]
  have hm : rd l k ∈ l := getD_mem l k.toNat 0 (by omega)
  have := hl _ hm
  rw [wrap_id (by omega) (by omega)]
  exact ⟨_, rfl, Int.tmod_nonneg _ this.1, Int.tmod_lt_of_pos _ (by omega)⟩
theorem lru_f (n : Nat) (h1 : 1 ≤ n) (hn : n ≤ 6) : impl_LruPolicy.f (n : Int) = some (lruH n, lruM n, true) := by
  unfold impl_LruPolicy.f
  rw [if_pos ⟨by omega, by omega⟩, Int.toNat_natCast]
  rfl
theorem FnLruIncluded : laws_FnLruIncluded.Pure := by
  intro l0 l1 hl0 _ hw0 hl1 _ hw1
  have b0 : bytesL l0 := bytes_wf l0 hw0
  have b1 : bytesL l1 := bytes_wf l1 hw1
  refine Ev.rounds ?_
  unfold laws_FnLruIncluded.f
  obtain ⟨t, ht⟩ : ∃ t, laws_r8Long.f l0 l1 = some t := by unfold laws_r8Long.f; split <;> exact ⟨_, rfl⟩
  refine Ev.bindc ht ?_
  cases t with
  | true => exact Ev.pos rfl (Ev.some rfl)
  | false =>
    obtain ⟨u, hu, hul, hur⟩ := uses_ev l0 b0
    obtain ⟨a, ea, ha0, ha1⟩ := at_ok l1 b1 0 6 (by omega) (by omega)
    have w1 : wrap64 (1 + a) = 1 + a := wrap_id (by omega) (by omega)
    have w2 : wrap64 (6 - (1 + a)) = 6 - (1 + a) := wrap_id (by omega) (by omega)
    have w3 : wrap64 (6 - (1 + a) + 1) = 6 - (1 + a) + 1 := wrap_id (by omega) (by omega)
    obtain ⟨b, eb, hb0, hb1⟩ := at_ok l1 b1 1 (6 - (1 + a) + 1) (by omega) (by omega)
    have w4 : wrap64 (1 + a + b) = 1 + a + b := wrap_id (by omega) (by omega)
    obtain ⟨n, hn⟩ : ∃ n : Nat, 1 + a = (n : Int) := ⟨(1 + a).toNat, by omega⟩
    obtain ⟨m, hm⟩ : ∃ m : Nat, 1 + a + b = (m : Int) := ⟨(1 + a + b).toNat, by omega⟩
    have hbr := lru_break n m (by omega) (by omega) (by omega) u hul
    have hinc : impl_isInclusion.f (lruH n) (lruM n) (lruH m) (lruM m) u = some true := by
      unfold impl_isInclusion.f
      rw [lru_valid n (by omega) (by omega), Option.bind_some, if_pos rfl, lru_valid m (by omega) (by omega), Option.bind_some, if_pos rfl]
      unfold impl_ValidUses.f impl_allIn.f
      rw [if_pos (by omega)]
      have : (u.any fun n => !(decide (0 ≤ n) && decide (n ≤ 63))) = false := by
        rw [List.any_eq_false]
        intro x hx
        have := hur x hx
        rw [decide_eq_true this.1, decide_eq_true this.2]
        simp
      unfold xAll
      rw [this]
      rfl
    have i1 : Ev (fun k => impl_Includes.f k (lruH n) (lruM n) (lruH m) (lruM m) u) (true, true) := by
      unfold impl_Includes.f
      exact Ev.bindc hinc (Ev.pos rfl (Ev.bind hbr (Ev.some rfl)))
    have i2 : Ev (fun k => impl_FirstBreak.f k (lruH n) (lruM n) (lruH m) (lruM m) u) (0, false) := by
      unfold impl_FirstBreak.f
      exact Ev.bindc hinc (Ev.pos rfl (Ev.bind hbr (Ev.pos (by decide) (Ev.some rfl))))
    refine Ev.neg (by decide) (Ev.bind hu (Ev.bindc ea ?_))
    rw [w1, w2, w3]
    refine Ev.bindc eb ?_
    rw [w4, hm, hn, lru_f n (by omega) (by omega), lru_f m (by omega) (by omega)]
    exact Ev.bindc rfl (Ev.bindc rfl (Ev.bind i1 (Ev.bind i2 (Ev.pos rfl (Ev.pos rfl (Ev.pos rfl (Ev.pos rfl (Ev.some rfl))))))))
