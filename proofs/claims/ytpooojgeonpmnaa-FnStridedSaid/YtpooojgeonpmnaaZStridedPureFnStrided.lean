/- The law holds for every input: with one stream and one stride, a prefetcher by strides without delay helps all loads from the fourth one on. -/
import Derived.Test.YtpooojgeonpmnaaZStridedPFnStridedx
import Derived.Test.YtpooojgeonpmnaaZStridedX2
namespace Go.Proofs.Ytpooojgeonpmnaa.Pure
open Go.RowKit Go.Proofs.YtpooojgeonpmnaaW.PrintWords Go.Proofs.Ytpooojgeonpmnaa.PFnStrided
set_option linter.unusedVariables false
set_option linter.unusedSimpArgs false
def bytesL (s : List Int) : Prop := ∀ x ∈ s, 0 ≤ x ∧ x ≤ 255
theorem bytes_wf (s : List Int) (h : ∀ x ∈ s, (Lit.int .u8 x).wf = true) : bytesL s := by
  intro x hx
  have := h x hx
  simp only [Lit.wf, Bool.and_eq_true, decide_eq_true_eq] at this
  have e1 : IntKind.min .u8 = 0 := rfl
  have e2 : IntKind.max .u8 = 255 := rfl
  rw [e1, e2] at this
  exact this
theorem at10_ok (l : List Int) (hl : bytesL l) (k n : Int) (hk : 0 ≤ k ∧ k ≤ 1000) (hn : 2 ≤ n) : ∃ a, laws_b10At.f l k n = some a ∧ 0 ≤ a ∧ a < n := by
  unfold laws_b10At.f
  rw [if_neg (by omega)]
  have hmod : ∀ x : Int, 0 ≤ x → x ≤ 1000000 → 0 ≤ Int.tmod (wrap64 x) n ∧ Int.tmod (wrap64 x) n < n := by
    intro x h0 h1
    rw [wrap_id (by omega) (by omega)]
    exact ⟨Int.tmod_nonneg _ h0, Int.tmod_lt_of_pos _ (by omega)⟩
  by_cases h : k < (l.length : Int)
  · rw [if_pos h, if_pos hk.1, if_neg (by omega)]
    have hr := hl (rd l k) (by unfold rd; rw [List.getD_eq_getElem?_getD, List.getElem?_eq_getElem (by omega)]; exact List.getElem_mem _)
    exact ⟨_, rfl, hmod _ (by omega) (by omega)⟩
  · rw [if_neg h, if_neg (by omega)]
    rw [wrap_id (x := k * 37) (by omega) (by omega)]
    exact ⟨_, rfl, hmod _ (by omega) (by omega)⟩
theorem strided_j1 {l1 : List Int} {c : Int} (h1 : laws_b10At.f l1 0 5 = some c) (h2 : laws_b10At.f [c] 0 5 = some c) : ∀ (k : Nat) (L : List S27), laws_FnStrided.j1 k l1 L = laws_FnStrided.j1 k [c] L
  | 0, _ => rfl
  | k + 1, L => by simp only [laws_FnStrided.j1, h1, h2]
theorem strided_l0 {l1 : List Int} {c : Int} (h1 : laws_b10At.f l1 0 5 = some c) (h2 : laws_b10At.f [c] 0 5 = some c) : ∀ (k : Nat) (s x : Int) (L : List S27), laws_FnStrided.l0 k l1 s x L = laws_FnStrided.l0 k [c] s x L
  | 0, _, _, _ => rfl
  | k + 1, s, x, L => by simp only [laws_FnStrided.l0, strided_j1 h1 h2, strided_l0 h1 h2 k]
set_option maxRecDepth 100000 in
theorem strided_all : ∀ (a : Fin 5) (b : Fin 9) (c : Fin 5), laws_FnStrided.l0 60 [(c.val : Int)] (wrap64 (1 + (a.val : Int))) (b.val : Int) [] = some true := by decide +kernel
theorem FnStrided : laws_FnStrided.Pure := by
  intro l0 l1 _ _ b0 _ _ b1
  by_cases h0 : (l0.length : Int) > 1048576
  · refine ⟨0, ?_⟩
    unfold laws_FnStrided.f laws_b10Long.f
    rw [if_pos h0]
    rfl
  by_cases h1 : (l1.length : Int) > 1048576
  · refine ⟨0, ?_⟩
    unfold laws_FnStrided.f laws_b10Long.f
    rw [if_neg h0, decide_eq_true h1]
    rfl
  obtain ⟨a, ea, ha0, ha1⟩ := at10_ok l0 (bytes_wf _ b0) 0 5 (by omega) (by omega)
  obtain ⟨b, eb, hb0, hb1⟩ := at10_ok l0 (bytes_wf _ b0) 1 9 (by omega) (by omega)
  obtain ⟨c, ec, hc0, hc1⟩ := at10_ok l1 (bytes_wf _ b1) 0 5 (by omega) (by omega)
  refine ⟨60, ?_⟩
  unfold laws_FnStrided.f laws_b10Long.f
  rw [if_neg h0, decide_eq_false h1]
  simp only [Option.bind_some, Bool.false_eq_true, if_false, ea, eb]
  have e2 : laws_b10At.f [c] 0 5 = some c := by
    obtain h | h | h | h | h : c = 0 ∨ c = 1 ∨ c = 2 ∨ c = 3 ∨ c = 4 := by omega
    all_goals subst h; decide +kernel
  rw [strided_l0 ec e2]
  have := strided_all ⟨a.toNat, by omega⟩ ⟨b.toNat, by omega⟩ ⟨c.toNat, by omega⟩
  simp only [Int.toNat_of_nonneg ha0, Int.toNat_of_nonneg hb0, Int.toNat_of_nonneg hc0] at this
  exact this
end Go.Proofs.Ytpooojgeonpmnaa.Pure
