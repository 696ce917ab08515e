/- What a datum of the claim's form reads as, told in the print's kinds: one theorem a kind of type. -/
import Derived.Test.YtpooojgeonpmnaaZExactAccuracyOfWWords
import Derived.Test.YtpooojgeonpmnaaZExactAccuracyOfWLast
import Derived.Test.YtpooojgeonpmnaaZExactAccuracyOfWMore
import Derived.Deep.Slices
import Derived.Deep.Fields
import Derived.ChangeSame
import Derived.OpenShut
import Derived.ProofKit
namespace Go.Proofs.YtpooojgeonpmnaaW.PrintWords
open Go.RowKit Go.ChangeShapes Go.WideShapes Go.Deep
/-- Whatever is read at type t is of the kind d. -/
def Opn (P : Program) {α : Type} (d : Kd α) (t : TypeId) (wf : α → Prop) : Prop :=
  ∀ {H : Type} (enc : TypeId × Value → H) (w : World) (base : Nat) (spare : Nat → Bool) (held : Bool) (fuel : Nat) (cs : List Value) (x : DataW H × List MemPlace),
    DataW.trod enc P w base spare held fuel t cs = some x → ∃ a, d.K w a cs ∧ wf a
theorem Opn.int {P : Program} {t : TypeId} {k : IntKind} (ht : P.underlying t = some (.int k)) : Opn P (Kd.int k) t (fun n => (Lit.int k n).wf = true) := by
  intro H enc w base spare held fuel cs x h
  obtain ⟨n, rfl, _, hw⟩ := DataW.trod_int ht h
  exact ⟨n, rfl, hw⟩
theorem Opn.bool {P : Program} {t : TypeId} (ht : P.underlying t = some .bool) : Opn P Kd.bool t (fun _ => True) := by
  intro H enc w base spare held fuel cs x h
  obtain ⟨n, rfl, _⟩ := DataW.trod_bool ht h
  exact ⟨n, rfl, trivial⟩
theorem exists_row {α : Type} (Q : Nat → α → Prop) : ∀ n, (∀ i, i < n → ∃ a, Q i a) → ∃ l : List α, l.length = n ∧ ∀ i a, l[i]? = some a → Q i a
  | 0, _ => ⟨[], rfl, by simp⟩
  | n + 1, h => by
    obtain ⟨l, hl, hq⟩ := exists_row Q n (fun i hi => h i (by omega))
    obtain ⟨a, ha⟩ := h n (by omega)
    refine ⟨l ++ [a], by simp [hl], fun i b hb => ?_⟩
    by_cases hi : i < n
    · rw [List.getElem?_append_left (by omega)] at hb
      exact hq i b hb
    · rw [List.getElem?_append_right (by omega)] at hb
      have h0 : i - l.length = 0 := by
        have := (List.getElem?_eq_some_iff.1 hb).1
        simp at this
        omega
      rw [h0] at hb
      have : i = n := by omega
      subst this
      simp at hb
      rw [← hb]; exact ha
theorem Opn.slice {P : Program} {t e : TypeId} {α : Type} {d : Kd α} {wf : α → Prop} (ht : P.underlying t = some (.slice e)) (he : P.cellsOf e = d.sz) (hd : Opn P d e wf) : Opn P (Kd.slice e d) t (fun l => l.length ≤ 9223372036854775807 ∧ ∀ a ∈ l, wf a) := by
  intro H enc w base spare held fuel cs x h
  rcases DataW.trod_slice ht h with ⟨rfl, _⟩ | ⟨a, len, cap, elems, rest, n, _, rfl, _, hb, hl, hm, hlen, hel, _, _⟩
  · exact ⟨[], ⟨none, 0, rfl, Nat.le_refl _, rfl, by simp, fun h0 => absurd h0 (Nat.lt_irrefl _)⟩, by simp, by simp⟩
  · obtain ⟨l, hll, hq⟩ := exists_row (fun i (b : α) => (∃ c, d.K w b c ∧ ∀ j u, c[j]? = some u → w.cell? (a.add (i * d.sz + j)) = some u) ∧ wf b) len (fun i hi => by
      have h1 := hel i hi
      rw [List.getElem?_eq_getElem (by omega), he] at h1
      obtain ⟨c, hc, ht'⟩ := Option.bind_eq_some_iff.1 h1
      obtain ⟨b, hk, hw⟩ := hd enc w base spare held n c _ ht'
      obtain ⟨_, hcl, hat⟩ := World.cells?_some hc
      exact ⟨b, ⟨c, hk, fun j u hj => by
        have hjl : j < d.sz := by have := (List.getElem?_eq_some_iff.1 hj).1; omega
        rw [← Go.Deep.add_add, hat j hjl, hj]⟩, hw⟩)
    refine ⟨l, ⟨some a, cap, by rw [hll], by omega, rfl, by unfold maxLen at hm; omega, fun _ => ⟨a, rfl, fun j p hp => ?_⟩⟩, by unfold maxLen at hm; omega, fun b hb' => ?_⟩
    · obtain ⟨⟨c, hk, hc⟩, _⟩ := hq j p hp
      exact ⟨c, d.K_len hk, hk, hc⟩
    · obtain ⟨i, hi⟩ := List.getElem?_of_mem hb'
      exact (hq i b hi).2
theorem Opn.field {P : Program} {t : TypeId} {fs : Array Field} {H : Type} {enc : TypeId × Value → H} {w : World} {base : Nat} {spare : Nat → Bool} {held : Bool} {fuel : Nat} {cs : List Value} {x : DataW H × List MemPlace}
    (ht : P.underlying t = some (.struct fs)) (h : DataW.trod enc P w base spare held fuel t cs = some x) (j : Nat) (f : Field) (hj : fs[j]? = some f) {n : Nat} (hn : P.cellsOf f.type = n) :
    ∃ m y, DataW.trod enc P w base spare held m f.type ((cs.drop f.offset).take n) = some y := by
  obtain ⟨xs, m, _, _, _, hlen, hg⟩ := DataW.trod_struct ht h
  have h1 := hg j f hj
  have hjl : j < fs.size := (Array.getElem?_eq_some_iff.1 hj).1
  rw [List.getElem?_eq_getElem (by omega), hn] at h1
  exact ⟨m, _, h1⟩
theorem Opn.len {P : Program} {t : TypeId} {fs : Array Field} {H : Type} {enc : TypeId × Value → H} {w : World} {base : Nat} {spare : Nat → Bool} {held : Bool} {fuel : Nat} {cs : List Value} {x : DataW H × List MemPlace}
    (ht : P.underlying t = some (.struct fs)) (h : DataW.trod enc P w base spare held fuel t cs = some x) : cs.length = P.cellsOf t := by
  obtain ⟨_, _, _, _, hc, _, _⟩ := DataW.trod_struct ht h
  exact hc
/-- A struct's cells, one after another. -/
theorem Opn.struct2 {P : Program} {t : TypeId} {f0 f1 : Field} {α β γ : Type} {d0 : Kd α} {d1 : Kd β} {g : γ → α × β} {g' : α → β → γ} {w0 : α → Prop} {w1 : β → Prop} (ht : P.underlying t = some (.struct #[f0, f1])) (hg : ∀ a b, g (g' a b) = (a, b))
    (n0 : P.cellsOf f0.type = 1) (n1 : P.cellsOf f1.type = 1) (o0 : f0.offset = 0) (o1 : f1.offset = 1) (hc : P.cellsOf t = 2) (h0 : Opn P d0 f0.type w0) (h1 : Opn P d1 f1.type w1) : Opn P (Kd.iso (Kd.pair d0 d1) g) t (fun _ => True) := by
  intro H enc w base spare held fuel cs x h
  have hl := (Opn.len ht h).trans hc
  obtain ⟨_, y0, e0⟩ := Opn.field ht h 0 f0 rfl n0
  obtain ⟨_, y1, e1⟩ := Opn.field ht h 1 f1 rfl n1
  match cs, hl with
  | [c0, c1], _ =>
    rw [o0] at e0; rw [o1] at e1
    obtain ⟨a, ka, _⟩ := h0 enc w base spare held _ _ _ e0
    obtain ⟨b, kb, _⟩ := h1 enc w base spare held _ _ _ e1
    refine ⟨g' a b, ?_, trivial⟩
    show (Kd.pair d0 d1).K w (g (g' a b)) _
    rw [hg]
    exact ⟨[c0], [c1], rfl, ka, kb⟩
end Go.Proofs.YtpooojgeonpmnaaW.PrintWords
