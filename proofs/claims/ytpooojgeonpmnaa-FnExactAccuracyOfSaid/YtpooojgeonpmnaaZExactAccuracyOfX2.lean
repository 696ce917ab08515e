/- Steps of plain proofs on functions with rounds: 'from some number of rounds on it answers r'. -/
import Derived.Test.YtpooojgeonpmnaaZExactAccuracyOfX0
namespace Go.Proofs.YtpooojgeonpmnaaW.PrintWords
open Go.RowKit
theorem Ev.pos {β : Type} {c : Prop} [Decidable c] {f g : Nat → Option β} {r : β} (h : c) (k : Ev f r) : Ev (fun n => if c then f n else g n) r := by
  simp only [if_pos h]; exact k
theorem Ev.neg {β : Type} {c : Prop} [Decidable c] {f g : Nat → Option β} {r : β} (h : ¬ c) (k : Ev g r) : Ev (fun n => if c then f n else g n) r := by
  simp only [if_neg h]; exact k
theorem Ev.bindc {α β : Type} {x : Option α} {f : Nat → α → Option β} {a : α} {r : β} (h : x = some a) (k : Ev (fun n => f n a) r) : Ev (fun n => x.bind (f n)) r := by
  subst h; exact k
theorem Ev.succ {β : Type} {g : Nat → Option β} {r : β} (k : Ev (fun n => g (n + 1)) r) : Ev g r := Ev.step (f := fun n => g (n + 1)) (fun _ => rfl) k
theorem Ev.some {β : Type} {r r' : β} (h : r = r') : Ev (fun _ => Option.some r) r' := by subst h; exact Ev.now r
theorem wrap_succ {i n : Nat} (h : i < n) (hn : n ≤ 4611686018427387904) : wrap64 ((i : Int) + 1) = ((i + 1 : Nat) : Int) := by
  unfold wrap64; omega
theorem wrap_id {x : Int} (h0 : -9223372036854775808 ≤ x) (h1 : x ≤ 9223372036854775807) : wrap64 x = x := by unfold wrap64; omega
/-- A loop over the places of a list: what holds ahead of the last round holds from the first on. -/
theorem Ev.upto {σ β : Type} {F : Nat → σ → Int → Option β} {n : Nat} {r : β} (Inv : Nat → σ → Prop)
    (hstep : ∀ i s, i < n → Inv i s → (∀ s', Inv (i + 1) s' → Ev (fun k => F k s' ((i + 1 : Nat) : Int)) r) → Ev (fun k => F k s (i : Int)) r)
    (hend : ∀ s, Inv n s → Ev (fun k => F k s (n : Int)) r) : ∀ i, i ≤ n → ∀ s, Inv i s → Ev (fun k => F k s (i : Int)) r := by
  intro i hi
  obtain ⟨d, hd⟩ : ∃ d, n - i = d := ⟨_, rfl⟩
  induction d generalizing i with
  | zero => intro s hs; obtain rfl : i = n := (by omega); exact hend s hs
  | succ d ih => intro s hs; exact hstep i s (by omega) hs (fun s' hs' => ih (i + 1) (by omega) (by omega) s' hs')
theorem drop_cons {α : Type} (l : List α) (i : Nat) (z : α) (h : i < l.length) : l.drop i = l.getD i z :: l.drop (i + 1) := by
  rw [List.drop_eq_getElem_cons h]
  congr 1
  simp [List.getD_eq_getElem?_getD, h]
theorem take_succ {α : Type} (l : List α) (i : Nat) (z : α) (h : i < l.length) : l.take (i + 1) = l.take i ++ [l.getD i z] := by
  rw [List.take_succ_eq_append_getElem h]
  simp [List.getD_eq_getElem?_getD, h]
theorem getD_lt {α : Type} (l : List α) (i : Nat) (z : α) (h : i < l.length) : l.getD i z = l[i] := by simp [List.getD_eq_getElem?_getD, h]
theorem set_fill {α : Type} (A : List α) (m i : Nat) (z v : α) (h : i = A.length) (hm : 0 < m) : (A ++ List.replicate m z).set i v = (A ++ [v]) ++ List.replicate (m - 1) z := by
  subst h
  obtain ⟨m, rfl⟩ : ∃ q, m = q + 1 := ⟨m - 1, by omega⟩
  rw [List.set_append_right _ _ (Nat.le_refl _)]
  simp [List.replicate_succ]
/-- The next round of a loop that fills a row from another one. -/
theorem fill_next {α β : Type} (f : α → β) (l : List α) (zb : β) (za : α) (i : Nat) (h : i < l.length) (v : β) (hv : v = f (l.getD i za)) :
    ((l.take i).map f ++ List.replicate (l.length - i) zb).set i v = (l.take (i + 1)).map f ++ List.replicate (l.length - (i + 1)) zb := by
  rw [set_fill _ _ _ _ _ (by simp; omega) (by omega), take_succ l i za h, List.map_append, hv, Nat.sub_add_eq]
  rfl
end Go.Proofs.YtpooojgeonpmnaaW.PrintWords
