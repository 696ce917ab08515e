/- Short names, which make printed texts smaller: places in a list, steps of a region whose order is drawn. -/
import Derived.Test.YtpooojgeonpmnaaZExactAccuracyOfX10
import Derived.Tactics
namespace Go.Proofs.YtpooojgeonpmnaaW.PrintWords
set_option linter.unusedVariables false
set_option linter.unusedSimpArgs false
open Go.RowKit Go.Proofs.YtpooojgeonpmnaaW.PrintLast
section
variable {α : Type} {x a b c d e f g h i j k l m : α} {L : List α}
theorem at0 : x ∈ x :: L := List.mem_cons_self
theorem in1 (q : x ∈ L) : x ∈ a :: L := List.mem_cons_of_mem _ q
theorem in2 (q : x ∈ L) : x ∈ a :: b :: L := in1 (in1 q)
theorem in3 (q : x ∈ L) : x ∈ a :: b :: c :: L := in1 (in2 q)
theorem at1 : x ∈ a :: x :: L := in1 at0
theorem at2 : x ∈ a :: b :: x :: L := in1 at1
theorem at3 : x ∈ a :: b :: c :: x :: L := in1 at2
theorem at4 : x ∈ a :: b :: c :: d :: x :: L := in1 at3
theorem at5 : x ∈ a :: b :: c :: d :: e :: x :: L := in1 at4
theorem at6 : x ∈ a :: b :: c :: d :: e :: f :: x :: L := in1 at5
theorem at7 : x ∈ a :: b :: c :: d :: e :: f :: g :: x :: L := in1 at6
theorem at8 : x ∈ a :: b :: c :: d :: e :: f :: g :: h :: x :: L := in1 at7
end
section
variable {x a b c d e f g h i j : Thing × Nat × Nat} {L : List (Thing × Nat × Nat)}
theorem tk1 : Take x (a :: x :: L) (a :: L) := .there .here
theorem tk2 : Take x (a :: b :: x :: L) (a :: b :: L) := .there tk1
theorem tk3 : Take x (a :: b :: c :: x :: L) (a :: b :: c :: L) := .there tk2
theorem tk4 : Take x (a :: b :: c :: d :: x :: L) (a :: b :: c :: d :: L) := .there tk3
theorem tk5 : Take x (a :: b :: c :: d :: e :: x :: L) (a :: b :: c :: d :: e :: L) := .there tk4
theorem tk6 : Take x (a :: b :: c :: d :: e :: f :: x :: L) (a :: b :: c :: d :: e :: f :: L) := .there tk5
theorem tk7 : Take x (a :: b :: c :: d :: e :: f :: g :: x :: L) (a :: b :: c :: d :: e :: f :: g :: L) := .there tk6
theorem tk8 : Take x (a :: b :: c :: d :: e :: f :: g :: h :: x :: L) (a :: b :: c :: d :: e :: f :: g :: h :: L) := .there tk7
theorem tk9 : Take x (a :: b :: c :: d :: e :: f :: g :: h :: i :: x :: L) (a :: b :: c :: d :: e :: f :: g :: h :: i :: L) := .there tk8
end
section
variable {P : Program} {md : Region.Mode} {ops : Array Oper} {Q : Exit → Act → World → Prop} {S : World → Prop} {ds : List Nat}
/-- A step of the act: what is put where. -/
theorem nrm_ : (∀ (a : Act) (t : Tmp) (v : Value), a.put (some t) v = { a with tmps := a.tmps.setIfInBounds t v }) ∧ (∀ (l : List Value) (i : Nat) (v : Value), l.toArray.setIfInBounds i v = (l.set i v).toArray) ∧ (∀ (x v : Value) (l : List Value), (x :: l).set 0 v = v :: l) ∧ (∀ (x v : Value) (l : List Value) (n : Nat), (x :: l).set (n + 1) v = x :: l.set n v) :=
  ⟨fun _ _ _ => rfl, fun _ _ _ => List.setIfInBounds_toArray .., fun _ _ _ => rfl, fun _ _ _ _ => rfl⟩
theorem pu_ {i : Nat} {N : Option Tmp} {oi : Oper} {v : Value} {fuel : Nat} {l : Array Bool} {a a' : Act} {w : World} (hi : ops[i]? = some oi := by rfl) (hN : oi.dst = N := by rfl) (hc : anyB md ops l (l.setIfInBounds i true) i = true := by kernel_rfl)
    (hQ : ∀ c a w, Q (.panic c) (a.put oi.dst v) w → Q (.panic c) a w := by exact fun _ _ _ h => h) (hw : Region.wanted oi (yielded ops a.tmps) = true := by rfl) (hy : ∀ w', (execOp a.eval oi).run P w' = .ok (.value v) w' := by intro _; go_simp; with_reducible rfl) (ha : a.put N v = a' := by simp only [nrm_, i64_w, i32_w]; rfl)
    (h : wpAnyLast P md ops Q S ds fuel (l.setIfInBounds i true) a' w) : wpAnyLast P md ops Q S ds (fuel + 1) l a w :=
  pure_ _ hi hN hc hQ (.inl ⟨hw, hy⟩) ha h
theorem ta_ {i : Nat} {N : Option Tmp} {oi : Oper} {v : Value} {fuel : Nat} {l : Array Bool} {a a' : Act} {w : World} (hi : ops[i]? = some oi := by rfl) (hN : oi.dst = N := by rfl) (hc : takeB md ops ds l (l.setIfInBounds i true) i = true := by kernel_rfl)
    (hQ : ∀ c a w, Q (.panic c) (a.put oi.dst v) w → Q (.panic c) a w := by exact fun _ _ _ h => h) (hw : Region.wanted oi (yielded ops a.tmps) = true := by rfl) (hS : S w) (hy : ∀ w', S w' → (execOp a.eval oi).run P w' = .ok (.value v) w') (ha : a.put N v = a' := by simp only [nrm_, i64_w, i32_w]; rfl)
    (h : wpAnyLast P md ops Q S ds fuel (l.setIfInBounds i true) a' w) : wpAnyLast P md ops Q S ds (fuel + 1) l a w :=
  take_ _ hi hN hc hQ (.inl ⟨hw, hy⟩) hS ha h
end
end Go.Proofs.YtpooojgeonpmnaaW.PrintWords
