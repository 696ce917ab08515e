/- A statement that makes several things in an order that is left open: each is made once, whatever the order. -/
import Derived.Test.YtpooojgeonpmnaaZExactAccuracyOfX11
namespace Go.Proofs.YtpooojgeonpmnaaW.PrintWords
set_option linter.unusedVariables false
set_option linter.unusedSimpArgs false
open Go.RowKit Go.Proofs.YtpooojgeonpmnaaW.PrintLast
def subs : List Nat → List (List Nat)
  | [] => [[]]
  | x :: r => subs r ++ (subs r).map (x :: ·)
theorem mem_subs : ∀ {M U : List Nat}, U.Sublist M → U ∈ subs M
  | [], U, h => by rw [List.sublist_nil.1 h]; exact List.mem_singleton.2 rfl
  | x :: r, U, h => by
    rw [subs, List.mem_append]
    cases h with
    | cons _ h => exact .inl (mem_subs h)
    | cons_cons _ h => exact .inr (List.mem_map.2 ⟨_, mem_subs h, rfl⟩)
def makersB (md : Region.Mode) (ops : Array Oper) (ds M : List Nat) (Lm : List Nat → Array Bool) : Bool :=
  decide M.Nodup && (M.all (fun i => decide (i ∉ ds)) && (subs M).all fun U => (U == [] || Region.ready md ops (Lm U) == U) && U.all fun i => (Lm U).setIfInBounds i true == Lm (U.erase i))
def upd (xs : Nat → Value) (i : Nat) (v : Value) : Nat → Value := fun j => if j = i then v else xs j
section
variable {P : Program} {md : Region.Mode} {ops : Array Oper} {Q : Exit → Act → World → Prop} {S : World → Prop} {ds : List Nat} {w0 : World} {R : List (Thing × Nat × Nat)}
/-- What a maker does: whatever else is held, it yields a value and what that value leads to. -/
def Makes (P : Program) (ops : Array Oper) (Q : Exit → Act → World → Prop) (w0 : World) (R : List (Thing × Nat × Nat)) (A : (Nat → Value) → Act) (item : Nat → Value → Thing) (i : Nat) : Prop :=
  ∃ o, ops[i]? = some o ∧ (∀ xs v, (A xs).put o.dst v = A (upd xs i v)) ∧
    ∀ xs W L, Hold w0 W L → (∀ x ∈ R, x ∈ L) → ∀ K : Act → World → Prop, (∀ v lo hi W', Hold w0 W' ((item i v, lo, hi) :: L) → K ((A xs).put o.dst v) W') →
      if Region.wanted o (yielded ops (A xs).tmps) = true then Oper.wp P o (A xs) W K Q else K ((A xs).put o.dst undef) W
theorem makers_ {M : List Nat} (Lm : List Nat → Array Bool) (A : (Nat → Value) → Act) (item : Nat → Value → Thing) {fuel : Nat} {W : World} {xs : Nat → Value}
    (hc : makersB md ops ds M Lm = true) (hS : ∀ W L, Hold w0 W L → (∀ x ∈ R, x ∈ L) → S W) (hop : ∀ i ∈ M, Makes P ops Q w0 R A item i) (h0 : Hold w0 W R)
    (hcont : ∀ (xs : Nat → Value) (lo hi : Nat → Nat) W', Hold w0 W' (M.map (fun i => (item i (xs i), lo i, hi i)) ++ R) → wpAnyLast P md ops Q S ds fuel (Lm []) (A xs) W') :
    wpAnyLast P md ops Q S ds (fuel + M.length) (Lm M) (A xs) W := by
  simp only [makersB, Bool.and_eq_true, decide_eq_true_eq, List.all_eq_true] at hc
  obtain ⟨hnd, hds, hrd⟩ := hc
  have key : ∀ (n : Nat) (U D : List Nat) (xs : Nat → Value) (lo hi : Nat → Nat) (W : World), U.length = n → U.Sublist M → (D ++ U).Perm M → Hold w0 W (D.map (fun i => (item i (xs i), lo i, hi i)) ++ R) → wpAnyLast P md ops Q S ds (fuel + n) (Lm U) (A xs) W := by
    intro n
    induction n with
    | zero =>
      intro U D xs lo hi W hn hU hD hH
      obtain rfl := List.eq_nil_of_length_eq_zero hn
      rw [List.append_nil] at hD
      exact hcont xs lo hi W (hH.perm ((hD.map _).append_right R))
    | succ n ih =>
      intro U D xs lo hi W hn hU hD hH
      have hne : U ≠ [] := fun e => by rw [e] at hn; cases hn
      have hu := hrd U (mem_subs hU)
      obtain ⟨hr, hset⟩ := hu
      have hr' : Region.ready md ops (Lm U) = U := by
        simp only [Bool.or_eq_true, beq_iff_eq] at hr
        rcases hr with h | h
        · exact absurd h hne
        · exact h
      refine wpAnyLast_ready hr' hne ?_
      have hall : ∀ rs : List Nat, (∀ i ∈ rs, i ∈ U) → AllReadyL P md ops Q S ds (fuel + n) (Lm U) (A xs) W rs := by
        intro rs
        induction rs with
        | nil => intro _; exact AllReadyL.nil
        | cons i rs ihr =>
          intro hm
          have hi_ := hm i List.mem_cons_self
          have hiM := hU.subset hi_
          obtain ⟨o, ho, hput, hrun⟩ := hop i hiM
          refine AllReadyL.cons ho (hds i hiM) (fun K hK => ?_) (ihr (fun j hj => hm j (List.mem_cons_of_mem _ hj)))
          refine hrun xs W _ hH (fun x hx => List.mem_append.2 (.inr hx)) K (fun v lo' hi' W' hW' => ?_)
          have hl : (Lm U).setIfInBounds i true = Lm (U.erase i) := beq_iff_eq.1 (hset i hi_)
          have hnd2 : (D ++ U).Nodup := hD.nodup_iff.2 hnd
          have hiD : i ∉ D := fun hd => (List.nodup_append.1 hnd2).2.2 i hd i hi_ rfl
          have hW2 : Hold w0 W' ((i :: D).map (fun j => (item j (upd xs i v j), (if j = i then lo' else lo j), (if j = i then hi' else hi j))) ++ R) := by
            rw [List.map_cons, List.cons_append]
            have e1 : upd xs i v i = v := by simp [upd]
            rw [e1, if_pos rfl, if_pos rfl]
            have e2 : D.map (fun j => (item j (upd xs i v j), (if j = i then lo' else lo j), (if j = i then hi' else hi j))) = D.map (fun j => (item j (xs j), lo j, hi j)) := by
              refine List.map_congr_left (fun j hj => ?_)
              have : j ≠ i := fun e => hiD (e ▸ hj)
              simp [upd, this]
            rw [e2]
            exact hW'
          refine hK _ _ (hS W' _ hW2 (fun x hx => List.mem_append.2 (.inr hx))) (fun _ => ?_)
          rw [hl, hput xs v]
          refine ih (U.erase i) (i :: D) (upd xs i v) _ _ W' (by rw [List.length_erase_of_mem hi_, hn]; rfl) ((List.erase_sublist).trans hU) ?_ hW2
          refine List.Perm.trans ?_ hD
          rw [List.cons_append]
          refine List.Perm.trans List.perm_middle.symm ?_
          exact (List.perm_cons_erase hi_).symm.append_left D
      exact hall U (fun _ h => h)
  have := key M.length M [] xs (fun _ => 0) (fun _ => 0) W rfl (List.Sublist.refl _) (by simp) (by simpa using h0)
  exact this
/-- The act with the makers' values in their slots. -/
def fillA (slot : Nat → Tmp) : List Nat → (Nat → Value) → Act → Act
  | [], _, a => a
  | i :: r, xs, a => fillA slot r xs (a.put (some (slot i)) (xs i))
theorem put_ne {a : Act} {s t : Tmp} (h : s ≠ t) (u v : Value) : (a.put (some s) u).put (some t) v = (a.put (some t) v).put (some s) u := by
  simp only [Act.put]
  congr 1
  exact Array.setIfInBounds_comm _ _ h
theorem put_eq {a : Act} {s : Tmp} (u v : Value) : (a.put (some s) u).put (some s) v = a.put (some s) v := by
  simp only [Act.put]
  congr 1
  exact Array.setIfInBounds_setIfInBounds _
theorem fillA_comm (slot : Nat → Tmp) : ∀ (M : List Nat) (xs : Nat → Value) (a : Act) (t : Tmp) (v : Value), (∀ i ∈ M, slot i ≠ t) → fillA slot M xs (a.put (some t) v) = (fillA slot M xs a).put (some t) v
  | [], _, _, _, _, _ => rfl
  | i :: r, xs, a, t, v, h => by
    show fillA slot r xs ((a.put (some t) v).put (some (slot i)) (xs i)) = (fillA slot r xs (a.put (some (slot i)) (xs i))).put (some t) v
    rw [put_ne (fun e => h i List.mem_cons_self e.symm), fillA_comm slot r xs _ t v (fun j hj => h j (List.mem_cons_of_mem _ hj))]
theorem fillA_congr (slot : Nat → Tmp) : ∀ (M : List Nat) (xs ys : Nat → Value) (a : Act), (∀ i ∈ M, xs i = ys i) → fillA slot M xs a = fillA slot M ys a
  | [], _, _, _, _ => rfl
  | i :: r, xs, ys, a, h => by
    show fillA slot r xs (a.put (some (slot i)) (xs i)) = fillA slot r ys (a.put (some (slot i)) (ys i))
    rw [h i List.mem_cons_self, fillA_congr slot r xs ys _ (fun j hj => h j (List.mem_cons_of_mem _ hj))]
theorem fillA_put {slot : Nat → Tmp} : ∀ {M : List Nat} {i : Nat}, i ∈ M → (M.map slot).Nodup → ∀ (xs : Nat → Value) (v : Value) (a : Act), (fillA slot M xs a).put (some (slot i)) v = fillA slot M (upd xs i v) a
  | [], i, h, _, _, _, _ => absurd h List.not_mem_nil
  | j :: r, i, h, hn, xs, v, a => by
    rw [List.map_cons, List.nodup_cons] at hn
    have hr : ∀ k ∈ r, slot k ≠ slot j := fun k hk e => hn.1 (e ▸ List.mem_map.2 ⟨k, hk, rfl⟩)
    show (fillA slot r xs (a.put (some (slot j)) (xs j))).put (some (slot i)) v = fillA slot r (upd xs i v) (a.put (some (slot j)) (upd xs i v j))
    by_cases e : i = j
    · subst e
      have e1 : upd xs i v i = v := by simp [upd]
      rw [e1, ← fillA_comm slot r xs _ _ v (fun k hk => hr k hk), put_eq]
      refine fillA_congr slot r _ _ _ (fun k hk => ?_)
      have : k ≠ i := fun e => hr k hk (by rw [e])
      simp [upd, this]
    · have hi : i ∈ r := (List.mem_cons.1 h).resolve_left e
      have e1 : upd xs i v j = xs j := by simp [upd, Ne.symm e]
      rw [e1]
      exact fillA_put hi hn.2 xs v _
theorem put_eval {a : Act} {s t : Tmp} (h : s ≠ t) (v : Value) : (a.put (some s) v).eval (.tmp t) = a.eval (.tmp t) := by
  simp [Act.eval, Act.put, Array.getElem?_setIfInBounds_ne h, h, Array.getD_eq_getD_getElem?]
theorem fillA_eval (slot : Nat → Tmp) : ∀ (M : List Nat) (xs : Nat → Value) (a : Act) (t : Tmp), (∀ i ∈ M, slot i ≠ t) → (fillA slot M xs a).eval (.tmp t) = a.eval (.tmp t)
  | [], _, _, _, _ => rfl
  | i :: r, xs, a, t, h => by
    show (fillA slot r xs (a.put (some (slot i)) (xs i))).eval (.tmp t) = _
    rw [fillA_eval slot r xs _ t (fun j hj => h j (List.mem_cons_of_mem _ hj)), put_eval (h i List.mem_cons_self)]
/-- makers_ at an act as it stands: the makers' slots are empty in it. -/
theorem makers2_ {M : List Nat} (slot : Nat → Tmp) (Lm : List Nat → Array Bool) (item : Nat → Value → Thing) {n fuel : Nat} {W : World} {l : Array Bool} {a : Act}
    (hn : n = fuel + M.length) (hl : l = Lm M) (ha : a = fillA slot M (fun _ => undef) a)
    (hc : makersB md ops ds M Lm = true) (hS : ∀ W L, Hold w0 W L → (∀ x ∈ R, x ∈ L) → S W) (hop : ∀ i ∈ M, Makes P ops Q w0 R (fun xs => fillA slot M xs a) item i) (h0 : Hold w0 W R)
    (hcont : ∀ (xs : Nat → Value) (lo hi : Nat → Nat) W', Hold w0 W' (M.map (fun i => (item i (xs i), lo i, hi i)) ++ R) → wpAnyLast P md ops Q S ds fuel (Lm []) (fillA slot M xs a) W') :
    wpAnyLast P md ops Q S ds n l a W := by
  subst hn hl
  have := makers_ (xs := fun _ => undef) Lm (fun xs => fillA slot M xs a) item hc hS hop h0 hcont
  rwa [← ha] at this
section
variable {α : Type} {A : (Nat → Value) → Act} {item : Nat → Value → Thing} {i : Nat} {o : Oper}
/-- A maker: make([]T, n). -/
theorem Makes.slice (d : Kd α) (e t : TypeId) (n : Int) (z : Value) (bytes : Nat) (z0 : α) {N : Tmp} (hi : ops[i]? = some o) (hput : ∀ xs v, (A xs).put o.dst v = A (upd xs i v)) (hw : ∀ xs, Region.wanted o (yielded ops (A xs).tmps) = true) (hd : o.dst = some N)
    (ho : o.op = .makeSlice t (.const (.int .i64 n)) (.const (.int .i64 n))) (ht : P.underlying t = some (.slice e)) (hinfo : (P.info? e).map (fun i => (i.zero, i.size, i.bytes)) = some (some z, d.sz, bytes)) (hz : z.cells.size = d.sz) (hs0 : 0 < d.sz) (hb0 : 0 < bytes)
    (hzero : ∀ W b, d.M W b (fun _ => False) z0 z.cells.toList) (h0 : 0 ≤ n) (hl : n.toNat * bytes ≤ 281474976710656) (hit : ∀ v, item i v = flat d e v (List.replicate n.toNat z0)) : Makes P ops Q w0 R A item i := by
  refine ⟨o, hi, hput, fun xs W L hH hR K hK => ?_⟩
  refine Kd.R_make_step d (w0 := W) W.heap.size e (hw xs) hd t _ _ ho n rfl rfl ht z bytes hinfo hz hs0 hb0 z0 (ok := fun _ => True) (okp := fun _ => False) (hzero W _) (fun _ hk => hk.elim) trivial h0 hl (Below.refl _ _) (Nat.le_refl _) ?_
  intro v w1 hr hb _ _
  refine hK v W.heap.size w1.heap.size w1 ?_
  rw [hit v]
  exact hH.made hb hr
/-- A maker: a call that makes a row. -/
theorem Makes.call (d : Kd α) (e : TypeId) {f : FuncId} {fn : Func} {xs_ : Array Operand} {ts : Array TypeId} (args : Array Value) (l : List α) (hi : ops[i]? = some o) (hput : ∀ xs v, (A xs).put o.dst v = A (upd xs i v)) (hw : ∀ xs, Region.wanted o (yielded ops (A xs).tmps) = true)
    (hf : P.funcs[f]? = some fn) (hname : (fn.name == "runtime.NumGoroutine") = false) (hb : fn.body.isSome = true) (hop : o.op = .call { callee := .value (.func f), args := xs_, argTypes := ts }) (hargs : ∀ xs, xs_.map (A xs).eval = args)
    (hit : ∀ v, item i v = flat d e v l) (h : ∀ W L, Hold w0 W L → (∀ x ∈ R, x ∈ L) → Calls P f args W fun e' w' => ∃ v, e' = .returned v ∧ d.R e w' W.heap.size (fun _ => True) v l ∧ Below W.heap.size W w') : Makes P ops Q w0 R A item i := by
  refine ⟨o, hi, hput, fun xs W L hH hR K hK => ?_⟩
  refine goes_ hf hname hb args (hw xs) rfl hop (hargs xs) ((h W L hH hR).mono ?_)
  rintro e' w' ⟨v, rfl, hr, hb'⟩
  refine ⟨v, rfl, hK v W.heap.size w'.heap.size w' ?_⟩
  rw [hit v]
  exact hH.made hb' hr
/-- A maker: []T{}. -/
theorem Makes.nil (d : Kd α) (e : TypeId) (hi : ops[i]? = some o) (hput : ∀ xs v, (A xs).put o.dst v = A (upd xs i v)) (hw : ∀ xs, Region.wanted o (yielded ops (A xs).tmps) = true)
    (hrun : ∀ xs W, (execOp (A xs).eval o).run P W = .ok (.value (.slice (some ⟨W.heap.size, 0, none⟩) 0 0)) (W.alloc (.cells #[] e)))
    (hit : ∀ v, item i v = flat d e v []) : Makes P ops Q w0 R A item i := by
  refine ⟨o, hi, hput, fun xs W L hH hR K hK => ?_⟩
  refine value_ (hw xs) rfl (hrun xs W) (hK _ W.heap.size (W.heap.size + 1) _ ?_)
  rw [hit _]
  have hb : Below W.heap.size W (W.alloc (.cells #[] e)) := below_alloc (Below.refl _ _) _
  have hr : d.R e (W.alloc (.cells #[] e)) W.heap.size (fun _ => True) (.slice (some ⟨W.heap.size, 0, none⟩) 0 0) [] := by
    refine ⟨fun _ _ => trivial, [], ⟨by simp, .inr ⟨W.heap.size, 0, #[], by simp, Nat.le_refl _, heap_alloc_new W _, by simp, by simp, by simp, by simp⟩⟩, ?_⟩
    exact ⟨by simp, fun j p hj => by simp at hj⟩
  have := hH.made hb hr
  simpa using this
end
end
end Go.Proofs.YtpooojgeonpmnaaW.PrintWords
