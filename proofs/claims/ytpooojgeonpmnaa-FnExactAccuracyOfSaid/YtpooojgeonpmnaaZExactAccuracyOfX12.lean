/- Maps from int64 as things: what a map's block is good for, told by a function from keys to values; what the operations run to. -/
import Derived.Test.YtpooojgeonpmnaaZExactAccuracyOfX11
import Derived.Maps.OwnSet
namespace Go.Proofs.YtpooojgeonpmnaaW.PrintWords
set_option linter.unusedVariables false
set_option linter.unusedSimpArgs false
open Go.RowKit Go.Maps
/-- Any value, as it stands. -/
def mapR (v : Value) : Option (DataW Value × List MemPlace) := some (.held v, [])
def key64 (k : Int) : Lit := .int .i64 k
/-- Block b is a map with n keys that holds M. -/
structure MapIs (P : Program) (K : TypeId) (W : World) (b : Nat) (M : Int → Option Value) (n : Nat) : Prop where
  is : ∃ D, W.ownsMap P K mapR b n D ∧ Maps.size D = n ∧ (∀ k, Maps.has D (key64 k) = (M k).isSome) ∧ ∀ k v, M k = some v → ∀ z, D.atKey (key64 k) z = .held v
theorem owns_tight {P : Program} {K : TypeId} {W : World} {b m : Nat} {D : DataW Value} (h : W.ownsMap P K mapR b m D) : W.ownsMap P K mapR b (Maps.size D) D := by
  obtain ⟨es, clock, hb, F, _, rfl⟩ := h
  refine ⟨es, clock, hb, F, ?_, rfl⟩
  simp [Maps.size, length_sorted]
theorem MapIs.move {P : Program} {K : TypeId} {W W' : World} {b n : Nat} {M : Int → Option Value} (h : MapIs P K W b M n) (he : W'.heap[b]? = W.heap[b]?) : MapIs P K W' b M n := by
  obtain ⟨D, ⟨es, clock, hb, r⟩, h2⟩ := h.is
  exact ⟨D, ⟨es, clock, he.trans hb, r⟩, h2⟩
theorem MapIs.lt {P : Program} {K : TypeId} {W : World} {b n : Nat} {M : Int → Option Value} (h : MapIs P K W b M n) : b < W.heap.size := by
  obtain ⟨D, hD, _⟩ := h.is
  exact hD.lt
def mapT (P : Program) (K : TypeId) (M : Int → Option Value) (n : Nat) : Thing where
  P W lo hi := MapIs P K W lo M n ∧ hi = lo + 1
  move h hm := ⟨h.1.move (hm _ (Nat.le_refl _) (by have := h.2; omega) h.1.lt), h.2⟩
section
variable {P : Program} {K e t : TypeId} {W : World} {b n : Nat} {M : Int → Option Value}
theorem MapIs.look (h : MapIs P K W b M n) (hK : P.underlying K = some (.int .i64)) (ht : P.underlying t = some (.map K e)) {z : Value} (hz : ∀ w, (zeroValue e).run P w = .ok z w) {k : Int} (hk : (Lit.int .i64 k).wf = true) :
    (Instr.lookup t (.map (some b)) (.int .i64 k) false).run P W = .ok ((M k).getD z) W := by
  obtain ⟨D, hD, _, h1, h2⟩ := h.is
  obtain ⟨v, ps, hrun, hv⟩ := hD.lookup (int_keyed hK) ht (hz W) (zd := .held z) (zp := []) rfl (keyOf_int_mk hK hk)
  rw [hrun]
  have hv' : DataW.held v = D.atKey (key64 k) (.held z) := congrArg Prod.fst (Option.some.inj hv)
  cases hM : M k with
  | none =>
    have := h1 k
    rw [hM] at this
    rw [Maps.atKey_of_not_has this] at hv'
    injection hv' with hv'
    rw [hv']; rfl
  | some x =>
    rw [h2 k x hM] at hv'
    injection hv' with hv'
    rw [hv']; rfl
theorem MapIs.len (h : MapIs P K W b M n) (ht : P.underlying t = some (.map K e)) (ty : TypeId) : (Builtin.len_ #[t] ty #[.map (some b)]).run P W = .ok (.int .i64 n) W := by
  obtain ⟨D, hD, hs, _⟩ := h.is
  have := hD.len ht ty
  rw [hs] at this
  exact this
theorem key64_ne {j k : Int} (h : j ≠ k) : key64 j ≠ key64 k := by
  intro e
  unfold key64 at e
  injection e with _ e
  exact h e
theorem MapIs.put (h : MapIs P K W b M n) (hK : P.underlying K = some (.int .i64)) (ht : P.underlying t = some (.map K e)) (hn : n ≤ 1048576) {k : Int} (hk : (Lit.int .i64 k).wf = true) (v : Value) :
    ∃ W', (Instr.mapUpdate t (.map (some b)) (.int .i64 k) v).run P W = .ok () W' ∧ MapIs P K W' b (fun j => if j = k then some v else M j) (if (M k).isSome then n else n + 1) ∧ W.grownBy W' (some b) := by
  obtain ⟨D, hD, hs, h1, h2⟩ := h.is
  have hkey := keyOf_int_mk hK hk
  obtain ⟨W', hrun, hD', hg⟩ := hD.update (int_keyed hK) ht (by unfold maxLen; omega) hkey (val := v) (d := .held v) (ps := []) rfl
  have htidy := hD.tidy (int_keyed hK)
  have hlit : WideAt.IsKeyLit (key64 k) := trivial
  have hsz := Maps.size_put (k := key64 k) htidy (DataW.held v)
  rw [h1 k, hs] at hsz
  refine ⟨W', hrun, ⟨D.put (key64 k) (.held v), ?_, hsz, fun j => ?_, fun j x hx z => ?_⟩, hg⟩
  · have := owns_tight hD'
    rw [show Maps.size (D.put (.int .i64 k) (.held v)) = _ from hsz] at this
    exact this
  · by_cases hj : j = k
    · subst hj
      rw [if_pos rfl, Maps.has_put_same htidy.isMap hlit]; rfl
    · rw [if_neg hj, Maps.has_put_other (key64_ne hj)]
      exact h1 j
  · by_cases hj : j = k
    · subst hj
      rw [if_pos rfl] at hx
      cases hx
      exact Maps.atKey_put_same htidy.isMap hlit _ _
    · rw [if_neg hj] at hx
      rw [Maps.atKey_put_other (key64_ne hj)]
      exact h2 j x hx z
theorem MapIs.del (h : MapIs P K W b M n) (hK : P.underlying K = some (.int .i64)) (ht : P.underlying t = some (.map K e)) {k : Int} (hk : (Lit.int .i64 k).wf = true) (ty : TypeId) :
    ∃ W', (Builtin.delete_ #[t, K] ty #[.map (some b), .int .i64 k]).run P W = .ok (.tuple #[]) W' ∧ MapIs P K W' b (fun j => if j = k then none else M j) (if (M k).isSome then n - 1 else n) ∧ W.grownBy W' (some b) := by
  obtain ⟨D, hD, hs, h1, h2⟩ := h.is
  have hkey := keyOf_int_mk hK hk
  obtain ⟨W', hrun, hD', hg⟩ := hD.drop (int_keyed hK) ht hkey ty
  have htidy := hD.tidy (int_keyed hK)
  have hsz := Maps.size_del (k := key64 k) htidy
  rw [h1 k, hs] at hsz
  have hsz' : Maps.size (D.del (key64 k)) = if (M k).isSome then n - 1 else n := by
    split
    · rename_i hh; rw [if_pos hh] at hsz; omega
    · rename_i hh; rw [if_neg hh] at hsz; omega
  refine ⟨W', hrun, ⟨D.del (key64 k), ?_, hsz', fun j => ?_, fun j x hx z => ?_⟩, hg.grown⟩
  · have := owns_tight hD'
    rw [show Maps.size (D.del (.int .i64 k)) = _ from hsz'] at this
    exact this
  · by_cases hj : j = k
    · subst hj
      rw [if_pos rfl, Maps.has_del_same]; rfl
    · rw [if_neg hj, Maps.has_del_other (key64_ne hj)]
      exact h1 j
  · by_cases hj : j = k
    · subst hj
      rw [if_pos rfl] at hx
      cases hx
    · rw [if_neg hj] at hx
      rw [Maps.atKey_del_other (key64_ne hj)]
      exact h2 j x hx z
theorem MapIs.made (W : World) (P : Program) (K : TypeId) : MapIs P K (W.alloc (.map #[] 0)) W.heap.size (fun _ => none) 0 :=
  ⟨.map [], World.ownsMap_made W P K mapR, rfl, fun _ => rfl, fun _ _ h => by cases h⟩
end
namespace Hold
variable {P : Program} {K e t : TypeId} {w0 W W' : World} {L L' : List (Thing × Nat × Nat)} {b b' n : Nat} {M : Int → Option Value}
theorem mlook (h : Hold w0 W L) (hm : (mapT P K M n, b, b') ∈ L) (hK : P.underlying K = some (.int .i64)) (ht : P.underlying t = some (.map K e)) {z : Value} (hz : ∀ w, (zeroValue e).run P w = .ok z w) {k : Int} (hk : (Lit.int .i64 k).wf = true) :
    (Instr.lookup t (.map (some b)) (.int .i64 k) false).run P W = .ok ((M k).getD z) W := (h.get hm).1.1.look hK ht hz hk
theorem mlen (h : Hold w0 W L) (hm : (mapT P K M n, b, b') ∈ L) (ht : P.underlying t = some (.map K e)) (ty : TypeId) : (Builtin.len_ #[t] ty #[.map (some b)]).run P W = .ok (.int .i64 n) W := (h.get hm).1.1.len ht ty
theorem swapMap {M' : Int → Option Value} {n' : Nat} (h : Hold w0 W L) (u : Sw (mapT P K M n, b, b') (mapT P K M' n', b, b') L L') (hg : W.grownBy W' (some b)) (hM : MapIs P K W' b M' n') : Hold w0 W' L' := by
  obtain ⟨⟨_, he⟩, hlo, hlh, hhi⟩ := h.get u.mem
  refine h.swap u (h.below.grown hg h.below.size (fun k hk => by cases hk; exact hlo)) ⟨hg.size, fun k hk hn => hg.block k hk (fun e => hn ?_)⟩ ⟨hM, he⟩ (.inl ⟨rfl, rfl⟩)
  cases e
  exact ⟨Nat.le_refl _, by show b < b'; omega⟩
theorem mput (h : Hold w0 W L) (hm : (mapT P K M n, b, b') ∈ L) (hK : P.underlying K = some (.int .i64)) (ht : P.underlying t = some (.map K e)) (hn : n ≤ 1048576) {k : Int} (hk : (Lit.int .i64 k).wf = true) (v : Value) :
    ∃ W', (Instr.mapUpdate t (.map (some b)) (.int .i64 k) v).run P W = .ok () W' ∧ ∀ L', Sw (mapT P K M n, b, b') (mapT P K (fun j => if j = k then some v else M j) (if (M k).isSome then n else n + 1), b, b') L L' → Hold w0 W' L' := by
  obtain ⟨W', hr, hM, hg⟩ := (h.get hm).1.1.put hK ht hn hk v
  exact ⟨W', hr, fun L' u => h.swapMap u hg hM⟩
theorem mdel (h : Hold w0 W L) (hm : (mapT P K M n, b, b') ∈ L) (hK : P.underlying K = some (.int .i64)) (ht : P.underlying t = some (.map K e)) {k : Int} (hk : (Lit.int .i64 k).wf = true) (ty : TypeId) :
    ∃ W', (Builtin.delete_ #[t, K] ty #[.map (some b), .int .i64 k]).run P W = .ok (.tuple #[]) W' ∧ ∀ L', Sw (mapT P K M n, b, b') (mapT P K (fun j => if j = k then none else M j) (if (M k).isSome then n - 1 else n), b, b') L L' → Hold w0 W' L' := by
  obtain ⟨W', hr, hM, hg⟩ := (h.get hm).1.1.del hK ht hk ty
  exact ⟨W', hr, fun L' u => h.swapMap u hg hM⟩
theorem mnew (h : Hold w0 W L) (P : Program) (K : TypeId) : Hold w0 (W.alloc (.map #[] 0)) ((mapT P K (fun _ => none) 0, W.heap.size, W.heap.size + 1) :: L) := by
  have h2 := h.add (T := mapT P K (fun _ => none) 0) (below_alloc (Below.refl _ _) (.map #[] 0)) ⟨MapIs.made W P K, by simp⟩
  simpa using h2
end Hold
end Go.Proofs.YtpooojgeonpmnaaW.PrintWords
