/- slices.Repeat of one whole number. -/
import Derived.Test.YtpooojgeonpmnaaZExactAccuracyOfX6
import Derived.Test.YtpooojgeonpmnaaZExactAccuracyOfLay3
import Derived.Shelf.Bits.Mul64
import Derived.Laws.MakeOwn
import Derived.Laws.CopyOwn
import Derived.Deep.RegionLaw
import Derived.Deep.LoopGhost
namespace Go.Proofs.YtpooojgeonpmnaaW.PrintWords
set_option linter.unusedVariables false
set_option linter.unusedSimpArgs false
open Go.RowKit Go.Shelf Go.Proofs Go.Proofs.YtpooojgeonpmnaaW.PrintLast
theorem wrap_id2 {x : Int} (h0 : -9223372036854775808 ≤ x) (h1 : x ≤ 9223372036854775807) : wrap64 x = x := by unfold wrap64; omega
def ints (l : List Int) : List Value := l.map (Value.int .i64)
theorem splice_rep (x : Int) (m n k : Nat) (h : m + k ≤ n) :
    splice (ints (List.replicate m x) ++ ints (List.replicate (n - m) 0)) m (ints (List.replicate k x)) = ints (List.replicate (m + k) x) ++ ints (List.replicate (n - (m + k)) 0) := by
  unfold splice ints
  rw [List.take_left' (by simp), List.drop_append, List.drop_eq_nil_of_le (by simp), List.nil_append]
  simp only [List.length_map, List.length_replicate, List.map_replicate, List.drop_replicate]
  rw [← List.append_assoc, List.replicate_append_replicate]
  congr 2
  omega
set_option maxHeartbeats 2000000 in
set_option maxRecDepth 100000 in
theorem xRepeat1 (x : Int) (n : Nat) (h1 : 1 ≤ n) (hn : n ≤ 1048576) (g c : Nat) (w : World) (hg : w.cell? ⟨g, 0, none⟩ = some (.int .i64 x)) :
    Calls Try.prog 104 #[.slice (some ⟨g, 0, none⟩) 1 c, .int .i64 (n : Int)] w fun e w' => ∃ v, e = .returned v ∧ (Kd.int .i64).R 2 w' w.heap.size (fun _ => True) v (List.replicate n x) ∧ Below w.heap.size w w' := by
  have hgl := World.block_lt_of_cell? _ _ hg
  obtain ⟨i0, hi, hz0, hz1, hz2⟩ := info_parts svInfo
  have q0 : 0 ≤ (n : Int) := by omega
  have q1 : (n : Int) ≤ 1048576 := by omega
  have HM := Aside0.mk (Any.bits_Mul Ytpooojgeonpmnaa.layMul 1 n (by omega) (by omega) w)
  have e1 : (1 * n / 18446744073709551616 : Nat) = 0 := by omega
  have e2 : (1 * n % 18446744073709551616 : Nat) = n := by omega
  rw [e1, e2] at HM
  have hmk := run_makeSlice (P := Try.prog) (w := w) 30 2 i0 (.int .i64 0) Try.underlying30 hi hz0 .i64 .i64 (n : Int) (n : Int) q0 (Int.le_refl _) (by rw [hz1]; omega) (by rw [hz2]; omega) (by omega)
  have eN : (n : Int).toNat = n := Int.toNat_natCast n
  rw [eN, hz1] at hmk
  have emc : madeCells (Value.int .i64 0).cells (n * 1) = (ints (List.replicate n 0)).toArray := by
    unfold madeCells ints
    apply Array.ext'
    simp only [Value.cells, Nat.mul_one, Array.toList_map, Array.toList_range, List.map_replicate]
    apply List.ext_getElem (by simp)
    intro i h1 h2
    simp [Nat.mod_one]
  rw [emc] at hmk
  have e3 : IntKind.u64.wrap (n : Int) = n := by unfold IntKind.wrap; simp [IntKind.signed, IntKind.bits]; omega
  have e4 : IntKind.i64.wrap (n : Int) = n := by unfold IntKind.wrap; simp [IntKind.signed, IntKind.bits]; omega
  have e5 : IntKind.u64.wrap 1 = 1 := by decide
  clear e1 e2
  go_enter Try.func104, Try.ntmps104
  go_wp2_with fail
  refine HM.out.mono ?_
  rintro e w1 ⟨rfl, rfl⟩
  have HG := Aside0.mk hg
  have HW : Aside0 ((w1.alloc (.cells (ints (List.replicate n 0)).toArray 2)).heap[w1.heap.size]? = some (.cells (ints (List.replicate n 0)).toArray 2 (0, 0))) := ⟨heap_alloc_new w1 _⟩
  have hsz : (Try.prog.info? 2).map (·.size) = some 1 := by rw [hi]; simp [hz1]
  have HSZ := Aside0.mk hsz
  clear hsz
  have HP : Aside0 (∀ (j : Nat) (v : Value), (ints [x])[j]? = some v → w1.cell? ⟨g, j, none⟩ = some v) := ⟨fun j v hv => by
      have hj : j = 0 := by have := (List.getElem?_eq_some_iff.1 hv).1; simpa [ints] using this
      subst hj
      obtain rfl : Value.int .i64 x = v := by simpa [ints] using hv
      exact HG.out⟩
  have HN : Aside0 ((ints [x]).length = Nat.min 1 n) := ⟨(Nat.min_eq_left h1).symm⟩
  have HF : Aside0 (0 + (ints [x]).length ≤ (ints (List.replicate n 0)).length) := ⟨by simp [ints]; omega⟩
  have HO : Aside0 (∀ v ∈ ints [x], v.oneCell' = true) := ⟨by intro v hv; obtain ⟨y, _, rfl⟩ := List.mem_map.1 hv; rfl⟩
  go_wp2_with (with_reducible refine wpList_copy_splice rfl (.tmp 31) (.tmp 32) 30 30 rfl 2 Try.underlying30 HSZ.out (some ⟨w1.heap.size, 0, none⟩) (some ⟨g, 0, none⟩) n n 1 c rfl rfl w1.heap.size 0 (ints (List.replicate n 0)) 2 HW.out (ints [x]) ?hn ?hpos ?hfit ?h1 w1.heap.size w1 (below_alloc (Below.refl _ _) _) (Nat.le_refl _) ?_)
  case hn => exact HN.out
  case hpos => exact fun _ => HP.out
  case hfit => first | exact HF.out | (simp [ints]; omega)
  case h1 => exact HO.out
  intro w2 hg2 hb2
  have hg2' : w2.heap[w1.heap.size]? = some (.cells (ints (List.replicate 1 x) ++ ints (List.replicate (n - 1) 0)).toArray 2 (0, 0)) := by
    have h := hg2.out
    have e := splice_rep x 0 n 1 (by omega)
    simp only [List.replicate_zero, Nat.sub_zero, Nat.zero_add] at e
    have e' : ints [] ++ ints (List.replicate n 0) = ints (List.replicate n 0) := rfl
    rw [e'] at e
    rw [← e]
    exact h
  have HG2 := Aside0.mk hg2'
  have HB2 := Aside0.mk hb2
  clear hg2 hg2' hb2 hg hmk emc HM
  go_wp2
  go_loopg [8] n (fun gg s8 wr => ∃ m : Nat, 1 ≤ m ∧ m ≤ n ∧ n - m ≤ gg ∧ s8 = .int .i64 m ∧ Aside0 (wr.heap[w1.heap.size]? = some (.cells (ints (List.replicate m x) ++ ints (List.replicate (n - m) 0)).toArray 2 (0, 0))) ∧ Aside0 (Below w1.heap.size w1 wr))
  case atStart => exact ⟨1, Nat.le_refl _, h1, by omega, rfl, HG2, HB2⟩
  case round =>
    obtain ⟨m, hm1, hmn, hgg, rfl, HM2, HBM⟩ := hrel
    by_cases hlt : m < n
    · have hltz : (m : Int) < (n : Int) := by omega
      have hmz : 0 ≤ (m : Int) := by omega
      have hmle : (m : Int) ≤ (n : Int) := by omega
      have hne : (n == m) = false := by simp; omega
      obtain ⟨k, hk⟩ : ∃ k, k = Nat.min m (n - m) := ⟨_, rfl⟩
      have hk1 : k ≤ m := by rw [hk]; exact Nat.min_le_left _ _
      have hk2 : k ≤ n - m := by rw [hk]; exact Nat.min_le_right _ _
      have hk3 : 1 ≤ k := by rw [hk]; exact Nat.le_min.2 ⟨hm1, by omega⟩
      have HK := Aside0.mk hk
      clear hk
      have HP : Aside0 (∀ (j : Nat) (v : Value), (ints (List.replicate k x))[j]? = some v → wr.cell? (Addr.add ⟨w1.heap.size, 0, none⟩ j) = some v) := ⟨fun j v hv => by
        have hj : j < k := by have := (List.getElem?_eq_some_iff.1 hv).1; simpa [ints] using this
        obtain rfl : Value.int .i64 x = v := by simp [ints, List.getElem?_replicate, hj] at hv; exact hv
        have e : Addr.add ⟨w1.heap.size, 0, none⟩ j = ⟨w1.heap.size, j, none⟩ := by
          unfold Addr.add
          split
          · rename_i h; subst h; rfl
          · simp
        rw [e, blk_cell HM2.out j]
        simp only [List.getElem?_toArray]
        rw [List.getElem?_append_left (by simp [ints]; omega)]
        simp [ints, List.getElem?_replicate, show j < m by omega]⟩
      go_wp2
      go_region_law (refine step_copy_splice rfl (.tmp 41) (.tmp 44) 30 30 rfl 2 Try.underlying30 HSZ.out (some ⟨w1.heap.size, m, none⟩) (some ⟨w1.heap.size, 0, none⟩) (n - m) (n - m) m n (by simp [Act.eval, Act.put]; omega) (by simp [Act.eval, Act.put]) w1.heap.size m (ints (List.replicate m x) ++ ints (List.replicate (n - m) 0)) 2 HM2.out (ints (List.replicate k x)) (by simp [ints]; exact HK.out) (fun _ => ⟨rfl, _, rfl, HP.out⟩) (by simp [ints]; omega) (by intro v hv; obtain ⟨y, _, rfl⟩ := List.mem_map.1 hv; rfl) w1.heap.size w1 (below_drew HBM.out) (Nat.le_refl _) ?_; intro w4 hg4 hb4)
      have hlen : (ints (List.replicate k x)).length = k := by simp [ints]
      have hg4' : Aside0 (w4.heap[w1.heap.size]? = some (.cells (ints (List.replicate (m + k) x) ++ ints (List.replicate (n - (m + k)) 0)).toArray 2 (0, 0))) := ⟨by
        have h := hg4.out
        rw [splice_rep x m n k (by omega)] at h
        exact h⟩
      clear hg4
      rw [hlen]
      go_wp2
      go_roundg (n - (m + k))
      case measure => omega
      case rel => exact ⟨m + k, by omega, by omega, by omega, by rw [i64_w, wrap_id2 (by omega) (by omega)]; go_num, hg4', ⟨hb4⟩⟩
    · obtain rfl : m = n := by omega
      go_wp2
      go_ret
      refine ⟨_, rfl, Kd.R_of_own ?_ (fun _ _ => trivial), HBM.out⟩
      have h := HM2.out
      rw [Nat.sub_self] at h
      refine ⟨by simp [ints, encs], .inr ⟨w1.heap.size, m, _, by simp, Nat.le_refl _, h, by simp, by unfold maxLen; omega, by simp [ints], ?_⟩⟩
      simp [ints, encs]
end Go.Proofs.YtpooojgeonpmnaaW.PrintWords
