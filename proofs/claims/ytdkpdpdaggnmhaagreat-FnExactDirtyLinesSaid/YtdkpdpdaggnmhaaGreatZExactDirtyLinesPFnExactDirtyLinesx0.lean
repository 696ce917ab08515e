-- Printed by this session's own program (wip/tools/xprint.py) over the kit's print; not trusted: Lean checks it.
import Derived.Test.YtdkpdpdaggnmhaaGreatProg
import Derived.Below
import Derived.Deep.Draws
import Derived.Deep.AppendLies
import Derived.Maps.AppendAt
import Derived.OwnWalk
import Derived.Laws.BytesArg
import Derived.Laws.MakeOwn
import Derived.Laws.OwnMore
import Derived.Deep.OwnRows
import Derived.Tactics
import Derived.Lib.ConvBytes
import Derived.Laws.Slices
import Derived.WalkKit
import Derived.KernelRfl
import Derived.RowKit3
import Derived.Deep.LoopGhost
import Derived.Deep.QuietTactic
import Derived.BigQuiet
import Derived.WideLaws
import Derived.Deep.DeepCutAuto
import Derived.Deep.CutBlock
import Derived.Deep.RegionHeld3
import Derived.Laws.Rows
import Derived.Lib.AppendStr
import Derived.ArgAppend
import Derived.Laws.IdiomCopy
import Derived.OrdersHeld
import Derived.Laws.BitsLemmas
import Derived.RowKit
import Derived.Test.YtdkpdpdaggnmhaaGreatZExactDirtyLinesX9
import Derived.Test.YtdkpdpdaggnmhaaGreatZExactDirtyLinesLay2
import Derived.Test.YtdkpdpdaggnmhaaGreatZExactDirtyLinesLay4
import Derived.Test.YtdkpdpdaggnmhaaGreatZExactDirtyLinesX12
import Derived.Test.YtdkpdpdaggnmhaaGreatZExactDirtyLinesX15
import Derived.Shelf.SlicesG.Clone
import Derived.Shelf.SlicesE.DeleteFunc
import Derived.Test.YtdkpdpdaggnmhaaGreatZExactDirtyLinesX8
import Derived.Test.YtdkpdpdaggnmhaaGreatZExactDirtyLinesX7
import Derived.Shelf.Abstract
import Derived.Test.YtdkpdpdaggnmhaaGreatZExactDirtyLinesX0
import Derived.Test.YtdkpdpdaggnmhaaGreatZExactDirtyLinesX2
import Derived.Test.YtdkpdpdaggnmhaaGreatZExactDirtyLinesX3
import Derived.Test.YtdkpdpdaggnmhaaGreatZExactDirtyLinesX4
import Derived.Test.YtdkpdpdaggnmhaaGreatZExactDirtyLinesX10
import Derived.Test.YtdkpdpdaggnmhaaGreatZExactDirtyLinesX11
import Derived.Test.YtdkpdpdaggnmhaaGreatZExactDirtyLinesX6
import Derived.BigRegion
import Derived.Deep.DeepCutAuto
import Derived.Deep.CutBlock
import Derived.Test.YtdkpdpdaggnmhaaGreatZExactDirtyLinesX5
import Derived.Test.YtdkpdpdaggnmhaaGreatZExactDirtyLinesX13
import Derived.Test.YtdkpdpdaggnmhaaGreatZExactDirtyLinesX14
import Derived.Test.YtdkpdpdaggnmhaaGreatZExactDirtyLinesWWords
import Derived.Test.YtdkpdpdaggnmhaaGreatZExactDirtyLinesWLast
import Derived.Test.YtdkpdpdaggnmhaaGreatZExactDirtyLinesWTab
import Derived.Test.YtdkpdpdaggnmhaaGreatZExactDirtyLinesWFour
import Derived.Test.YtdkpdpdaggnmhaaGreatZExactDirtyLinesWQPut
import Derived.Test.YtdkpdpdaggnmhaaGreatZExactDirtyLinesWApart
import Derived.Test.YtdkpdpdaggnmhaaGreatZExactDirtyLinesWArr
import Derived.Test.YtdkpdpdaggnmhaaGreatZExactDirtyLinesWZeros
import Derived.Test.YtdkpdpdaggnmhaaGreatZExactDirtyLinesWFoot
import Derived.Test.YtdkpdpdaggnmhaaGreatZExactDirtyLinesWKept
import Derived.Test.YtdkpdpdaggnmhaaGreatZExactDirtyLinesWShare
import Derived.Test.YtdkpdpdaggnmhaaGreatZExactDirtyLinesWN
import Derived.Test.YtdkpdpdaggnmhaaGreatZExactDirtyLinesWFootNe
import Derived.Test.YtdkpdpdaggnmhaaGreatZExactDirtyLinesWAt
import Derived.Test.YtdkpdpdaggnmhaaGreatZExactDirtyLinesWEqStruct
import Derived.Test.YtdkpdpdaggnmhaaGreatZExactDirtyLinesWRepsOne
import Derived.Test.YtdkpdpdaggnmhaaGreatZExactDirtyLinesWInv
import Derived.Test.YtdkpdpdaggnmhaaGreatZExactDirtyLinesWInvWords
import Derived.Test.YtdkpdpdaggnmhaaGreatZExactDirtyLinesWGuard
import Derived.Test.YtdkpdpdaggnmhaaGreatZExactDirtyLinesWNEv
import Derived.Test.YtdkpdpdaggnmhaaGreatZExactDirtyLinesWMore
namespace Go.Proofs.YtdkpdpdaggnmhaaGreat.PFnExactDirtyLines
open Go.RowKit Go.Proofs.YtdkpdpdaggnmhaaGreatW.PrintWords Go.Proofs.YtdkpdpdaggnmhaaGreatW.PrintLast Go.Proofs.YtdkpdpdaggnmhaaGreatW.PrintMore
attribute [local go_sem] max2_int min2_int max_two min_two max_three min_three max_four min_four   -- for this text's walks alone
set_option linter.unusedVariables false
set_option linter.unusedSimpArgs false



def errW : Option Int → Value
  | none => .nilIface
  | some c => .iface 0 (.int .i64 c)
theorem errW_none : errW none = .nilIface := rfl
theorem errW_some (c : Int) : errW (some c) = .iface 0 (.int .i64 c) := rfl

theorem info2 : (Tryz.prog.info? 2).map (fun i => (i.zero, i.size, i.bytes)) = some (some (.int .i64 0), 1, 8) := by kernel_rfl
theorem info23 : (Tryz.prog.info? 23).map (fun i => (i.zero, i.size, i.bytes)) = some (some (.slice none 0 0), 1, 24) := by kernel_rfl
theorem info58 : (Tryz.prog.info? 58).map (fun i => (i.zero, i.size, i.bytes)) = some (some (.agg #[(.int .i64 0), (.int .i64 0)]), 2, 16) := by kernel_rfl
-- the values' own types
def rd_L1 (xs : List (List Int)) (i : Int) : (List Int) := xs.getD i.toNat ([] : List Int)
theorem at_L1 {w : World} {A : Option Addr} {n : Nat} {xs : List (List Int)} (h : Kd.C (Kd.slice 2 (Kd.int .i64)) w A n xs) (i : Int) (h0 : 0 ≤ i) (h1 : i < n) : ∃ ad A0 c0, A = some ad ∧ w.cell? (ad.add i.toNat) = some (.slice A0 (rd_L1 xs i).length c0) ∧ (rd_L1 xs i).length ≤ c0 ∧ (Kd.int .i64).C w A0 (rd_L1 xs i).length (rd_L1 xs i) := by
  obtain ⟨ad, c, e, _, hK, hc0⟩ := Kd.C_get h ([] : List Int) i h0 h1
  have hc : ∀ j u, c[j]? = some u → w.cell? (ad.add (i.toNat * 1 + j)) = some u := hc0
  obtain ⟨A0, c0, rfl, l0, g0⟩ := hK
  exact ⟨ad, A0, c0, e, by have hq := hc 0 _ rfl; rwa [Nat.mul_one, Nat.add_zero] at hq, l0, g0⟩

/-! #### struct type 60 -/
structure S60 where
  f0 : Int
  f1 : Int
def z60 : S60 := ⟨(0 : Int), (0 : Int)⟩
def k60 : Kd S60 := Kd.iso (Kd.pair (Kd.int .i64) (Kd.int .i64)) (fun x : S60 => (x.f0, x.f1))
theorem k60_open {w : World} {x : S60} {cs : List Value} (h : k60.K w x cs) : cs = [.int .i64 x.f0, .int .i64 x.f1] := by
  obtain ⟨_, _, rfl, rfl, rfl⟩ := h
  exact rfl
def rd_T60 (xs : List S60) (i : Int) : S60 := xs.getD i.toNat z60
theorem at_T60 {w : World} {A : Option Addr} {n : Nat} {xs : List S60} (h : Kd.C k60 w A n xs) (i : Int) (h0 : 0 ≤ i) (h1 : i < n) : ∃ ad , A = some ad ∧ w.cell? (ad.add (i.toNat * 2)) = some (.int .i64 (rd_T60 xs i).f0) ∧ w.cell? ⟨(ad.add (i.toNat * 2)).block, (ad.add (i.toNat * 2)).off + 1, none⟩ = some (.int .i64 (rd_T60 xs i).f1) := by
  obtain ⟨ad, c, e, _, hK, hc0⟩ := Kd.C_get h z60 i h0 h1
  have hc : ∀ j u, c[j]? = some u → w.cell? (ad.add (i.toNat * 2 + j)) = some u := hc0
  obtain rfl := k60_open hK
  exact ⟨ad, e, hc 0 _ rfl, by rw [← add_field _ _ 1 (by omega)]; exact hc 1 _ rfl⟩

/-! #### struct type 58 -/
structure S58 where
  f0 : Int
  f1 : Int
def z58 : S58 := ⟨(0 : Int), (0 : Int)⟩
def k58 : Kd S58 := Kd.iso (Kd.pair (Kd.int .i64) (Kd.int .i64)) (fun x : S58 => (x.f0, x.f1))
theorem k58_open {w : World} {x : S58} {cs : List Value} (h : k58.K w x cs) : cs = [.int .i64 x.f0, .int .i64 x.f1] := by
  obtain ⟨_, _, rfl, rfl, rfl⟩ := h
  exact rfl
theorem k58_openM {w : World} {base : Nat} {ok : Nat → Prop} {x : S58} {cs : List Value} (h : k58.M w base ok x cs) : cs = [.int .i64 x.f0, .int .i64 x.f1] := by
  obtain ⟨_, _, rfl, rfl, rfl⟩ := h
  exact rfl
theorem k58_mkM (w : World) (base : Nat) (ok : Nat → Prop) (x : S58)  : k58.M w base ok x [.int .i64 x.f0, .int .i64 x.f1] := ⟨[.int .i64 x.f0], [.int .i64 x.f1], rfl, rfl, rfl⟩
def rd_T58 (xs : List S58) (i : Int) : S58 := xs.getD i.toNat z58
theorem at_T58 {w : World} {A : Option Addr} {n : Nat} {xs : List S58} (h : Kd.C k58 w A n xs) (i : Int) (h0 : 0 ≤ i) (h1 : i < n) : ∃ ad , A = some ad ∧ w.cell? (ad.add (i.toNat * 2)) = some (.int .i64 (rd_T58 xs i).f0) ∧ w.cell? ⟨(ad.add (i.toNat * 2)).block, (ad.add (i.toNat * 2)).off + 1, none⟩ = some (.int .i64 (rd_T58 xs i).f1) := by
  obtain ⟨ad, c, e, _, hK, hc0⟩ := Kd.C_get h z58 i h0 h1
  have hc : ∀ j u, c[j]? = some u → w.cell? (ad.add (i.toNat * 2 + j)) = some u := hc0
  obtain rfl := k58_open hK
  exact ⟨ad, e, hc 0 _ rfl, by rw [← add_field _ _ 1 (by omega)]; exact hc 1 _ rfl⟩

/-! #### struct type 33 -/
structure S33 where
  f0 : (List (List Int))
  f1 : (List Int)
def z33 : S33 := ⟨([] : List (List Int)), ([] : List Int)⟩
/-! #### struct type 35 -/
structure S35 where
  f0 : S33
  f1 : Bool
  f2 : Bool
def z35 : S35 := ⟨z33, false, false⟩
/-! #### struct type 25 -/
structure S25 where
  f0 : (List (List Int))
  f1 : (List Int)
def z25 : S25 := ⟨([] : List (List Int)), ([] : List Int)⟩
/-! #### struct type 27 -/
end Go.Proofs.YtdkpdpdaggnmhaaGreat.PFnExactDirtyLines
