-- Printed by this session's own program (wip/tools/xprint.py) over the kit's print; not trusted: Lean checks it.
import Derived.Test.YtpndbaomhcehdaaProg
import Derived.Below
import Derived.Deep.Draws
import Derived.Deep.AppendLies
import Derived.Maps.AppendAt
import Derived.OwnWalk
import Derived.Laws.BytesArg
import Derived.Laws.MakeOwn
import Derived.Laws.OwnMore
import Derived.Deep.OwnRows
import Derived.Tactics
import Derived.Lib.ConvBytes
import Derived.Laws.Slices
import Derived.WalkKit
import Derived.KernelRfl
import Derived.RowKit3
import Derived.Deep.LoopGhost
import Derived.Deep.QuietTactic
import Derived.BigQuiet
import Derived.WideLaws
import Derived.Deep.DeepCutAuto
import Derived.Deep.CutBlock
import Derived.Deep.RegionHeld3
import Derived.Laws.Rows
import Derived.Lib.AppendStr
import Derived.ArgAppend
import Derived.Laws.IdiomCopy
import Derived.OrdersHeld
import Derived.Laws.BitsLemmas
import Derived.RowKit
import Derived.BigRegion
import Derived.Deep.DeepCutAuto
import Derived.Deep.CutBlock
import Derived.Test.YtpndbaomhcehdaaZExactLevelContentsX2
import Derived.Test.YtpndbaomhcehdaaZExactLevelContentsX4
import Derived.Test.YtpndbaomhcehdaaZExactLevelContentsX7
import Derived.Test.YtpndbaomhcehdaaZExactLevelContentsX10
import Derived.Test.YtpndbaomhcehdaaZExactLevelContentsX8
import Derived.Shelf.Abstract
import Derived.Test.YtpndbaomhcehdaaZExactLevelContentsX3
import Derived.Test.YtpndbaomhcehdaaZExactLevelContentsX11
import Derived.Test.YtpndbaomhcehdaaZExactLevelContentsX6
import Derived.Test.YtpndbaomhcehdaaZExactLevelContentsLay2
import Derived.Shelf.SlicesG.Clone
import Derived.Test.YtpndbaomhcehdaaZExactLevelContentsWWords
import Derived.Test.YtpndbaomhcehdaaZExactLevelContentsWLast
import Derived.Test.YtpndbaomhcehdaaZExactLevelContentsWTab
import Derived.Test.YtpndbaomhcehdaaZExactLevelContentsWFour
import Derived.Test.YtpndbaomhcehdaaZExactLevelContentsWQPut
import Derived.Test.YtpndbaomhcehdaaZExactLevelContentsWApart
import Derived.Test.YtpndbaomhcehdaaZExactLevelContentsWArr
import Derived.Test.YtpndbaomhcehdaaZExactLevelContentsWZeros
import Derived.Test.YtpndbaomhcehdaaZExactLevelContentsWFoot
import Derived.Test.YtpndbaomhcehdaaZExactLevelContentsWKept
import Derived.Test.YtpndbaomhcehdaaZExactLevelContentsWShare
import Derived.Test.YtpndbaomhcehdaaZExactLevelContentsWN
import Derived.Test.YtpndbaomhcehdaaZExactLevelContentsWFootNe
import Derived.Test.YtpndbaomhcehdaaZExactLevelContentsWAt
import Derived.Test.YtpndbaomhcehdaaZExactLevelContentsWEqStruct
import Derived.Test.YtpndbaomhcehdaaZExactLevelContentsWRepsOne
import Derived.Test.YtpndbaomhcehdaaZExactLevelContentsWInv
import Derived.Test.YtpndbaomhcehdaaZExactLevelContentsWInvWords
import Derived.Test.YtpndbaomhcehdaaZExactLevelContentsWGuard
import Derived.Test.YtpndbaomhcehdaaZExactLevelContentsWNEv
import Derived.Test.YtpndbaomhcehdaaZExactLevelContentsWMore
namespace Go.Proofs.Ytpndbaomhcehdaa.PFnExactLevelContents
open Go.RowKit Go.Proofs.YtpndbaomhcehdaaW.PrintWords Go.Proofs.YtpndbaomhcehdaaW.PrintLast Go.Proofs.YtpndbaomhcehdaaW.PrintMore
attribute [local go_sem] max2_int min2_int max_two min_two max_three min_three max_four min_four   -- for this text's walks alone
set_option linter.unusedVariables false
set_option linter.unusedSimpArgs false



def errW : Option Int → Value
  | none => .nilIface
  | some c => .iface 0 (.int .i64 c)
theorem errW_none : errW none = .nilIface := rfl
theorem errW_some (c : Int) : errW (some c) = .iface 0 (.int .i64 c) := rfl

theorem info2 : (Try.prog.info? 2).map (fun i => (i.zero, i.size, i.bytes)) = some (some (.int .i64 0), 1, 8) := by kernel_rfl
theorem info24 : (Try.prog.info? 24).map (fun i => (i.zero, i.size, i.bytes)) = some (some (.slice none 0 0), 1, 24) := by kernel_rfl
-- the values' own types
def rd_L1 (xs : List (List Int)) (i : Int) : (List Int) := xs.getD i.toNat ([] : List Int)
theorem at_L1 {w : World} {A : Option Addr} {n : Nat} {xs : List (List Int)} (h : Kd.C (Kd.slice 2 (Kd.int .i64)) w A n xs) (i : Int) (h0 : 0 ≤ i) (h1 : i < n) : ∃ ad A0 c0, A = some ad ∧ w.cell? (ad.add i.toNat) = some (.slice A0 (rd_L1 xs i).length c0) ∧ (rd_L1 xs i).length ≤ c0 ∧ (Kd.int .i64).C w A0 (rd_L1 xs i).length (rd_L1 xs i) := by
  obtain ⟨ad, c, e, _, hK, hc0⟩ := Kd.C_get h ([] : List Int) i h0 h1
  have hc : ∀ j u, c[j]? = some u → w.cell? (ad.add (i.toNat * 1 + j)) = some u := hc0
  obtain ⟨A0, c0, rfl, l0, g0⟩ := hK
  exact ⟨ad, A0, c0, e, by have hq := hc 0 _ rfl; rwa [Nat.mul_one, Nat.add_zero] at hq, l0, g0⟩

/-! #### struct type 29 -/
structure S29 where
  f0 : (List (List Int))
  f1 : (List Int)
def z29 : S29 := ⟨([] : List (List Int)), ([] : List Int)⟩
/-! #### struct type 53 -/
structure S53 where
  f0 : S29
  f1 : S29
  f2 : Int
def z53 : S53 := ⟨z29, z29, (0 : Int)⟩
/-! #### struct type 47 -/
/-! #### struct type 49 -/
end Go.Proofs.Ytpndbaomhcehdaa.PFnExactLevelContents
