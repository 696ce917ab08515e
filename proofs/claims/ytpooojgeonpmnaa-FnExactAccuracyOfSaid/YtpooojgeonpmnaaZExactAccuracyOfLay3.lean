/-
  DERIVED: THE SHELF's CONTRACTS AT THIS DUMP, IN PLAIN WORDS (tools/lay-plain.mjs out of 'YtpooojgeonpmnaaLay3Soft.lean', which tools/lay-shelf.mjs wrote): THE SAME DECLARATIONS UNDER THE SAME NAMES: 'import', 'namespace', 'open', 'def', 'theorem' AND NOTHING ELSE: no command of the shelf's: FOR A HAND-IN. Each laying: the table of numbers ('.._ren') and one theorem, a field a fact of the dump's own or the kernel's comparison; each contract: ONE APPLICATION.
-/
import Derived.Shelf.SlGeneric
import Derived.Shelf.Lays
import Derived.Ground.NamesProg
import Derived.Test.YtpooojgeonpmnaaProg
namespace Go.Proofs
open Go.Shelf
def Ytpooojgeonpmnaa.layMul_ren : Go.Shelf.Ren := ⟨fun | 212 => 133 | 263 => 143 | 264 => 144 | n => n, fun | 46 => 143 | 51 => 165 | 146 => 166 | 53 => 110 | 148 => 168 | n => n, fun | n => n⟩
theorem Ytpooojgeonpmnaa.layMul : Go.Proofs.Lays.n212 Try.prog Ytpooojgeonpmnaa.layMul_ren := {
  mixed := by kernel_rfl
  f212 := Try.func133.trans (congrArg some (by kernel_rfl))
  f263 := Try.func143.trans (congrArg some (by kernel_rfl))
  f264 := Try.func144.trans (congrArg some (by kernel_rfl))
  t46 := Try.underlying143
  a46 := Try.isAgg143
  z46 := Try.sizeOf143
  v46 := Try.zeroValue143
  t51 := Try.underlying165
  a51 := Try.isAgg165
  z51 := Try.sizeOf165
  v51 := Try.zeroValue165
  t53 := Try.underlying110
  a53 := Try.isAgg110
  z53 := Try.sizeOf110
  v53 := Try.zeroValue110
  t146 := Try.underlying166
  a146 := Try.isAgg166
  z146 := Try.sizeOf166
  v146 := Try.zeroValue166
  t148 := Try.underlying168
  a148 := Try.isAgg168
  z148 := Try.sizeOf168
  v148 := Try.zeroValue168 }
end Go.Proofs
