/-
  DERIVED: THE SHELF's CONTRACTS AT THIS DUMP, IN PLAIN WORDS (tools/lay-plain.mjs out of 'YthahiogiafibmaaLay3Soft.lean', which tools/lay-shelf.mjs wrote): THE SAME DECLARATIONS UNDER THE SAME NAMES: 'import', 'namespace', 'open', 'def', 'theorem' AND NOTHING ELSE: no command of the shelf's: FOR A HAND-IN. Each laying: the table of numbers ('.._ren') and one theorem, a field a fact of the dump's own or the kernel's comparison; each contract: ONE APPLICATION.
-/
import Derived.Shelf.SlGeneric
import Derived.Shelf.Lays
import Derived.Ground.NamesProg
import Derived.Test.YthahiogiafibmaaProg
namespace Go.Proofs
open Go.Shelf
def Ythahiogiafibmaa.layMul_ren : Go.Shelf.Ren := ⟨fun | 212 => 233 | 263 => 241 | 264 => 242 | n => n, fun | 46 => 238 | 51 => 254 | 146 => 255 | 53 => 194 | 148 => 257 | n => n, fun | n => n⟩
theorem Ythahiogiafibmaa.layMul : Go.Proofs.Lays.n212 Try.prog Ythahiogiafibmaa.layMul_ren := {
  mixed := by kernel_rfl
  f212 := Try.func233.trans (congrArg some (by kernel_rfl))
  f263 := Try.func241.trans (congrArg some (by kernel_rfl))
  f264 := Try.func242.trans (congrArg some (by kernel_rfl))
  t46 := Try.underlying238
  a46 := Try.isAgg238
  z46 := Try.sizeOf238
  v46 := Try.zeroValue238
  t51 := Try.underlying254
  a51 := Try.isAgg254
  z51 := Try.sizeOf254
  v51 := Try.zeroValue254
  t53 := Try.underlying194
  a53 := Try.isAgg194
  z53 := Try.sizeOf194
  v53 := Try.zeroValue194
  t146 := Try.underlying255
  a146 := Try.isAgg255
  z146 := Try.sizeOf255
  v146 := Try.zeroValue255
  t148 := Try.underlying257
  a148 := Try.isAgg257
  z148 := Try.sizeOf257
  v148 := Try.zeroValue257 }
end Go.Proofs
