/-
  DERIVED: THE SHELF's CONTRACTS AT THIS DUMP, IN PLAIN WORDS (tools/lay-plain.mjs out of 'YtpndbaomhcehdaaLay3Soft.lean', which tools/lay-shelf.mjs wrote): THE SAME DECLARATIONS UNDER THE SAME NAMES: 'import', 'namespace', 'open', 'def', 'theorem' AND NOTHING ELSE: no command of the shelf's: FOR A HAND-IN. Each laying: the table of numbers ('.._ren') and one theorem, a field a fact of the dump's own or the kernel's comparison; each contract: ONE APPLICATION.
-/
import Derived.Shelf.SlGeneric
import Derived.Shelf.Lays
import Derived.Ground.NamesProg
import Derived.Test.YtpndbaomhcehdaaProg
namespace Go.Proofs
open Go.Shelf
def Ytpndbaomhcehdaa.layMul_ren : Go.Shelf.Ren := ⟨fun | 212 => 146 | 263 => 155 | 264 => 156 | n => n, fun | 46 => 152 | 51 => 178 | 146 => 179 | 53 => 124 | 148 => 181 | n => n, fun | n => n⟩
theorem Ytpndbaomhcehdaa.layMul : Go.Proofs.Lays.n212 Try.prog Ytpndbaomhcehdaa.layMul_ren := {
  mixed := by kernel_rfl
  f212 := Try.func146.trans (congrArg some (by kernel_rfl))
  f263 := Try.func155.trans (congrArg some (by kernel_rfl))
  f264 := Try.func156.trans (congrArg some (by kernel_rfl))
  t46 := Try.underlying152
  a46 := Try.isAgg152
  z46 := Try.sizeOf152
  v46 := Try.zeroValue152
  t51 := Try.underlying178
  a51 := Try.isAgg178
  z51 := Try.sizeOf178
  v51 := Try.zeroValue178
  t53 := Try.underlying124
  a53 := Try.isAgg124
  z53 := Try.sizeOf124
  v53 := Try.zeroValue124
  t146 := Try.underlying179
  a146 := Try.isAgg179
  z146 := Try.sizeOf179
  v146 := Try.zeroValue179
  t148 := Try.underlying181
  a148 := Try.isAgg181
  z148 := Try.sizeOf181
  v148 := Try.zeroValue181 }
end Go.Proofs
