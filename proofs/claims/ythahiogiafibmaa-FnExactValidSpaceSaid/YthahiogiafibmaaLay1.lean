/-
  DERIVED: THE SHELF's CONTRACTS AT THIS DUMP, IN PLAIN WORDS (tools/lay-plain.mjs out of 'YthahiogiafibmaaLay1Soft.lean', which tools/lay-shelf.mjs wrote): THE SAME DECLARATIONS UNDER THE SAME NAMES: 'import', 'namespace', 'open', 'def', 'theorem' AND NOTHING ELSE: no command of the shelf's: FOR A HAND-IN. Each laying: the table of numbers ('.._ren') and one theorem, a field a fact of the dump's own or the kernel's comparison; each contract: ONE APPLICATION.
-/
import Derived.Shelf.SlGeneric
import Derived.Shelf.SortM.Plain
import Derived.Shelf.SortM.SortNone
import Derived.Shelf.SlLaysN
import Derived.Ground.SlgmProg
import Derived.Ground.SlgnProg
import Derived.Test.YthahiogiafibmaaProg
namespace Go.Proofs
open Go.Shelf
def Ythahiogiafibmaa.laySort_ren : Go.Shelf.Ren := ⟨fun | 5 => 222 | 8 => 238 | 7 => 237 | 19 => 253 | 20 => 254 | 10 => 244 | 11 => 245 | 12 => 246 | 13 => 247 | 14 => 248 | 15 => 249 | 16 => 250 | 17 => 251 | 18 => 252 | 30 => 255 | 31 => 256 | 32 => 257 | 33 => 258 | 34 => 259 | 35 => 260 | 40 => 261 | n => n, fun | 23 => 38 | 25 => 2 | 3 => 3 | 32 => 238 | 22 => 38 | 0 => 0 | 44 => 254 | 46 => 194 | 4 => 4 | 36 => 261 | 35 => 260 | 41 => 265 | 5 => 5 | 9 => 9 | 53 => 269 | 57 => 273 | 63 => 275 | 64 => 276 | n => n, fun | n => n⟩
theorem Ythahiogiafibmaa.laySort : Go.Proofs.SlLaysM.n5 Try.prog Ythahiogiafibmaa.laySort_ren := {
  mixed := by kernel_rfl
  f5 := ⟨Try.f222.name, by decide, Try.func222.trans (congrArg some (by kernel_rfl))⟩
  f7 := ⟨Try.f237.name, by decide, Try.func237.trans (congrArg some (by kernel_rfl))⟩
  f8 := Try.func238.trans (congrArg some (by kernel_rfl))
  f10 := ⟨Try.f244.name, by decide, Try.func244.trans (congrArg some (by kernel_rfl))⟩
  f11 := ⟨Try.f245.name, by decide, Try.func245.trans (congrArg some (by kernel_rfl))⟩
  f12 := ⟨Try.f246.name, by decide, Try.func246.trans (congrArg some (by kernel_rfl))⟩
  f13 := ⟨Try.f247.name, by decide, Try.func247.trans (congrArg some (by kernel_rfl))⟩
  f14 := ⟨Try.f248.name, by decide, Try.func248.trans (congrArg some (by kernel_rfl))⟩
  f15 := ⟨Try.f249.name, by decide, Try.func249.trans (congrArg some (by kernel_rfl))⟩
  f16 := ⟨Try.f250.name, by decide, Try.func250.trans (congrArg some (by kernel_rfl))⟩
  f17 := ⟨Try.f251.name, by decide, Try.func251.trans (congrArg some (by kernel_rfl))⟩
  f18 := ⟨Try.f252.name, by decide, Try.func252.trans (congrArg some (by kernel_rfl))⟩
  f19 := Try.func253.trans (congrArg some (by kernel_rfl))
  f20 := Try.func254.trans (congrArg some (by kernel_rfl))
  f30 := ⟨Try.f255.name, by decide, Try.func255.trans (congrArg some (by kernel_rfl))⟩
  f31 := Try.func256.trans (congrArg some (by kernel_rfl))
  f32 := Try.func257.trans (congrArg some (by kernel_rfl))
  f33 := ⟨Try.f258.name, by decide, Try.func258.trans (congrArg some (by kernel_rfl))⟩
  f34 := ⟨Try.f259.name, by decide, Try.func259.trans (congrArg some (by kernel_rfl))⟩
  f35 := ⟨Try.f260.name, by decide, Try.func260.trans (congrArg some (by kernel_rfl))⟩
  f40 := ⟨Try.f261.name, by decide, Try.func261.trans (congrArg some (by kernel_rfl))⟩
  t0 := Try.underlying0
  a0 := Try.isAgg0
  z0 := Try.sizeOf0
  v0 := Try.zeroValue0
  t3 := Try.underlying3
  a3 := Try.isAgg3
  z3 := Try.sizeOf3
  v3 := Try.zeroValue3
  t4 := Try.underlying4
  a4 := Try.isAgg4
  z4 := Try.sizeOf4
  v4 := Try.zeroValue4
  t5 := Try.underlying5
  a5 := Try.isAgg5
  z5 := Try.sizeOf5
  v5 := Try.zeroValue5
  t9 := Try.underlying9
  a9 := Try.isAgg9
  z9 := Try.sizeOf9
  v9 := Try.zeroValue9
  t22 := Try.underlying38
  a22 := Try.isAgg38
  z22 := Try.sizeOf38
  v22 := Try.zeroValue38
  t23 := Try.underlying38
  a23 := Try.isAgg38
  z23 := Try.sizeOf38
  v23 := Try.zeroValue38
  t25 := Try.underlying2
  a25 := Try.isAgg2
  z25 := Try.sizeOf2
  v25 := Try.zeroValue2
  t32 := Try.underlying238
  a32 := Try.isAgg238
  z32 := Try.sizeOf238
  v32 := Try.zeroValue238
  t35 := Try.underlying260
  a35 := Try.isAgg260
  z35 := Try.sizeOf260
  v35 := Try.zeroValue260
  t36 := Try.underlying261
  a36 := Try.isAgg261
  z36 := Try.sizeOf261
  v36 := Try.zeroValue261
  t41 := Try.underlying265
  a41 := Try.isAgg265
  z41 := Try.sizeOf265
  v41 := Try.zeroValue265
  t44 := Try.underlying254
  a44 := Try.isAgg254
  z44 := Try.sizeOf254
  v44 := Try.zeroValue254
  t46 := Try.underlying194
  a46 := Try.isAgg194
  z46 := Try.sizeOf194
  v46 := Try.zeroValue194
  t53 := Try.underlying269
  a53 := Try.isAgg269
  z53 := Try.sizeOf269
  v53 := Try.zeroValue269
  t57 := Try.underlying273
  a57 := Try.isAgg273
  z57 := Try.sizeOf273
  v57 := Try.zeroValue273
  t63 := Try.underlying275
  a63 := Try.isAgg275
  z63 := Try.sizeOf275
  v63 := Try.zeroValue275
  t64 := Try.underlying276
  a64 := Try.isAgg276
  z64 := Try.sizeOf276
  v64 := Try.zeroValue276 }
def Ythahiogiafibmaa.layCompact_ren : Go.Shelf.Ren := ⟨fun | 43 => 183 | n => n, fun | 22 => 38 | 23 => 2 | 3 => 3 | 4 => 4 | 0 => 0 | n => n, fun | n => n⟩
theorem Ythahiogiafibmaa.layCompact : Go.Proofs.SlLaysN.n43 Try.prog Ythahiogiafibmaa.layCompact_ren := {
  mixed := by kernel_rfl
  f43 := ⟨Try.f183.name, by decide, Try.func183.trans (congrArg some (by kernel_rfl))⟩
  t0 := Try.underlying0
  a0 := Try.isAgg0
  z0 := Try.sizeOf0
  v0 := Try.zeroValue0
  t3 := Try.underlying3
  a3 := Try.isAgg3
  z3 := Try.sizeOf3
  v3 := Try.zeroValue3
  t4 := Try.underlying4
  a4 := Try.isAgg4
  z4 := Try.sizeOf4
  v4 := Try.zeroValue4
  t22 := Try.underlying38
  a22 := Try.isAgg38
  z22 := Try.sizeOf38
  v22 := Try.zeroValue38
  t23 := Try.underlying2
  a23 := Try.isAgg2
  z23 := Try.sizeOf2
  v23 := Try.zeroValue2
  i23 := by kernel_rfl }
end Go.Proofs
