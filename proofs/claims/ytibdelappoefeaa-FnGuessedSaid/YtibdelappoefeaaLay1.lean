/-
  DERIVED: THE SHELF's CONTRACTS AT THIS DUMP, IN PLAIN WORDS (tools/lay-plain.mjs out of 'YtibdelappoefeaaLay1Soft.lean', which tools/lay-shelf.mjs wrote): THE SAME DECLARATIONS UNDER THE SAME NAMES: 'import', 'namespace', 'open', 'def', 'theorem' AND NOTHING ELSE: no command of the shelf's: FOR A HAND-IN. Each laying: the table of numbers ('.._ren') and one theorem, a field a fact of the dump's own or the kernel's comparison; each contract: ONE APPLICATION.
-/
import Derived.Shelf.SlGeneric
import Derived.Shelf.SortM.Plain
import Derived.Shelf.SortM.SortNone
import Derived.Shelf.SlLaysN
import Derived.Ground.SlgmProg
import Derived.Ground.SlgnProg
import Derived.Test.YtibdelappoefeaaProg
namespace Go.Proofs
open Go.Shelf
def Ytibdelappoefeaa.laySort_ren : Go.Shelf.Ren := ⟨fun | 5 => 229 | 8 => 247 | 7 => 246 | 19 => 262 | 20 => 263 | 10 => 253 | 11 => 254 | 12 => 255 | 13 => 256 | 14 => 257 | 15 => 258 | 16 => 259 | 17 => 260 | 18 => 261 | 30 => 265 | 31 => 266 | 32 => 267 | 33 => 268 | 34 => 269 | 35 => 270 | 40 => 272 | n => n, fun | 23 => 25 | 25 => 2 | 3 => 3 | 32 => 243 | 22 => 25 | 0 => 0 | 44 => 282 | 46 => 186 | 4 => 4 | 36 => 292 | 35 => 291 | 41 => 296 | 5 => 5 | 9 => 9 | 53 => 300 | 57 => 304 | 63 => 306 | 64 => 307 | n => n, fun | n => n⟩
theorem Ytibdelappoefeaa.laySort : Go.Proofs.SlLaysM.n5 Try.prog Ytibdelappoefeaa.laySort_ren := {
  mixed := by kernel_rfl
  f5 := ⟨Try.f229.name, by decide, Try.func229.trans (congrArg some (by kernel_rfl))⟩
  f7 := ⟨Try.f246.name, by decide, Try.func246.trans (congrArg some (by kernel_rfl))⟩
  f8 := Try.func247.trans (congrArg some (by kernel_rfl))
  f10 := ⟨Try.f253.name, by decide, Try.func253.trans (congrArg some (by kernel_rfl))⟩
  f11 := ⟨Try.f254.name, by decide, Try.func254.trans (congrArg some (by kernel_rfl))⟩
  f12 := ⟨Try.f255.name, by decide, Try.func255.trans (congrArg some (by kernel_rfl))⟩
  f13 := ⟨Try.f256.name, by decide, Try.func256.trans (congrArg some (by kernel_rfl))⟩
  f14 := ⟨Try.f257.name, by decide, Try.func257.trans (congrArg some (by kernel_rfl))⟩
  f15 := ⟨Try.f258.name, by decide, Try.func258.trans (congrArg some (by kernel_rfl))⟩
  f16 := ⟨Try.f259.name, by decide, Try.func259.trans (congrArg some (by kernel_rfl))⟩
  f17 := ⟨Try.f260.name, by decide, Try.func260.trans (congrArg some (by kernel_rfl))⟩
  f18 := ⟨Try.f261.name, by decide, Try.func261.trans (congrArg some (by kernel_rfl))⟩
  f19 := Try.func262.trans (congrArg some (by kernel_rfl))
  f20 := Try.func263.trans (congrArg some (by kernel_rfl))
  f30 := ⟨Try.f265.name, by decide, Try.func265.trans (congrArg some (by kernel_rfl))⟩
  f31 := Try.func266.trans (congrArg some (by kernel_rfl))
  f32 := Try.func267.trans (congrArg some (by kernel_rfl))
  f33 := ⟨Try.f268.name, by decide, Try.func268.trans (congrArg some (by kernel_rfl))⟩
  f34 := ⟨Try.f269.name, by decide, Try.func269.trans (congrArg some (by kernel_rfl))⟩
  f35 := ⟨Try.f270.name, by decide, Try.func270.trans (congrArg some (by kernel_rfl))⟩
  f40 := ⟨Try.f272.name, by decide, Try.func272.trans (congrArg some (by kernel_rfl))⟩
  t0 := Try.underlying0
  a0 := Try.isAgg0
  z0 := Try.sizeOf0
  v0 := Try.zeroValue0
  t3 := Try.underlying3
  a3 := Try.isAgg3
  z3 := Try.sizeOf3
  v3 := Try.zeroValue3
  t4 := Try.underlying4
  a4 := Try.isAgg4
  z4 := Try.sizeOf4
  v4 := Try.zeroValue4
  t5 := Try.underlying5
  a5 := Try.isAgg5
  z5 := Try.sizeOf5
  v5 := Try.zeroValue5
  t9 := Try.underlying9
  a9 := Try.isAgg9
  z9 := Try.sizeOf9
  v9 := Try.zeroValue9
  t22 := Try.underlying25
  a22 := Try.isAgg25
  z22 := Try.sizeOf25
  v22 := Try.zeroValue25
  t23 := Try.underlying25
  a23 := Try.isAgg25
  z23 := Try.sizeOf25
  v23 := Try.zeroValue25
  t25 := Try.underlying2
  a25 := Try.isAgg2
  z25 := Try.sizeOf2
  v25 := Try.zeroValue2
  t32 := Try.underlying243
  a32 := Try.isAgg243
  z32 := Try.sizeOf243
  v32 := Try.zeroValue243
  t35 := Try.underlying291
  a35 := Try.isAgg291
  z35 := Try.sizeOf291
  v35 := Try.zeroValue291
  t36 := Try.underlying292
  a36 := Try.isAgg292
  z36 := Try.sizeOf292
  v36 := Try.zeroValue292
  t41 := Try.underlying296
  a41 := Try.isAgg296
  z41 := Try.sizeOf296
  v41 := Try.zeroValue296
  t44 := Try.underlying282
  a44 := Try.isAgg282
  z44 := Try.sizeOf282
  v44 := Try.zeroValue282
  t46 := Try.underlying186
  a46 := Try.isAgg186
  z46 := Try.sizeOf186
  v46 := Try.zeroValue186
  t53 := Try.underlying300
  a53 := Try.isAgg300
  z53 := Try.sizeOf300
  v53 := Try.zeroValue300
  t57 := Try.underlying304
  a57 := Try.isAgg304
  z57 := Try.sizeOf304
  v57 := Try.zeroValue304
  t63 := Try.underlying306
  a63 := Try.isAgg306
  z63 := Try.sizeOf306
  v63 := Try.zeroValue306
  t64 := Try.underlying307
  a64 := Try.isAgg307
  z64 := Try.sizeOf307
  v64 := Try.zeroValue307 }
def Ytibdelappoefeaa.layCompact_ren : Go.Shelf.Ren := ⟨fun | 43 => 191 | n => n, fun | 22 => 25 | 23 => 2 | 3 => 3 | 4 => 4 | 0 => 0 | n => n, fun | n => n⟩
theorem Ytibdelappoefeaa.layCompact : Go.Proofs.SlLaysN.n43 Try.prog Ytibdelappoefeaa.layCompact_ren := {
  mixed := by kernel_rfl
  f43 := ⟨Try.f191.name, by decide, Try.func191.trans (congrArg some (by kernel_rfl))⟩
  t0 := Try.underlying0
  a0 := Try.isAgg0
  z0 := Try.sizeOf0
  v0 := Try.zeroValue0
  t3 := Try.underlying3
  a3 := Try.isAgg3
  z3 := Try.sizeOf3
  v3 := Try.zeroValue3
  t4 := Try.underlying4
  a4 := Try.isAgg4
  z4 := Try.sizeOf4
  v4 := Try.zeroValue4
  t22 := Try.underlying25
  a22 := Try.isAgg25
  z22 := Try.sizeOf25
  v22 := Try.zeroValue25
  t23 := Try.underlying2
  a23 := Try.isAgg2
  z23 := Try.sizeOf2
  v23 := Try.zeroValue2
  i23 := by kernel_rfl }
end Go.Proofs
