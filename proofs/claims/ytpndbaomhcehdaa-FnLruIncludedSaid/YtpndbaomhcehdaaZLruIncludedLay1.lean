/-
  DERIVED: THE SHELF's CONTRACTS AT THIS DUMP, IN PLAIN WORDS (tools/lay-plain.mjs out of 'YtpndbaomhcehdaaLay1Soft.lean', which tools/lay-shelf.mjs wrote): THE SAME DECLARATIONS UNDER THE SAME NAMES: 'import', 'namespace', 'open', 'def', 'theorem' AND NOTHING ELSE: no command of the shelf's: FOR A HAND-IN. Each laying: the table of numbers ('.._ren') and one theorem, a field a fact of the dump's own or the kernel's comparison; each contract: ONE APPLICATION.
-/
import Derived.Shelf.SlGeneric
import Derived.Shelf.SortM.Plain
import Derived.Shelf.SortM.SortNone
import Derived.Ground.SlgmProg
import Derived.Test.YtpndbaomhcehdaaProg
namespace Go.Proofs
open Go.Shelf
def Ytpndbaomhcehdaa.laySort_ren : Go.Shelf.Ren := ⟨fun | 5 => 153 | 8 => 159 | 7 => 158 | 19 => 169 | 20 => 170 | 10 => 160 | 11 => 161 | 12 => 162 | 13 => 163 | 14 => 164 | 15 => 165 | 16 => 166 | 17 => 167 | 18 => 168 | 30 => 171 | 31 => 172 | 32 => 173 | 33 => 174 | 34 => 175 | 35 => 176 | 40 => 177 | n => n, fun | 23 => 24 | 25 => 2 | 3 => 3 | 32 => 152 | 22 => 24 | 0 => 0 | 44 => 178 | 46 => 124 | 4 => 4 | 36 => 188 | 35 => 187 | 41 => 193 | 5 => 5 | 9 => 9 | 53 => 197 | 57 => 201 | 63 => 203 | 64 => 204 | n => n, fun | n => n⟩
theorem Ytpndbaomhcehdaa.laySort : Go.Proofs.SlLaysM.n5 Try.prog Ytpndbaomhcehdaa.laySort_ren := {
  mixed := by kernel_rfl
  f5 := ⟨Try.f153.name, by decide, Try.func153.trans (congrArg some (by kernel_rfl))⟩
  f7 := ⟨Try.f158.name, by decide, Try.func158.trans (congrArg some (by kernel_rfl))⟩
  f8 := Try.func159.trans (congrArg some (by kernel_rfl))
  f10 := ⟨Try.f160.name, by decide, Try.func160.trans (congrArg some (by kernel_rfl))⟩
  f11 := ⟨Try.f161.name, by decide, Try.func161.trans (congrArg some (by kernel_rfl))⟩
  f12 := ⟨Try.f162.name, by decide, Try.func162.trans (congrArg some (by kernel_rfl))⟩
  f13 := ⟨Try.f163.name, by decide, Try.func163.trans (congrArg some (by kernel_rfl))⟩
  f14 := ⟨Try.f164.name, by decide, Try.func164.trans (congrArg some (by kernel_rfl))⟩
  f15 := ⟨Try.f165.name, by decide, Try.func165.trans (congrArg some (by kernel_rfl))⟩
  f16 := ⟨Try.f166.name, by decide, Try.func166.trans (congrArg some (by kernel_rfl))⟩
  f17 := ⟨Try.f167.name, by decide, Try.func167.trans (congrArg some (by kernel_rfl))⟩
  f18 := ⟨Try.f168.name, by decide, Try.func168.trans (congrArg some (by kernel_rfl))⟩
  f19 := Try.func169.trans (congrArg some (by kernel_rfl))
  f20 := Try.func170.trans (congrArg some (by kernel_rfl))
  f30 := ⟨Try.f171.name, by decide, Try.func171.trans (congrArg some (by kernel_rfl))⟩
  f31 := Try.func172.trans (congrArg some (by kernel_rfl))
  f32 := Try.func173.trans (congrArg some (by kernel_rfl))
  f33 := ⟨Try.f174.name, by decide, Try.func174.trans (congrArg some (by kernel_rfl))⟩
  f34 := ⟨Try.f175.name, by decide, Try.func175.trans (congrArg some (by kernel_rfl))⟩
  f35 := ⟨Try.f176.name, by decide, Try.func176.trans (congrArg some (by kernel_rfl))⟩
  f40 := ⟨Try.f177.name, by decide, Try.func177.trans (congrArg some (by kernel_rfl))⟩
  t0 := Try.underlying0
  a0 := Try.isAgg0
  z0 := Try.sizeOf0
  v0 := Try.zeroValue0
  t3 := Try.underlying3
  a3 := Try.isAgg3
  z3 := Try.sizeOf3
  v3 := Try.zeroValue3
  t4 := Try.underlying4
  a4 := Try.isAgg4
  z4 := Try.sizeOf4
  v4 := Try.zeroValue4
  t5 := Try.underlying5
  a5 := Try.isAgg5
  z5 := Try.sizeOf5
  v5 := Try.zeroValue5
  t9 := Try.underlying9
  a9 := Try.isAgg9
  z9 := Try.sizeOf9
  v9 := Try.zeroValue9
  t22 := Try.underlying24
  a22 := Try.isAgg24
  z22 := Try.sizeOf24
  v22 := Try.zeroValue24
  t23 := Try.underlying24
  a23 := Try.isAgg24
  z23 := Try.sizeOf24
  v23 := Try.zeroValue24
  t25 := Try.underlying2
  a25 := Try.isAgg2
  z25 := Try.sizeOf2
  v25 := Try.zeroValue2
  t32 := Try.underlying152
  a32 := Try.isAgg152
  z32 := Try.sizeOf152
  v32 := Try.zeroValue152
  t35 := Try.underlying187
  a35 := Try.isAgg187
  z35 := Try.sizeOf187
  v35 := Try.zeroValue187
  t36 := Try.underlying188
  a36 := Try.isAgg188
  z36 := Try.sizeOf188
  v36 := Try.zeroValue188
  t41 := Try.underlying193
  a41 := Try.isAgg193
  z41 := Try.sizeOf193
  v41 := Try.zeroValue193
  t44 := Try.underlying178
  a44 := Try.isAgg178
  z44 := Try.sizeOf178
  v44 := Try.zeroValue178
  t46 := Try.underlying124
  a46 := Try.isAgg124
  z46 := Try.sizeOf124
  v46 := Try.zeroValue124
  t53 := Try.underlying197
  a53 := Try.isAgg197
  z53 := Try.sizeOf197
  v53 := Try.zeroValue197
  t57 := Try.underlying201
  a57 := Try.isAgg201
  z57 := Try.sizeOf201
  v57 := Try.zeroValue201
  t63 := Try.underlying203
  a63 := Try.isAgg203
  z63 := Try.sizeOf203
  v63 := Try.zeroValue203
  t64 := Try.underlying204
  a64 := Try.isAgg204
  z64 := Try.sizeOf204
  v64 := Try.zeroValue204 }
end Go.Proofs
