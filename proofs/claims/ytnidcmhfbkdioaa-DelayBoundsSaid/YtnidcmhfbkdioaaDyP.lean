/-
  The contract of slices.Sort at ints, laid at this program (printed by the kit's tool). No condition.
-/
import Derived.Shelf.SortM.Plain
import Derived.Shelf.SortM.SortNone
import Derived.Ground.SlgmProg
import Derived.Test.YtnidcmhfbkdioaaDy1
namespace Go.Proofs.Ytnidcmhfbkdioaa
open Go.Shelf
def sortA_ren : Go.Shelf.Ren := ⟨fun | 5 => 131 | 8 => 197 | 7 => 196 | 19 => 233 | 20 => 234 | 10 => 224 | 11 => 225 | 12 => 226 | 13 => 227 | 14 => 228 | 15 => 229 | 16 => 230 | 17 => 231 | 18 => 232 | 30 => 243 | 31 => 244 | 32 => 245 | 33 => 246 | 34 => 247 | 35 => 203 | 40 => 253 | n => n, fun | 23 => 30 | 25 => 3 | 3 => 3 | 32 => 175 | 22 => 30 | 0 => 0 | 44 => 338 | 46 => 91 | 4 => 4 | 36 => 332 | 35 => 331 | 41 => 241 | 5 => 5 | 9 => 9 | 53 => 346 | 57 => 350 | 63 => 357 | 64 => 358 | n => n, fun | n => n⟩
theorem sortA : Go.Proofs.SlLaysM.n5 Try.prog sortA_ren := {
  mixed := by kernel_rfl
  f5 := ⟨Try.f131.name, by decide, Try.func131.trans (congrArg some (by kernel_rfl))⟩
  f7 := ⟨Try.f196.name, by decide, Try.func196.trans (congrArg some (by kernel_rfl))⟩
  f8 := Try.func197.trans (congrArg some (by kernel_rfl))
  f10 := ⟨Try.f224.name, by decide, Try.func224.trans (congrArg some (by kernel_rfl))⟩
  f11 := ⟨Try.f225.name, by decide, Try.func225.trans (congrArg some (by kernel_rfl))⟩
  f12 := ⟨Try.f226.name, by decide, Try.func226.trans (congrArg some (by kernel_rfl))⟩
  f13 := ⟨Try.f227.name, by decide, Try.func227.trans (congrArg some (by kernel_rfl))⟩
  f14 := ⟨Try.f228.name, by decide, Try.func228.trans (congrArg some (by kernel_rfl))⟩
  f15 := ⟨Try.f229.name, by decide, Try.func229.trans (congrArg some (by kernel_rfl))⟩
  f16 := ⟨Try.f230.name, by decide, Try.func230.trans (congrArg some (by kernel_rfl))⟩
  f17 := ⟨Try.f231.name, by decide, Try.func231.trans (congrArg some (by kernel_rfl))⟩
  f18 := ⟨Try.f232.name, by decide, Try.func232.trans (congrArg some (by kernel_rfl))⟩
  f19 := Try.func233.trans (congrArg some (by kernel_rfl))
  f20 := Try.func234.trans (congrArg some (by kernel_rfl))
  f30 := ⟨Try.f243.name, by decide, Try.func243.trans (congrArg some (by kernel_rfl))⟩
  f31 := Try.func244.trans (congrArg some (by kernel_rfl))
  f32 := Try.func245.trans (congrArg some (by kernel_rfl))
  f33 := ⟨Try.f246.name, by decide, Try.func246.trans (congrArg some (by kernel_rfl))⟩
  f34 := ⟨Try.f247.name, by decide, Try.func247.trans (congrArg some (by kernel_rfl))⟩
  f35 := ⟨Try.f203.name, by decide, Try.func203.trans (congrArg some (by kernel_rfl))⟩
  f40 := ⟨Try.f253.name, by decide, Try.func253.trans (congrArg some (by kernel_rfl))⟩
  t0 := Try.underlying0
  a0 := Try.isAgg0
  z0 := Try.sizeOf0
  v0 := Try.zeroValue0
  t3 := Try.underlying3
  a3 := Try.isAgg3
  z3 := Try.sizeOf3
  v3 := Try.zeroValue3
  t4 := Try.underlying4
  a4 := Try.isAgg4
  z4 := Try.sizeOf4
  v4 := Try.zeroValue4
  t5 := Try.underlying5
  a5 := Try.isAgg5
  z5 := Try.sizeOf5
  v5 := Try.zeroValue5
  t9 := Try.underlying9
  a9 := Try.isAgg9
  z9 := Try.sizeOf9
  v9 := Try.zeroValue9
  t22 := Try.underlying30
  a22 := Try.isAgg30
  z22 := Try.sizeOf30
  v22 := Try.zeroValue30
  t23 := Try.underlying30
  a23 := Try.isAgg30
  z23 := Try.sizeOf30
  v23 := Try.zeroValue30
  t25 := Try.underlying3
  a25 := Try.isAgg3
  z25 := Try.sizeOf3
  v25 := Try.zeroValue3
  t32 := Try.underlying175
  a32 := Try.isAgg175
  z32 := Try.sizeOf175
  v32 := Try.zeroValue175
  t35 := Try.underlying331
  a35 := Try.isAgg331
  z35 := Try.sizeOf331
  v35 := Try.zeroValue331
  t36 := Try.underlying332
  a36 := Try.isAgg332
  z36 := Try.sizeOf332
  v36 := Try.zeroValue332
  t41 := Try.underlying241
  a41 := Try.isAgg241
  z41 := Try.sizeOf241
  v41 := Try.zeroValue241
  t44 := Try.underlying338
  a44 := Try.isAgg338
  z44 := Try.sizeOf338
  v44 := Try.zeroValue338
  t46 := Try.underlying91
  a46 := Try.isAgg91
  z46 := Try.sizeOf91
  v46 := Try.zeroValue91
  t53 := Try.underlying346
  a53 := Try.isAgg346
  z53 := Try.sizeOf346
  v53 := Try.zeroValue346
  t57 := Try.underlying350
  a57 := Try.isAgg350
  z57 := Try.sizeOf350
  v57 := Try.zeroValue350
  t63 := Try.underlying357
  a63 := Try.isAgg357
  z63 := Try.sizeOf357
  v63 := Try.zeroValue357
  t64 := Try.underlying358
  a64 := Try.isAgg358
  z64 := Try.sizeOf358
  v64 := Try.zeroValue358 }
end Go.Proofs.Ytnidcmhfbkdioaa
