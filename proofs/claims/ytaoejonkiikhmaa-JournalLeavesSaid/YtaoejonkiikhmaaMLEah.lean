/- Texts of this claim put together: HSort. -/
import Derived.Shelf.SlGeneric
import Derived.Ground.SlsfProg
import Derived.Shelf.SlSortCmp.WholeK
import Derived.Shelf.SlSortCmp.NoneTotal
import Derived.Test.YtaoejonkiikhmaaProg

/-
  DERIVED: THE SHELF's CONTRACTS AT THIS DUMP, IN PLAIN WORDS (tools/lay-plain.mjs out of 'YtaoejonkiikhmaaHSortLay.lean', which tools/lay-shelf.mjs wrote): THE SAME DECLARATIONS UNDER THE SAME NAMES: 'import', 'namespace', 'open', 'def', 'theorem' AND NOTHING ELSE: no command of the shelf's: FOR A HAND-IN. Each laying: the table of numbers ('.._ren') and one theorem, a field a fact of the dump's own or the kernel's comparison; each contract: ONE APPLICATION.
-/
namespace Go.Proofs
open Go.Shelf
def Try.sortLine_ren : Go.Shelf.Ren := ⟨fun | 6 => 108 | 15 => 163 | 14 => 162 | 28 => 199 | 29 => 200 | 20 => 191 | 21 => 192 | 22 => 193 | 23 => 194 | 24 => 195 | 25 => 196 | 26 => 197 | 27 => 198 | 46 => 219 | 47 => 220 | 48 => 221 | 49 => 222 | 50 => 223 | 57 => 247 | n => n, fun | 22 => 30 | 24 => 113 | 25 => 203 | 3 => 3 | 39 => 255 | 0 => 0 | 53 => 292 | 55 => 22 | 4 => 4 | 46 => 285 | 45 => 284 | 50 => 289 | 5 => 5 | 9 => 9 | 66 => 307 | 70 => 311 | 76 => 326 | 77 => 327 | n => n, fun | n => n⟩
theorem Try.sortLine : Go.Proofs.SlLaysF0.n6 Try.prog Try.sortLine_ren := {
  mixed := by kernel_rfl
  f6 := ⟨Try.f108.name, by decide, Try.func108.trans (congrArg some (by kernel_rfl))⟩
  f14 := ⟨Try.f162.name, by decide, Try.func162.trans (congrArg some (by kernel_rfl))⟩
  f15 := Try.func163.trans (congrArg some (by kernel_rfl))
  f20 := ⟨Try.f191.name, by decide, Try.func191.trans (congrArg some (by kernel_rfl))⟩
  f21 := ⟨Try.f192.name, by decide, Try.func192.trans (congrArg some (by kernel_rfl))⟩
  f22 := ⟨Try.f193.name, by decide, Try.func193.trans (congrArg some (by kernel_rfl))⟩
  f23 := ⟨Try.f194.name, by decide, Try.func194.trans (congrArg some (by kernel_rfl))⟩
  f24 := ⟨Try.f195.name, by decide, Try.func195.trans (congrArg some (by kernel_rfl))⟩
  f25 := ⟨Try.f196.name, by decide, Try.func196.trans (congrArg some (by kernel_rfl))⟩
  f26 := ⟨Try.f197.name, by decide, Try.func197.trans (congrArg some (by kernel_rfl))⟩
  f27 := ⟨Try.f198.name, by decide, Try.func198.trans (congrArg some (by kernel_rfl))⟩
  f28 := Try.func199.trans (congrArg some (by kernel_rfl))
  f29 := Try.func200.trans (congrArg some (by kernel_rfl))
  f46 := ⟨Try.f219.name, by decide, Try.func219.trans (congrArg some (by kernel_rfl))⟩
  f47 := Try.func220.trans (congrArg some (by kernel_rfl))
  f48 := Try.func221.trans (congrArg some (by kernel_rfl))
  f49 := ⟨Try.f222.name, by decide, Try.func222.trans (congrArg some (by kernel_rfl))⟩
  f50 := ⟨Try.f223.name, by decide, Try.func223.trans (congrArg some (by kernel_rfl))⟩
  f57 := ⟨Try.f247.name, by decide, Try.func247.trans (congrArg some (by kernel_rfl))⟩
  t0 := Try.underlying0
  a0 := Try.isAgg0
  z0 := Try.sizeOf0
  v0 := Try.zeroValue0
  t3 := Try.underlying3
  a3 := Try.isAgg3
  z3 := Try.sizeOf3
  v3 := Try.zeroValue3
  t4 := Try.underlying4
  a4 := Try.isAgg4
  z4 := Try.sizeOf4
  v4 := Try.zeroValue4
  t5 := Try.underlying5
  a5 := Try.isAgg5
  z5 := Try.sizeOf5
  v5 := Try.zeroValue5
  t9 := Try.underlying9
  a9 := Try.isAgg9
  z9 := Try.sizeOf9
  v9 := Try.zeroValue9
  t22 := Try.underlying30
  a22 := Try.isAgg30
  z22 := Try.sizeOf30
  v22 := Try.zeroValue30
  t25 := Try.underlying203
  a25 := Try.isAgg203
  z25 := Try.sizeOf203
  v25 := Try.zeroValue203
  t39 := Try.underlying255
  a39 := Try.isAgg255
  z39 := Try.sizeOf255
  v39 := Try.zeroValue255
  t45 := Try.underlying284
  a45 := Try.isAgg284
  z45 := Try.sizeOf284
  v45 := Try.zeroValue284
  t46 := Try.underlying285
  a46 := Try.isAgg285
  z46 := Try.sizeOf285
  v46 := Try.zeroValue285
  t50 := Try.underlying289
  a50 := Try.isAgg289
  z50 := Try.sizeOf289
  v50 := Try.zeroValue289
  t53 := Try.underlying292
  a53 := Try.isAgg292
  z53 := Try.sizeOf292
  v53 := Try.zeroValue292
  t55 := Try.underlying22
  a55 := Try.isAgg22
  z55 := Try.sizeOf22
  v55 := Try.zeroValue22
  t66 := Try.underlying307
  a66 := Try.isAgg307
  z66 := Try.sizeOf307
  v66 := Try.zeroValue307
  t70 := Try.underlying311
  a70 := Try.isAgg311
  z70 := Try.sizeOf311
  v70 := Try.zeroValue311
  t76 := Try.underlying326
  a76 := Try.isAgg326
  z76 := Try.sizeOf326
  v76 := Try.zeroValue326
  t77 := Try.underlying327
  a77 := Try.isAgg327
  z77 := Try.sizeOf327
  v77 := Try.zeroValue327 }
end Go.Proofs
