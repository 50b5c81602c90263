/- Texts of this claim put together: HKeys. -/
import Derived.Shelf.SlGeneric
import Derived.Shelf.SlIterI.Nil
import Derived.Shelf.SortM.Plain
import Derived.Shelf.SortM.SortNone
import Derived.Ground.GgzProg
import Derived.Ground.SlgmProg
import Derived.Test.YtaoejonkiikhmaaProg

/-
  DERIVED: THE SHELF's CONTRACTS AT THIS DUMP, IN PLAIN WORDS (tools/lay-plain.mjs out of 'YtaoejonkiikhmaaHKeysLay.lean', which tools/lay-shelf.mjs wrote): THE SAME DECLARATIONS UNDER THE SAME NAMES: 'import', 'namespace', 'open', 'def', 'theorem' AND NOTHING ELSE: no command of the shelf's: FOR A HAND-IN. Each laying: the table of numbers ('.._ren') and one theorem, a field a fact of the dump's own or the kernel's comparison; each contract: ONE APPLICATION.
-/
namespace Go.Proofs
open Go.Shelf
def Try.keysC_ren : Go.Shelf.Ren := ⟨fun | 7 => 203 | 10 => 225 | n => n, fun | 23 => 211 | 26 => 3 | 3 => 121 | 28 => 296 | 0 => 0 | 27 => 295 | 33 => 125 | 4 => 4 | n => n, fun | n => n⟩
theorem Try.keysC : Go.Proofs.SlLaysZI.n7 Try.prog Try.keysC_ren := {
  mixed := by kernel_rfl
  f7 := ⟨Try.f203.name, by decide, Try.func203.trans (congrArg some (by kernel_rfl))⟩
  f10 := ⟨Try.f225.name, by decide, Try.func225.trans (congrArg some (by kernel_rfl))⟩
  t0 := Try.underlying0
  a0 := Try.isAgg0
  z0 := Try.sizeOf0
  v0 := Try.zeroValue0
  t4 := Try.underlying4
  a4 := Try.isAgg4
  z4 := Try.sizeOf4
  v4 := Try.zeroValue4
  t23 := Try.underlying211
  a23 := Try.isAgg211
  z23 := Try.sizeOf211
  v23 := Try.zeroValue211
  t26 := Try.underlying3
  a26 := Try.isAgg3
  z26 := Try.sizeOf3
  v26 := Try.zeroValue3
  t27 := Try.underlying295
  a27 := Try.isAgg295
  z27 := Try.sizeOf295
  v27 := Try.zeroValue295
  t28 := Try.underlying296
  a28 := Try.isAgg296
  z28 := Try.sizeOf296
  v28 := Try.zeroValue296
  t33 := Try.underlying125
  a33 := Try.isAgg125
  z33 := Try.sizeOf125
  v33 := Try.zeroValue125 }
def Try.sortedC_ren : Go.Shelf.Ren := ⟨fun | 6 => 202 | 8 => 224 | 9 => 170 | 11 => 248 | 13 => 163 | 12 => 204 | 23 => 199 | 24 => 200 | 14 => 226 | 15 => 227 | 16 => 228 | 17 => 229 | 18 => 230 | 19 => 231 | 20 => 232 | 21 => 233 | 22 => 234 | 25 => 249 | 26 => 220 | 27 => 221 | 28 => 250 | 29 => 251 | 30 => 252 | 31 => 257 | n => n, fun | 26 => 3 | 28 => 296 | 24 => 51 | 0 => 0 | 3 => 3 | 37 => 255 | 48 => 292 | 50 => 22 | 4 => 4 | 40 => 285 | 39 => 284 | 45 => 289 | 5 => 5 | 9 => 9 | 51 => 307 | 55 => 311 | 57 => 326 | 58 => 327 | 33 => 125 | n => n, fun | n => n⟩
theorem Try.sortedC : Go.Proofs.SlLaysZI.n6 Try.prog Try.sortedC_ren := {
  mixed := by kernel_rfl
  f6 := ⟨Try.f202.name, by decide, Try.func202.trans (congrArg some (by kernel_rfl))⟩
  f8 := ⟨Try.f224.name, by decide, Try.func224.trans (congrArg some (by kernel_rfl))⟩
  f11 := ⟨Try.f248.name, by decide, Try.func248.trans (congrArg some (by kernel_rfl))⟩
  t0 := Try.underlying0
  a0 := Try.isAgg0
  z0 := Try.sizeOf0
  v0 := Try.zeroValue0
  t24 := Try.underlying51
  a24 := Try.isAgg51
  z24 := Try.sizeOf51
  v24 := Try.zeroValue51
  t26 := Try.underlying3
  a26 := Try.isAgg3
  z26 := Try.sizeOf3
  v26 := Try.zeroValue3
  t28 := Try.underlying296
  a28 := Try.isAgg296
  z28 := Try.sizeOf296
  v28 := Try.zeroValue296
  i26 := by kernel_rfl }
def Try.sortI_ren : Go.Shelf.Ren := ⟨fun | 5 => 170 | 8 => 163 | 7 => 204 | 19 => 199 | 20 => 200 | 10 => 226 | 11 => 227 | 12 => 228 | 13 => 229 | 14 => 230 | 15 => 231 | 16 => 232 | 17 => 233 | 18 => 234 | 30 => 249 | 31 => 220 | 32 => 221 | 33 => 250 | 34 => 251 | 35 => 252 | 40 => 257 | n => n, fun | 23 => 51 | 25 => 3 | 3 => 3 | 32 => 255 | 22 => 51 | 0 => 0 | 44 => 292 | 46 => 22 | 4 => 4 | 36 => 285 | 35 => 284 | 41 => 289 | 5 => 5 | 9 => 9 | 53 => 307 | 57 => 311 | 63 => 326 | 64 => 327 | n => n, fun | n => n⟩
theorem Try.sortI : Go.Proofs.SlLaysM.n5 Try.prog Try.sortI_ren := {
  mixed := by kernel_rfl
  f5 := ⟨Try.f170.name, by decide, Try.func170.trans (congrArg some (by kernel_rfl))⟩
  f7 := ⟨Try.f204.name, by decide, Try.func204.trans (congrArg some (by kernel_rfl))⟩
  f8 := Try.func163.trans (congrArg some (by kernel_rfl))
  f10 := ⟨Try.f226.name, by decide, Try.func226.trans (congrArg some (by kernel_rfl))⟩
  f11 := ⟨Try.f227.name, by decide, Try.func227.trans (congrArg some (by kernel_rfl))⟩
  f12 := ⟨Try.f228.name, by decide, Try.func228.trans (congrArg some (by kernel_rfl))⟩
  f13 := ⟨Try.f229.name, by decide, Try.func229.trans (congrArg some (by kernel_rfl))⟩
  f14 := ⟨Try.f230.name, by decide, Try.func230.trans (congrArg some (by kernel_rfl))⟩
  f15 := ⟨Try.f231.name, by decide, Try.func231.trans (congrArg some (by kernel_rfl))⟩
  f16 := ⟨Try.f232.name, by decide, Try.func232.trans (congrArg some (by kernel_rfl))⟩
  f17 := ⟨Try.f233.name, by decide, Try.func233.trans (congrArg some (by kernel_rfl))⟩
  f18 := ⟨Try.f234.name, by decide, Try.func234.trans (congrArg some (by kernel_rfl))⟩
  f19 := Try.func199.trans (congrArg some (by kernel_rfl))
  f20 := Try.func200.trans (congrArg some (by kernel_rfl))
  f30 := ⟨Try.f249.name, by decide, Try.func249.trans (congrArg some (by kernel_rfl))⟩
  f31 := Try.func220.trans (congrArg some (by kernel_rfl))
  f32 := Try.func221.trans (congrArg some (by kernel_rfl))
  f33 := ⟨Try.f250.name, by decide, Try.func250.trans (congrArg some (by kernel_rfl))⟩
  f34 := ⟨Try.f251.name, by decide, Try.func251.trans (congrArg some (by kernel_rfl))⟩
  f35 := ⟨Try.f252.name, by decide, Try.func252.trans (congrArg some (by kernel_rfl))⟩
  f40 := ⟨Try.f257.name, by decide, Try.func257.trans (congrArg some (by kernel_rfl))⟩
  t0 := Try.underlying0
  a0 := Try.isAgg0
  z0 := Try.sizeOf0
  v0 := Try.zeroValue0
  t3 := Try.underlying3
  a3 := Try.isAgg3
  z3 := Try.sizeOf3
  v3 := Try.zeroValue3
  t4 := Try.underlying4
  a4 := Try.isAgg4
  z4 := Try.sizeOf4
  v4 := Try.zeroValue4
  t5 := Try.underlying5
  a5 := Try.isAgg5
  z5 := Try.sizeOf5
  v5 := Try.zeroValue5
  t9 := Try.underlying9
  a9 := Try.isAgg9
  z9 := Try.sizeOf9
  v9 := Try.zeroValue9
  t22 := Try.underlying51
  a22 := Try.isAgg51
  z22 := Try.sizeOf51
  v22 := Try.zeroValue51
  t23 := Try.underlying51
  a23 := Try.isAgg51
  z23 := Try.sizeOf51
  v23 := Try.zeroValue51
  t25 := Try.underlying3
  a25 := Try.isAgg3
  z25 := Try.sizeOf3
  v25 := Try.zeroValue3
  t32 := Try.underlying255
  a32 := Try.isAgg255
  z32 := Try.sizeOf255
  v32 := Try.zeroValue255
  t35 := Try.underlying284
  a35 := Try.isAgg284
  z35 := Try.sizeOf284
  v35 := Try.zeroValue284
  t36 := Try.underlying285
  a36 := Try.isAgg285
  z36 := Try.sizeOf285
  v36 := Try.zeroValue285
  t41 := Try.underlying289
  a41 := Try.isAgg289
  z41 := Try.sizeOf289
  v41 := Try.zeroValue289
  t44 := Try.underlying292
  a44 := Try.isAgg292
  z44 := Try.sizeOf292
  v44 := Try.zeroValue292
  t46 := Try.underlying22
  a46 := Try.isAgg22
  z46 := Try.sizeOf22
  v46 := Try.zeroValue22
  t53 := Try.underlying307
  a53 := Try.isAgg307
  z53 := Try.sizeOf307
  v53 := Try.zeroValue307
  t57 := Try.underlying311
  a57 := Try.isAgg311
  z57 := Try.sizeOf311
  v57 := Try.zeroValue311
  t63 := Try.underlying326
  a63 := Try.isAgg326
  z63 := Try.sizeOf326
  v63 := Try.zeroValue326
  t64 := Try.underlying327
  a64 := Try.isAgg327
  z64 := Try.sizeOf327
  v64 := Try.zeroValue327 }
end Go.Proofs
