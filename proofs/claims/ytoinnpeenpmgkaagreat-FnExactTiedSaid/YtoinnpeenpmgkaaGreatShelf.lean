/-
  DERIVED: THE SHELF's CONTRACTS AT THIS DUMP, IN PLAIN WORDS (tools/lay-plain.mjs out of 'YtoinnpeenpmgkaaGreatShelf.lean', which tools/lay-shelf.mjs wrote): THE SAME DECLARATIONS UNDER THE SAME NAMES: 'import', 'namespace', 'open', 'def', 'theorem' AND NOTHING ELSE: no command of the shelf's: FOR A HAND-IN. Each laying: the table of numbers ('.._ren') and one theorem, a field a fact of the dump's own or the kernel's comparison; each contract: ONE APPLICATION.
-/
import Derived.Shelf.SortG.Plain
import Derived.Shelf.SortG.SortNone
import Derived.Shelf.SlicesG.CompactI
import Derived.Ground.SlgnProg
import Derived.Test.YtoinnpeenpmgkaaGreatProg
namespace Go.Proofs
open Go.Shelf
def Tryz.lay53_ren : Go.Shelf.Ren := ⟨fun | 53 => 165 | 64 => 185 | 63 => 184 | 78 => 204 | 79 => 205 | 70 => 195 | 71 => 196 | 72 => 197 | 73 => 198 | 74 => 199 | 75 => 200 | 59 => 201 | 76 => 202 | 77 => 203 | 88 => 207 | 89 => 208 | 90 => 209 | 91 => 210 | 92 => 211 | 68 => 212 | 96 => 213 | n => n, fun | 22 => 32 | 23 => 2 | 3 => 3 | 51 => 200 | 0 => 0 | 67 => 291 | 69 => 199 | 4 => 4 | 61 => 284 | 60 => 283 | 44 => 232 | 5 => 5 | 9 => 9 | 75 => 294 | 79 => 298 | 83 => 300 | 84 => 301 | n => n, fun | n => n⟩
theorem Tryz.lay53 : Go.Proofs.SlLaysN.n53 Tryz.prog Tryz.lay53_ren := {
  mixed := by kernel_rfl
  f53 := ⟨Tryz.f165.name, by decide, Tryz.func165.trans (congrArg some (by kernel_rfl))⟩
  f59 := ⟨Tryz.f201.name, by decide, Tryz.func201.trans (congrArg some (by kernel_rfl))⟩
  f63 := ⟨Tryz.f184.name, by decide, Tryz.func184.trans (congrArg some (by kernel_rfl))⟩
  f64 := Tryz.func185.trans (congrArg some (by kernel_rfl))
  f68 := ⟨Tryz.f212.name, by decide, Tryz.func212.trans (congrArg some (by kernel_rfl))⟩
  f70 := ⟨Tryz.f195.name, by decide, Tryz.func195.trans (congrArg some (by kernel_rfl))⟩
  f71 := ⟨Tryz.f196.name, by decide, Tryz.func196.trans (congrArg some (by kernel_rfl))⟩
  f72 := ⟨Tryz.f197.name, by decide, Tryz.func197.trans (congrArg some (by kernel_rfl))⟩
  f73 := ⟨Tryz.f198.name, by decide, Tryz.func198.trans (congrArg some (by kernel_rfl))⟩
  f74 := ⟨Tryz.f199.name, by decide, Tryz.func199.trans (congrArg some (by kernel_rfl))⟩
  f75 := ⟨Tryz.f200.name, by decide, Tryz.func200.trans (congrArg some (by kernel_rfl))⟩
  f76 := ⟨Tryz.f202.name, by decide, Tryz.func202.trans (congrArg some (by kernel_rfl))⟩
  f77 := ⟨Tryz.f203.name, by decide, Tryz.func203.trans (congrArg some (by kernel_rfl))⟩
  f78 := Tryz.func204.trans (congrArg some (by kernel_rfl))
  f79 := Tryz.func205.trans (congrArg some (by kernel_rfl))
  f88 := ⟨Tryz.f207.name, by decide, Tryz.func207.trans (congrArg some (by kernel_rfl))⟩
  f89 := Tryz.func208.trans (congrArg some (by kernel_rfl))
  f90 := Tryz.func209.trans (congrArg some (by kernel_rfl))
  f91 := ⟨Tryz.f210.name, by decide, Tryz.func210.trans (congrArg some (by kernel_rfl))⟩
  f92 := ⟨Tryz.f211.name, by decide, Tryz.func211.trans (congrArg some (by kernel_rfl))⟩
  f96 := ⟨Tryz.f213.name, by decide, Tryz.func213.trans (congrArg some (by kernel_rfl))⟩
  t0 := Tryz.underlying0
  a0 := Tryz.isAgg0
  z0 := Tryz.sizeOf0
  v0 := Tryz.zeroValue0
  t3 := Tryz.underlying3
  a3 := Tryz.isAgg3
  z3 := Tryz.sizeOf3
  v3 := Tryz.zeroValue3
  t4 := Tryz.underlying4
  a4 := Tryz.isAgg4
  z4 := Tryz.sizeOf4
  v4 := Tryz.zeroValue4
  t5 := Tryz.underlying5
  a5 := Tryz.isAgg5
  z5 := Tryz.sizeOf5
  v5 := Tryz.zeroValue5
  t9 := Tryz.underlying9
  a9 := Tryz.isAgg9
  z9 := Tryz.sizeOf9
  v9 := Tryz.zeroValue9
  t22 := Tryz.underlying32
  a22 := Tryz.isAgg32
  z22 := Tryz.sizeOf32
  v22 := Tryz.zeroValue32
  t23 := Tryz.underlying2
  a23 := Tryz.isAgg2
  z23 := Tryz.sizeOf2
  v23 := Tryz.zeroValue2
  t44 := Tryz.underlying232
  a44 := Tryz.isAgg232
  z44 := Tryz.sizeOf232
  v44 := Tryz.zeroValue232
  t51 := Tryz.underlying200
  a51 := Tryz.isAgg200
  z51 := Tryz.sizeOf200
  v51 := Tryz.zeroValue200
  t60 := Tryz.underlying283
  a60 := Tryz.isAgg283
  z60 := Tryz.sizeOf283
  v60 := Tryz.zeroValue283
  t61 := Tryz.underlying284
  a61 := Tryz.isAgg284
  z61 := Tryz.sizeOf284
  v61 := Tryz.zeroValue284
  t67 := Tryz.underlying291
  a67 := Tryz.isAgg291
  z67 := Tryz.sizeOf291
  v67 := Tryz.zeroValue291
  t69 := Tryz.underlying199
  a69 := Tryz.isAgg199
  z69 := Tryz.sizeOf199
  v69 := Tryz.zeroValue199
  t75 := Tryz.underlying294
  a75 := Tryz.isAgg294
  z75 := Tryz.sizeOf294
  v75 := Tryz.zeroValue294
  t79 := Tryz.underlying298
  a79 := Tryz.isAgg298
  z79 := Tryz.sizeOf298
  v79 := Tryz.zeroValue298
  t83 := Tryz.underlying300
  a83 := Tryz.isAgg300
  z83 := Tryz.sizeOf300
  v83 := Tryz.zeroValue300
  t84 := Tryz.underlying301
  a84 := Tryz.isAgg301
  z84 := Tryz.sizeOf301
  v84 := Tryz.zeroValue301 }
def Tryz.lay43_ren : Go.Shelf.Ren := ⟨fun | 43 => 166 | n => n, fun | 22 => 32 | 23 => 2 | 3 => 3 | 4 => 4 | 0 => 0 | n => n, fun | n => n⟩
theorem Tryz.lay43 : Go.Proofs.SlLaysN.n43 Tryz.prog Tryz.lay43_ren := {
  mixed := by kernel_rfl
  f43 := ⟨Tryz.f166.name, by decide, Tryz.func166.trans (congrArg some (by kernel_rfl))⟩
  t0 := Tryz.underlying0
  a0 := Tryz.isAgg0
  z0 := Tryz.sizeOf0
  v0 := Tryz.zeroValue0
  t3 := Tryz.underlying3
  a3 := Tryz.isAgg3
  z3 := Tryz.sizeOf3
  v3 := Tryz.zeroValue3
  t4 := Tryz.underlying4
  a4 := Tryz.isAgg4
  z4 := Tryz.sizeOf4
  v4 := Tryz.zeroValue4
  t22 := Tryz.underlying32
  a22 := Tryz.isAgg32
  z22 := Tryz.sizeOf32
  v22 := Tryz.zeroValue32
  t23 := Tryz.underlying2
  a23 := Tryz.isAgg2
  z23 := Tryz.sizeOf2
  v23 := Tryz.zeroValue2
  i23 := by kernel_rfl }
end Go.Proofs
