/-
  DERIVED: THE SHELF's CONTRACTS AT THIS DUMP, IN PLAIN WORDS (tools/lay-plain.mjs out of 'YtlohhmmaibiimaaGreatShelf.lean', which tools/lay-shelf.mjs wrote): THE SAME DECLARATIONS UNDER THE SAME NAMES: 'import', 'namespace', 'open', 'def', 'theorem' AND NOTHING ELSE: no command of the shelf's: FOR A HAND-IN. Each laying: the table of numbers ('.._ren') and one theorem, a field a fact of the dump's own or the kernel's comparison; each contract: ONE APPLICATION.
-/
import Derived.Shelf.SortG.Plain
import Derived.Shelf.SortG.SortNone
import Derived.Shelf.SlicesG.CompactI
import Derived.Ground.SlgnProg
import Derived.Test.YtlohhmmaibiimaaGreatProg
namespace Go.Proofs
open Go.Shelf
def Tryz.lay53_ren : Go.Shelf.Ren := ⟨fun | 53 => 157 | 64 => 210 | 63 => 209 | 78 => 242 | 79 => 243 | 70 => 233 | 71 => 234 | 72 => 235 | 73 => 236 | 74 => 237 | 75 => 238 | 59 => 239 | 76 => 240 | 77 => 241 | 88 => 259 | 89 => 260 | 90 => 261 | 91 => 262 | 92 => 263 | 68 => 264 | 96 => 268 | n => n, fun | 22 => 72 | 23 => 2 | 3 => 3 | 51 => 269 | 0 => 0 | 67 => 340 | 69 => 216 | 4 => 4 | 61 => 333 | 60 => 332 | 44 => 314 | 5 => 5 | 9 => 9 | 75 => 352 | 79 => 356 | 83 => 360 | 84 => 361 | n => n, fun | n => n⟩
theorem Tryz.lay53 : Go.Proofs.SlLaysN.n53 Tryz.prog Tryz.lay53_ren := {
  mixed := by kernel_rfl
  f53 := ⟨Tryz.f157.name, by decide, Tryz.func157.trans (congrArg some (by kernel_rfl))⟩
  f59 := ⟨Tryz.f239.name, by decide, Tryz.func239.trans (congrArg some (by kernel_rfl))⟩
  f63 := ⟨Tryz.f209.name, by decide, Tryz.func209.trans (congrArg some (by kernel_rfl))⟩
  f64 := Tryz.func210.trans (congrArg some (by kernel_rfl))
  f68 := ⟨Tryz.f264.name, by decide, Tryz.func264.trans (congrArg some (by kernel_rfl))⟩
  f70 := ⟨Tryz.f233.name, by decide, Tryz.func233.trans (congrArg some (by kernel_rfl))⟩
  f71 := ⟨Tryz.f234.name, by decide, Tryz.func234.trans (congrArg some (by kernel_rfl))⟩
  f72 := ⟨Tryz.f235.name, by decide, Tryz.func235.trans (congrArg some (by kernel_rfl))⟩
  f73 := ⟨Tryz.f236.name, by decide, Tryz.func236.trans (congrArg some (by kernel_rfl))⟩
  f74 := ⟨Tryz.f237.name, by decide, Tryz.func237.trans (congrArg some (by kernel_rfl))⟩
  f75 := ⟨Tryz.f238.name, by decide, Tryz.func238.trans (congrArg some (by kernel_rfl))⟩
  f76 := ⟨Tryz.f240.name, by decide, Tryz.func240.trans (congrArg some (by kernel_rfl))⟩
  f77 := ⟨Tryz.f241.name, by decide, Tryz.func241.trans (congrArg some (by kernel_rfl))⟩
  f78 := Tryz.func242.trans (congrArg some (by kernel_rfl))
  f79 := Tryz.func243.trans (congrArg some (by kernel_rfl))
  f88 := ⟨Tryz.f259.name, by decide, Tryz.func259.trans (congrArg some (by kernel_rfl))⟩
  f89 := Tryz.func260.trans (congrArg some (by kernel_rfl))
  f90 := Tryz.func261.trans (congrArg some (by kernel_rfl))
  f91 := ⟨Tryz.f262.name, by decide, Tryz.func262.trans (congrArg some (by kernel_rfl))⟩
  f92 := ⟨Tryz.f263.name, by decide, Tryz.func263.trans (congrArg some (by kernel_rfl))⟩
  f96 := ⟨Tryz.f268.name, by decide, Tryz.func268.trans (congrArg some (by kernel_rfl))⟩
  t0 := Tryz.underlying0
  a0 := Tryz.isAgg0
  z0 := Tryz.sizeOf0
  v0 := Tryz.zeroValue0
  t3 := Tryz.underlying3
  a3 := Tryz.isAgg3
  z3 := Tryz.sizeOf3
  v3 := Tryz.zeroValue3
  t4 := Tryz.underlying4
  a4 := Tryz.isAgg4
  z4 := Tryz.sizeOf4
  v4 := Tryz.zeroValue4
  t5 := Tryz.underlying5
  a5 := Tryz.isAgg5
  z5 := Tryz.sizeOf5
  v5 := Tryz.zeroValue5
  t9 := Tryz.underlying9
  a9 := Tryz.isAgg9
  z9 := Tryz.sizeOf9
  v9 := Tryz.zeroValue9
  t22 := Tryz.underlying72
  a22 := Tryz.isAgg72
  z22 := Tryz.sizeOf72
  v22 := Tryz.zeroValue72
  t23 := Tryz.underlying2
  a23 := Tryz.isAgg2
  z23 := Tryz.sizeOf2
  v23 := Tryz.zeroValue2
  t44 := Tryz.underlying314
  a44 := Tryz.isAgg314
  z44 := Tryz.sizeOf314
  v44 := Tryz.zeroValue314
  t51 := Tryz.underlying269
  a51 := Tryz.isAgg269
  z51 := Tryz.sizeOf269
  v51 := Tryz.zeroValue269
  t60 := Tryz.underlying332
  a60 := Tryz.isAgg332
  z60 := Tryz.sizeOf332
  v60 := Tryz.zeroValue332
  t61 := Tryz.underlying333
  a61 := Tryz.isAgg333
  z61 := Tryz.sizeOf333
  v61 := Tryz.zeroValue333
  t67 := Tryz.underlying340
  a67 := Tryz.isAgg340
  z67 := Tryz.sizeOf340
  v67 := Tryz.zeroValue340
  t69 := Tryz.underlying216
  a69 := Tryz.isAgg216
  z69 := Tryz.sizeOf216
  v69 := Tryz.zeroValue216
  t75 := Tryz.underlying352
  a75 := Tryz.isAgg352
  z75 := Tryz.sizeOf352
  v75 := Tryz.zeroValue352
  t79 := Tryz.underlying356
  a79 := Tryz.isAgg356
  z79 := Tryz.sizeOf356
  v79 := Tryz.zeroValue356
  t83 := Tryz.underlying360
  a83 := Tryz.isAgg360
  z83 := Tryz.sizeOf360
  v83 := Tryz.zeroValue360
  t84 := Tryz.underlying361
  a84 := Tryz.isAgg361
  z84 := Tryz.sizeOf361
  v84 := Tryz.zeroValue361 }
def Tryz.lay43_ren : Go.Shelf.Ren := ⟨fun | 43 => 158 | n => n, fun | 22 => 72 | 23 => 2 | 3 => 3 | 4 => 4 | 0 => 0 | n => n, fun | n => n⟩
theorem Tryz.lay43 : Go.Proofs.SlLaysN.n43 Tryz.prog Tryz.lay43_ren := {
  mixed := by kernel_rfl
  f43 := ⟨Tryz.f158.name, by decide, Tryz.func158.trans (congrArg some (by kernel_rfl))⟩
  t0 := Tryz.underlying0
  a0 := Tryz.isAgg0
  z0 := Tryz.sizeOf0
  v0 := Tryz.zeroValue0
  t3 := Tryz.underlying3
  a3 := Tryz.isAgg3
  z3 := Tryz.sizeOf3
  v3 := Tryz.zeroValue3
  t4 := Tryz.underlying4
  a4 := Tryz.isAgg4
  z4 := Tryz.sizeOf4
  v4 := Tryz.zeroValue4
  t22 := Tryz.underlying72
  a22 := Tryz.isAgg72
  z22 := Tryz.sizeOf72
  v22 := Tryz.zeroValue72
  t23 := Tryz.underlying2
  a23 := Tryz.isAgg2
  z23 := Tryz.sizeOf2
  v23 := Tryz.zeroValue2
  i23 := by kernel_rfl }
end Go.Proofs
