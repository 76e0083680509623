/-
  DERIVED: THE SHELF's CONTRACTS AT THIS DUMP, IN PLAIN WORDS (tools/lay-plain.mjs out of 'YtniphlhooggimaaGreatShelf.lean', which tools/lay-shelf.mjs wrote): THE SAME DECLARATIONS UNDER THE SAME NAMES: 'import', 'namespace', 'open', 'def', 'theorem' AND NOTHING ELSE: no command of the shelf's: FOR A HAND-IN. Each laying: the table of numbers ('.._ren') and one theorem, a field a fact of the dump's own or the kernel's comparison; each contract: ONE APPLICATION.
-/
import Derived.Shelf.SortG.Plain
import Derived.Shelf.SortG.SortNone
import Derived.Shelf.SlicesG.CompactI
import Derived.Shelf.SlicesE.DeleteFunc
import Derived.Ground.SlgfProg
import Derived.Ground.SlgnProg
import Derived.Test.YtniphlhooggimaaGreatProg
namespace Go.Proofs
open Go.Shelf
def Tryz.lay53_ren : Go.Shelf.Ren := ⟨fun | 53 => 166 | 64 => 179 | 63 => 178 | 78 => 189 | 79 => 190 | 70 => 180 | 71 => 181 | 72 => 182 | 73 => 183 | 74 => 184 | 75 => 185 | 59 => 186 | 76 => 187 | 77 => 188 | 88 => 191 | 89 => 192 | 90 => 193 | 91 => 194 | 92 => 195 | 68 => 196 | 96 => 197 | n => n, fun | 22 => 78 | 23 => 2 | 3 => 3 | 51 => 241 | 0 => 0 | 67 => 281 | 69 => 88 | 4 => 4 | 61 => 274 | 60 => 273 | 44 => 235 | 5 => 5 | 9 => 9 | 75 => 283 | 79 => 287 | 83 => 289 | 84 => 290 | n => n, fun | n => n⟩
theorem Tryz.lay53 : Go.Proofs.SlLaysN.n53 Tryz.prog Tryz.lay53_ren := {
  mixed := by kernel_rfl
  f53 := ⟨Tryz.f166.name, by decide, Tryz.func166.trans (congrArg some (by kernel_rfl))⟩
  f59 := ⟨Tryz.f186.name, by decide, Tryz.func186.trans (congrArg some (by kernel_rfl))⟩
  f63 := ⟨Tryz.f178.name, by decide, Tryz.func178.trans (congrArg some (by kernel_rfl))⟩
  f64 := Tryz.func179.trans (congrArg some (by kernel_rfl))
  f68 := ⟨Tryz.f196.name, by decide, Tryz.func196.trans (congrArg some (by kernel_rfl))⟩
  f70 := ⟨Tryz.f180.name, by decide, Tryz.func180.trans (congrArg some (by kernel_rfl))⟩
  f71 := ⟨Tryz.f181.name, by decide, Tryz.func181.trans (congrArg some (by kernel_rfl))⟩
  f72 := ⟨Tryz.f182.name, by decide, Tryz.func182.trans (congrArg some (by kernel_rfl))⟩
  f73 := ⟨Tryz.f183.name, by decide, Tryz.func183.trans (congrArg some (by kernel_rfl))⟩
  f74 := ⟨Tryz.f184.name, by decide, Tryz.func184.trans (congrArg some (by kernel_rfl))⟩
  f75 := ⟨Tryz.f185.name, by decide, Tryz.func185.trans (congrArg some (by kernel_rfl))⟩
  f76 := ⟨Tryz.f187.name, by decide, Tryz.func187.trans (congrArg some (by kernel_rfl))⟩
  f77 := ⟨Tryz.f188.name, by decide, Tryz.func188.trans (congrArg some (by kernel_rfl))⟩
  f78 := Tryz.func189.trans (congrArg some (by kernel_rfl))
  f79 := Tryz.func190.trans (congrArg some (by kernel_rfl))
  f88 := ⟨Tryz.f191.name, by decide, Tryz.func191.trans (congrArg some (by kernel_rfl))⟩
  f89 := Tryz.func192.trans (congrArg some (by kernel_rfl))
  f90 := Tryz.func193.trans (congrArg some (by kernel_rfl))
  f91 := ⟨Tryz.f194.name, by decide, Tryz.func194.trans (congrArg some (by kernel_rfl))⟩
  f92 := ⟨Tryz.f195.name, by decide, Tryz.func195.trans (congrArg some (by kernel_rfl))⟩
  f96 := ⟨Tryz.f197.name, by decide, Tryz.func197.trans (congrArg some (by kernel_rfl))⟩
  t0 := Tryz.underlying0
  a0 := Tryz.isAgg0
  z0 := Tryz.sizeOf0
  v0 := Tryz.zeroValue0
  t3 := Tryz.underlying3
  a3 := Tryz.isAgg3
  z3 := Tryz.sizeOf3
  v3 := Tryz.zeroValue3
  t4 := Tryz.underlying4
  a4 := Tryz.isAgg4
  z4 := Tryz.sizeOf4
  v4 := Tryz.zeroValue4
  t5 := Tryz.underlying5
  a5 := Tryz.isAgg5
  z5 := Tryz.sizeOf5
  v5 := Tryz.zeroValue5
  t9 := Tryz.underlying9
  a9 := Tryz.isAgg9
  z9 := Tryz.sizeOf9
  v9 := Tryz.zeroValue9
  t22 := Tryz.underlying78
  a22 := Tryz.isAgg78
  z22 := Tryz.sizeOf78
  v22 := Tryz.zeroValue78
  t23 := Tryz.underlying2
  a23 := Tryz.isAgg2
  z23 := Tryz.sizeOf2
  v23 := Tryz.zeroValue2
  t44 := Tryz.underlying235
  a44 := Tryz.isAgg235
  z44 := Tryz.sizeOf235
  v44 := Tryz.zeroValue235
  t51 := Tryz.underlying241
  a51 := Tryz.isAgg241
  z51 := Tryz.sizeOf241
  v51 := Tryz.zeroValue241
  t60 := Tryz.underlying273
  a60 := Tryz.isAgg273
  z60 := Tryz.sizeOf273
  v60 := Tryz.zeroValue273
  t61 := Tryz.underlying274
  a61 := Tryz.isAgg274
  z61 := Tryz.sizeOf274
  v61 := Tryz.zeroValue274
  t67 := Tryz.underlying281
  a67 := Tryz.isAgg281
  z67 := Tryz.sizeOf281
  v67 := Tryz.zeroValue281
  t69 := Tryz.underlying88
  a69 := Tryz.isAgg88
  z69 := Tryz.sizeOf88
  v69 := Tryz.zeroValue88
  t75 := Tryz.underlying283
  a75 := Tryz.isAgg283
  z75 := Tryz.sizeOf283
  v75 := Tryz.zeroValue283
  t79 := Tryz.underlying287
  a79 := Tryz.isAgg287
  z79 := Tryz.sizeOf287
  v79 := Tryz.zeroValue287
  t83 := Tryz.underlying289
  a83 := Tryz.isAgg289
  z83 := Tryz.sizeOf289
  v83 := Tryz.zeroValue289
  t84 := Tryz.underlying290
  a84 := Tryz.isAgg290
  z84 := Tryz.sizeOf290
  v84 := Tryz.zeroValue290 }
def Tryz.lay43_ren : Go.Shelf.Ren := ⟨fun | 43 => 167 | n => n, fun | 22 => 78 | 23 => 2 | 3 => 3 | 4 => 4 | 0 => 0 | n => n, fun | n => n⟩
theorem Tryz.lay43 : Go.Proofs.SlLaysN.n43 Tryz.prog Tryz.lay43_ren := {
  mixed := by kernel_rfl
  f43 := ⟨Tryz.f167.name, by decide, Tryz.func167.trans (congrArg some (by kernel_rfl))⟩
  t0 := Tryz.underlying0
  a0 := Tryz.isAgg0
  z0 := Tryz.sizeOf0
  v0 := Tryz.zeroValue0
  t3 := Tryz.underlying3
  a3 := Tryz.isAgg3
  z3 := Tryz.sizeOf3
  v3 := Tryz.zeroValue3
  t4 := Tryz.underlying4
  a4 := Tryz.isAgg4
  z4 := Tryz.sizeOf4
  v4 := Tryz.zeroValue4
  t22 := Tryz.underlying78
  a22 := Tryz.isAgg78
  z22 := Tryz.sizeOf78
  v22 := Tryz.zeroValue78
  t23 := Tryz.underlying2
  a23 := Tryz.isAgg2
  z23 := Tryz.sizeOf2
  v23 := Tryz.zeroValue2
  i23 := by kernel_rfl }
def Tryz.lay10_ren : Go.Shelf.Ren := ⟨fun | 10 => 46 | 6 => 44 | n => n, fun | 22 => 44 | 23 => 78 | 25 => 98 | 3 => 3 | 4 => 4 | 0 => 0 | n => n, fun | n => n⟩
theorem Tryz.lay10 : Go.Proofs.SlLaysH.n10 Tryz.prog Tryz.lay10_ren := {
  mixed := by kernel_rfl
  f6 := ⟨Tryz.f44.name, by decide, Tryz.func44.trans (congrArg some (by kernel_rfl))⟩
  f10 := ⟨Tryz.f46.name, by decide, Tryz.func46.trans (congrArg some (by kernel_rfl))⟩
  t0 := Tryz.underlying0
  a0 := Tryz.isAgg0
  z0 := Tryz.sizeOf0
  v0 := Tryz.zeroValue0
  t3 := Tryz.underlying3
  a3 := Tryz.isAgg3
  z3 := Tryz.sizeOf3
  v3 := Tryz.zeroValue3
  t4 := Tryz.underlying4
  a4 := Tryz.isAgg4
  z4 := Tryz.sizeOf4
  v4 := Tryz.zeroValue4
  t22 := Tryz.underlying44
  a22 := Tryz.isAgg44
  z22 := Tryz.sizeOf44
  v22 := Tryz.zeroValue44
  a23 := Tryz.isAgg78
  z23 := Tryz.sizeOf78
  t25 := Tryz.underlying98
  a25 := Tryz.isAgg98
  z25 := Tryz.sizeOf98
  v25 := Tryz.zeroValue98 }
end Go.Proofs
