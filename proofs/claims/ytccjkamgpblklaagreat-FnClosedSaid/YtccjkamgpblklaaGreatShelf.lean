/-
  DERIVED: THE SHELF's CONTRACTS AT THIS DUMP, IN PLAIN WORDS (tools/lay-plain.mjs out of 'YtccjkamgpblklaaGreatShelf.lean', which tools/lay-shelf.mjs wrote): THE SAME DECLARATIONS UNDER THE SAME NAMES: 'import', 'namespace', 'open', 'def', 'theorem' AND NOTHING ELSE: no command of the shelf's: FOR A HAND-IN. Each laying: the table of numbers ('.._ren') and one theorem, a field a fact of the dump's own or the kernel's comparison; each contract: ONE APPLICATION.
-/
import Derived.Shelf.SortG.Plain
import Derived.Shelf.SortG.SortNone
import Derived.Shelf.SlicesG.CompactI
import Derived.Ground.SlgnProg
import Derived.Test.YtccjkamgpblklaaGreatProg
namespace Go.Proofs
open Go.Shelf
def Tryz.lay53_ren : Go.Shelf.Ren := ⟨fun | 53 => 36 | 64 => 75 | 63 => 74 | 78 => 111 | 79 => 112 | 70 => 102 | 71 => 103 | 72 => 104 | 73 => 105 | 74 => 106 | 75 => 107 | 59 => 108 | 76 => 109 | 77 => 110 | 88 => 149 | 89 => 150 | 90 => 151 | 91 => 152 | 92 => 153 | 68 => 154 | 96 => 178 | n => n, fun | 22 => 33 | 23 => 2 | 3 => 3 | 51 => 144 | 0 => 0 | 67 => 194 | 69 => 101 | 4 => 4 | 61 => 186 | 60 => 185 | 44 => 191 | 5 => 5 | 9 => 9 | 75 => 234 | 79 => 237 | 83 => 259 | 84 => 260 | n => n, fun | n => n⟩
theorem Tryz.lay53 : Go.Proofs.SlLaysN.n53 Tryz.prog Tryz.lay53_ren := {
  mixed := by kernel_rfl
  f53 := ⟨Tryz.f36.name, by decide, Tryz.func36.trans (congrArg some (by kernel_rfl))⟩
  f59 := ⟨Tryz.f108.name, by decide, Tryz.func108.trans (congrArg some (by kernel_rfl))⟩
  f63 := ⟨Tryz.f74.name, by decide, Tryz.func74.trans (congrArg some (by kernel_rfl))⟩
  f64 := Tryz.func75.trans (congrArg some (by kernel_rfl))
  f68 := ⟨Tryz.f154.name, by decide, Tryz.func154.trans (congrArg some (by kernel_rfl))⟩
  f70 := ⟨Tryz.f102.name, by decide, Tryz.func102.trans (congrArg some (by kernel_rfl))⟩
  f71 := ⟨Tryz.f103.name, by decide, Tryz.func103.trans (congrArg some (by kernel_rfl))⟩
  f72 := ⟨Tryz.f104.name, by decide, Tryz.func104.trans (congrArg some (by kernel_rfl))⟩
  f73 := ⟨Tryz.f105.name, by decide, Tryz.func105.trans (congrArg some (by kernel_rfl))⟩
  f74 := ⟨Tryz.f106.name, by decide, Tryz.func106.trans (congrArg some (by kernel_rfl))⟩
  f75 := ⟨Tryz.f107.name, by decide, Tryz.func107.trans (congrArg some (by kernel_rfl))⟩
  f76 := ⟨Tryz.f109.name, by decide, Tryz.func109.trans (congrArg some (by kernel_rfl))⟩
  f77 := ⟨Tryz.f110.name, by decide, Tryz.func110.trans (congrArg some (by kernel_rfl))⟩
  f78 := Tryz.func111.trans (congrArg some (by kernel_rfl))
  f79 := Tryz.func112.trans (congrArg some (by kernel_rfl))
  f88 := ⟨Tryz.f149.name, by decide, Tryz.func149.trans (congrArg some (by kernel_rfl))⟩
  f89 := Tryz.func150.trans (congrArg some (by kernel_rfl))
  f90 := Tryz.func151.trans (congrArg some (by kernel_rfl))
  f91 := ⟨Tryz.f152.name, by decide, Tryz.func152.trans (congrArg some (by kernel_rfl))⟩
  f92 := ⟨Tryz.f153.name, by decide, Tryz.func153.trans (congrArg some (by kernel_rfl))⟩
  f96 := ⟨Tryz.f178.name, by decide, Tryz.func178.trans (congrArg some (by kernel_rfl))⟩
  t0 := Tryz.underlying0
  a0 := Tryz.isAgg0
  z0 := Tryz.sizeOf0
  v0 := Tryz.zeroValue0
  t3 := Tryz.underlying3
  a3 := Tryz.isAgg3
  z3 := Tryz.sizeOf3
  v3 := Tryz.zeroValue3
  t4 := Tryz.underlying4
  a4 := Tryz.isAgg4
  z4 := Tryz.sizeOf4
  v4 := Tryz.zeroValue4
  t5 := Tryz.underlying5
  a5 := Tryz.isAgg5
  z5 := Tryz.sizeOf5
  v5 := Tryz.zeroValue5
  t9 := Tryz.underlying9
  a9 := Tryz.isAgg9
  z9 := Tryz.sizeOf9
  v9 := Tryz.zeroValue9
  t22 := Tryz.underlying33
  a22 := Tryz.isAgg33
  z22 := Tryz.sizeOf33
  v22 := Tryz.zeroValue33
  t23 := Tryz.underlying2
  a23 := Tryz.isAgg2
  z23 := Tryz.sizeOf2
  v23 := Tryz.zeroValue2
  t44 := Tryz.underlying191
  a44 := Tryz.isAgg191
  z44 := Tryz.sizeOf191
  v44 := Tryz.zeroValue191
  t51 := Tryz.underlying144
  a51 := Tryz.isAgg144
  z51 := Tryz.sizeOf144
  v51 := Tryz.zeroValue144
  t60 := Tryz.underlying185
  a60 := Tryz.isAgg185
  z60 := Tryz.sizeOf185
  v60 := Tryz.zeroValue185
  t61 := Tryz.underlying186
  a61 := Tryz.isAgg186
  z61 := Tryz.sizeOf186
  v61 := Tryz.zeroValue186
  t67 := Tryz.underlying194
  a67 := Tryz.isAgg194
  z67 := Tryz.sizeOf194
  v67 := Tryz.zeroValue194
  t69 := Tryz.underlying101
  a69 := Tryz.isAgg101
  z69 := Tryz.sizeOf101
  v69 := Tryz.zeroValue101
  t75 := Tryz.underlying234
  a75 := Tryz.isAgg234
  z75 := Tryz.sizeOf234
  v75 := Tryz.zeroValue234
  t79 := Tryz.underlying237
  a79 := Tryz.isAgg237
  z79 := Tryz.sizeOf237
  v79 := Tryz.zeroValue237
  t83 := Tryz.underlying259
  a83 := Tryz.isAgg259
  z83 := Tryz.sizeOf259
  v83 := Tryz.zeroValue259
  t84 := Tryz.underlying260
  a84 := Tryz.isAgg260
  z84 := Tryz.sizeOf260
  v84 := Tryz.zeroValue260 }
def Tryz.lay43_ren : Go.Shelf.Ren := ⟨fun | 43 => 37 | n => n, fun | 22 => 33 | 23 => 2 | 3 => 3 | 4 => 4 | 0 => 0 | n => n, fun | n => n⟩
theorem Tryz.lay43 : Go.Proofs.SlLaysN.n43 Tryz.prog Tryz.lay43_ren := {
  mixed := by kernel_rfl
  f43 := ⟨Tryz.f37.name, by decide, Tryz.func37.trans (congrArg some (by kernel_rfl))⟩
  t0 := Tryz.underlying0
  a0 := Tryz.isAgg0
  z0 := Tryz.sizeOf0
  v0 := Tryz.zeroValue0
  t3 := Tryz.underlying3
  a3 := Tryz.isAgg3
  z3 := Tryz.sizeOf3
  v3 := Tryz.zeroValue3
  t4 := Tryz.underlying4
  a4 := Tryz.isAgg4
  z4 := Tryz.sizeOf4
  v4 := Tryz.zeroValue4
  t22 := Tryz.underlying33
  a22 := Tryz.isAgg33
  z22 := Tryz.sizeOf33
  v22 := Tryz.zeroValue33
  t23 := Tryz.underlying2
  a23 := Tryz.isAgg2
  z23 := Tryz.sizeOf2
  v23 := Tryz.zeroValue2
  i23 := by kernel_rfl }
end Go.Proofs
