import Derived.KernelRfl
import Derived.Test.YtjbdmijibelnlaaGreatK10
set_option linter.unusedVariables false
set_option linter.unusedSimpArgs false
namespace Go.Proofs.X
open Go Go.Va
set_option maxRecDepth 100000
noncomputable section
abbrev E72 : Env := ⟨tab, lookH [(104, c104), (117, c117)], { deep := true }⟩
def impl_LiteralsOk (a : (List Timpl_Decl.V)) (b : (List Timpl_Literal.V)) : Option Bool :=
 (impl_DeclsOk a).bind fun c =>
 bif c then
 (impl_literalsOk a b).bind fun d =>
 some d
 else
 some false
theorem U72 (R : Type) (a : (List Timpl_Decl.V)) (b : (List Timpl_Literal.V)) (K : AV → List Blk → Option R) : runF E72 Tryz.f72 R [dD (.sl Timpl_Decl) a, dD (.sl Timpl_Literal) b] [] K = (impl_LiteralsOk a b).bind fun r => K (dB r) [] := by
  simp only [impl_LiteralsOk, bC, bI, bN, bE, bA, bS, bO, bM]
  kernel_rfl
def c72 : Va.Callee := brC [.d (.sl Timpl_Decl), .d (.sl Timpl_Literal)] [⟨[.dat [] (.sl Timpl_Decl), .dat [] (.sl Timpl_Literal)], [], Bool, fun p => impl_LiteralsOk p.1.1 p.1.2.1, fun r => (dB r, [])⟩]
theorem c72_snd : SoundC Tryz.prog 72 c72 := br_snd (fn := Tryz.f72) (by kernel_rfl) (by kernel_rfl) (by kernel_rfl) ⟨⟨E72, ⟨⟨tabok, fns_ok ⟨c104_snd, c117_snd, trivial⟩⟩, mixed⟩, fun p R K => U72 R p.1.1 p.1.2.1 K⟩, trivial⟩
noncomputable def c130 : Va.Callee := cloneC 169 (.int .u64) 8
noncomputable abbrev e130 : Env := { tab := tab, fns := lookH [], fi := { } }
theorem e130_ok : ProgOk Tryz.prog e130 := ⟨⟨tabok, fns_ok trivial⟩, mixed⟩
theorem c130_snd : SoundC Tryz.prog 130 c130 :=
  clone_snd (fn := Tryz.f130) e130_ok (by kernel_rfl) (by kernel_rfl) rfl rfl rfl ⟨rfl, rfl, rfl⟩ ⟨rfl, rfl, rfl⟩ (ti := ⟨.sl (.int .u64), [], 169, 24, 0⟩) (by kernel_rfl) rfl (by kernel_rfl) (fun xs => by kernel_rfl) (fun xs => by kernel_rfl)
    fun xs h => by
      have h0 : ev e130 0 (sub (code Tryz.f130) [1, 1]) (Ex × St) ⟨[.dat [] (.sl (.int .u64)) xs, .un 0, .zs, .dat [] (.sl (.int .u64)) xs, .bool false, .un 0, .un 0, .un 0], []⟩ pair2 = if xs.length * 8 ≤ 140737488355328 then some (.ret, ⟨[.dat [] (.sl (.int .u64)) xs, .un 0, .ref 0, .dat [] (.sl (.int .u64)) xs, .bool false, .zs, .dat [] (.sl (.int .u64)) xs, .ref 0], [.row 169 .deep (.int .u64) xs]⟩) else none := by kernel_rfl
      exact h0.trans (if_pos h)
abbrev E73 : Env := ⟨tab, lookH [(130, c130)], { deep := true }⟩
def impl_cloneBits (a : Timpl_Bits.V) : Option (Int × (List Int)) :=
 if a.2.1.length * 8 ≤ 140737488355328 then
 some (a.1, a.2.1)
 else none
theorem U73 (R : Type) (a : Timpl_Bits.V) (K : AV → List Blk → Option R) : runF E73 Tryz.f81 R [dD Timpl_Bits a] [] K = (impl_cloneBits a).bind fun r => K (.pr (dI r.1) (.pr (.ref 0) .u)) [.row 169 .deep (.int .u64) r.2] := by
  simp only [impl_cloneBits, bC, bI, bN, bE, bA, bS, bO, bM]
  kernel_rfl
def c81 : Va.Callee := brC [.d Timpl_Bits] [⟨[.dat [] Timpl_Bits], [], (Int × (List Int)), fun p => impl_cloneBits p.1.1, fun r => (.pr (dI r.1) (.pr (.ref 0) .u), [.row 169 .deep (.int .u64) r.2])⟩]
theorem c81_snd : SoundC Tryz.prog 81 c81 := br_snd (fn := Tryz.f81) (by kernel_rfl) (by kernel_rfl) (by kernel_rfl) ⟨⟨E73, ⟨⟨tabok, fns_ok ⟨c130_snd, trivial⟩⟩, mixed⟩, fun p R K => U73 R p.1.1 K⟩, trivial⟩
abbrev E74 : Env := ⟨tab, lookH [], { deep := true }⟩
def impl_constant (a : Int) (b : (List Int)) : (Int × Int × Int × Int × (List Int)) := ((-1), 0, a, a, b)
theorem U74 (R : Type) (a : Int) (b : (List Int)) (K : AV → List Blk → Option R) : runF E74 Tryz.f156 R [.pr (dI a) (.pr (.ref 0) .u)] [.row 169 .deep (.int .u64) b] K = K (.pr (dI (impl_constant a b).1) (.pr (dI (impl_constant a b).2.1) (.pr (dI (impl_constant a b).2.2.1) (.pr (.pr (dI (impl_constant a b).2.2.2.1) (.pr (.ref 0) .u)) .u)))) [.row 169 .deep (.int .u64) (impl_constant a b).2.2.2.2] := by
  kernel_rfl
def c156 : Va.Callee := brC [.raw] [⟨[.pr (.dat [] (.int .i64)) (.pr (.k (.ref 0)) (.k .u))], [.row 169 .deep (.int .u64)], (Int × Int × Int × Int × (List Int)), fun p => some (impl_constant p.1.1.1 p.2.1), fun r => (.pr (dI r.1) (.pr (dI r.2.1) (.pr (dI r.2.2.1) (.pr (.pr (dI r.2.2.2.1) (.pr (.ref 0) .u)) .u))), [.row 169 .deep (.int .u64) r.2.2.2.2])⟩]
theorem c156_snd : SoundC Tryz.prog 156 c156 := br_snd (fn := Tryz.f156) (by kernel_rfl) (by kernel_rfl) (by kernel_rfl) ⟨⟨E74, ⟨⟨tabok, fns_ok trivial⟩, mixed⟩, fun p R K => U74 R p.1.1.1 p.2.1 K⟩, trivial⟩
abbrev E75 : Env := ⟨tab, lookH [], { deep := true }⟩
def impl_Seg_meets (a : Timpl_Seg.V) (b : Timpl_Seg.V) : Bool := ((a.1 == b.1) && ((a.1 == (-1)) || ((IntKind.i64.wrap (a.2.1 + a.2.2.1)) == b.2.1)))
theorem U75 (R : Type) (a : Timpl_Seg.V) (b : Timpl_Seg.V) (K : AV → List Blk → Option R) : runF E75 Tryz.f162 R [dD Timpl_Seg a, dD Timpl_Seg b] [] K = K (dB (impl_Seg_meets a b)) [] := by
  have h : runF E75 Tryz.f162 R [dD Timpl_Seg a, dD Timpl_Seg b] [] K =
 bif (a.1 == b.1) then
 bif (a.1 == (-1)) then
 K (dB true) []
 else
 K (dB ((IntKind.i64.wrap (a.2.1 + a.2.2.1)) == b.2.1)) []
 else
 K (dB false) [] := by kernel_rfl
  rw [h]
  unfold impl_Seg_meets
  cases h1 : (a.1 == b.1)
  · first | rfl | kernel_rfl
  · cases h2 : (a.1 == (-1))
    · first | rfl | kernel_rfl
    · first | rfl | kernel_rfl
def c162 : Va.Callee := brC [.d Timpl_Seg, .d Timpl_Seg] [⟨[.dat [] Timpl_Seg, .dat [] Timpl_Seg], [], Bool, fun p => some (impl_Seg_meets p.1.1 p.1.2.1), fun r => (dB r, [])⟩]
theorem c162_snd : SoundC Tryz.prog 162 c162 := br_snd (fn := Tryz.f162) (by kernel_rfl) (by kernel_rfl) (by kernel_rfl) ⟨⟨E75, ⟨⟨tabok, fns_ok trivial⟩, mixed⟩, fun p R K => U75 R p.1.1 p.1.2.1 K⟩, trivial⟩
abbrev E76 : Env := ⟨tab, lookH [(148, c148)], { deep := true }⟩
def impl_zeroBits (a : Int) : Option (Int × (List Int)) :=
 if Ty.row (.int .u64) = true ∧ (0 : Int) ≤ (impl_wordsFor a) ∧ (impl_wordsFor a) ≤ (impl_wordsFor a) ∧ ((8 : Nat) : Int) * (impl_wordsFor a) ≤ (281474976710656 : Int) ∧ (impl_wordsFor a) ≤ (9223372036854775807 : Int) then
 some (a, (List.replicate (impl_wordsFor a).toNat 0))
 else none
theorem U76 (R : Type) (a : Int) (K : AV → List Blk → Option R) : runF E76 Tryz.f105 R [dI a] [] K = (impl_zeroBits a).bind fun r => K (.pr (dI r.1) (.pr (.ref 0) .u)) [.row 169 .deep (.int .u64) r.2] := by
  simp only [impl_zeroBits, bC, bI, bN, bE, bA, bS, bO, bM]
  kernel_rfl
def c105 : Va.Callee := brC [.d (.int .i64)] [⟨[.dat [] (.int .i64)], [], (Int × (List Int)), fun p => impl_zeroBits p.1.1, fun r => (.pr (dI r.1) (.pr (.ref 0) .u), [.row 169 .deep (.int .u64) r.2])⟩]
theorem c105_snd : SoundC Tryz.prog 105 c105 := br_snd (fn := Tryz.f105) (by kernel_rfl) (by kernel_rfl) (by kernel_rfl) ⟨⟨E76, ⟨⟨tabok, fns_ok ⟨c148_snd, trivial⟩⟩, mixed⟩, fun p R K => U76 R p.1.1 K⟩, trivial⟩
abbrev E77 : Env := ⟨tab, lookH [], { deep := true, heads := [(2, { live := [1, 3, 10, 11, 12] })], outs := [(2, { live := [] })], joins := [(7, { live := [1, 3, 7, 8, 10, 11, 12, 44] }), (8, { live := [1, 3, 10, 11, 12] })], ents := [(7, [1, 3, 7, 8, 10, 11, 12]), (8, [1, 3, 10, 11, 12])] }⟩
def S77_2 (a : Int) (b : Int) (c : (List Int)) (d : Int) (z_ : (Int × (List Int))) : St := sT 60 [(1, dI a), (3, .ptr 1 0 [] 0), (10, dD (.sl (.int .u64)) c), (11, dI d), (12, dI z_.1)] [.row 169 .deep (.int .u64) z_.2, .box (.pr (dI b) (.pr (.ref 0) .u))]
def O77_2 (a : Int) (b : Int) (c : (List Int)) (d : Int) : (List Int) → Ex × St := fun e => ((.exit 0), sT 60 [] [.row 169 .deep (.int .u64) e])
def S77_1 (a : Int) (c : (List Int)) (d : Int) (g : Int) (i : (List Int)) (b : Int) : St := sT 60 [(1, dI a), (3, .ptr 1 0 [] 0), (10, dD (.sl (.int .u64)) c), (11, dI d), (12, dI g)] [.row 169 .deep (.int .u64) i, .box (.pr (dI b) (.pr (.ref 0) .u))]
def O77_1 (a : Int) (c : (List Int)) (d : Int) (g : Int) (i : (List Int)) (b : Int) : (List Int) → Ex × St := fun j => (.normal, sT 60 [(1, dI a), (3, .ptr 1 0 [] 0), (10, dD (.sl (.int .u64)) c), (11, dI d), (12, dI g)] [.row 169 .deep (.int .u64) j, .box (.pr (dI b) (.pr (.ref 0) .u))])
def S77_0 (a : Int) (c : (List Int)) (g : Int) (d : Int) (i : (List Int)) (b : Int) : St := sT 60 [(1, dI a), (3, .ptr 1 0 [] 0), (7, dD (.int .u64) (c.getD g.toNat (Ty.zero (.int .u64)))), (8, dI (IntKind.i64.wrap (a + (IntKind.i64.wrap (64 * g))))), (10, dD (.sl (.int .u64)) c), (11, dI d), (12, dI g)] [.row 169 .deep (.int .u64) (i.set (IntKind.i64.wrap (Int.tdiv (IntKind.i64.wrap (a + (IntKind.i64.wrap (64 * g)))) 64)).toNat (orI .u64 (i.getD (IntKind.i64.wrap (Int.tdiv (IntKind.i64.wrap (a + (IntKind.i64.wrap (64 * g)))) 64)).toNat (Ty.zero (.int .u64))) (shlI .u64 (c.getD g.toNat (Ty.zero (.int .u64))) (Int.tmod (IntKind.i64.wrap (a + (IntKind.i64.wrap (64 * g)))) 64)))), .box (.pr (dI b) (.pr (.ref 0) .u))]
def O77_0 (a : Int) (c : (List Int)) (g : Int) (d : Int) (i : (List Int)) (b : Int) (m0 : Bool) : Ex × St := (.normal, sT 60 [(1, dI a), (3, .ptr 1 0 [] 0), (7, dD (.int .u64) (c.getD g.toNat (Ty.zero (.int .u64)))), (8, dI (IntKind.i64.wrap (a + (IntKind.i64.wrap (64 * g))))), (10, dD (.sl (.int .u64)) c), (11, dI d), (12, dI g), (44, dB m0)] [.row 169 .deep (.int .u64) (i.set (IntKind.i64.wrap (Int.tdiv (IntKind.i64.wrap (a + (IntKind.i64.wrap (64 * g)))) 64)).toNat (orI .u64 (i.getD (IntKind.i64.wrap (Int.tdiv (IntKind.i64.wrap (a + (IntKind.i64.wrap (64 * g)))) 64)).toNat (Ty.zero (.int .u64))) (shlI .u64 (c.getD g.toNat (Ty.zero (.int .u64))) (Int.tmod (IntKind.i64.wrap (a + (IntKind.i64.wrap (64 * g)))) 64)))), .box (.pr (dI b) (.pr (.ref 0) .u))])
theorem T77_0 (a : Int) (c : (List Int)) (g : Int) (d : Int) (i : (List Int)) (b : Int) : jnS E77 1 7 (sub (sub (code Tryz.f183) [1, 1, 0, 0]) [1, 1, 0]) [0, 1, 1, 1, 0] (S77_0 a c g d i b) = some (O77_0 a c g d i b (((Int.tmod (IntKind.i64.wrap (a + (IntKind.i64.wrap (64 * g)))) 64) != 0) && (decide ((IntKind.i64.wrap ((IntKind.i64.wrap (Int.tdiv (IntKind.i64.wrap (a + (IntKind.i64.wrap (64 * g)))) 64)) + 1)) < ((i.set (IntKind.i64.wrap (Int.tdiv (IntKind.i64.wrap (a + (IntKind.i64.wrap (64 * g)))) 64)).toNat (orI .u64 (i.getD (IntKind.i64.wrap (Int.tdiv (IntKind.i64.wrap (a + (IntKind.i64.wrap (64 * g)))) 64)).toNat (Ty.zero (.int .u64))) (shlI .u64 (c.getD g.toNat (Ty.zero (.int .u64))) (Int.tmod (IntKind.i64.wrap (a + (IntKind.i64.wrap (64 * g)))) 64)))).length : Int))))) := by
  have h0 : jnS E77 1 7 (sub (sub (code Tryz.f183) [1, 1, 0, 0]) [1, 1, 0]) [0, 1, 1, 1, 0] (S77_0 a c g d i b) =
 bif ((Int.tmod (IntKind.i64.wrap (a + (IntKind.i64.wrap (64 * g)))) 64) != 0) then
 some (O77_0 a c g d i b (decide ((IntKind.i64.wrap ((IntKind.i64.wrap (Int.tdiv (IntKind.i64.wrap (a + (IntKind.i64.wrap (64 * g)))) 64)) + 1)) < ((i.set (IntKind.i64.wrap (Int.tdiv (IntKind.i64.wrap (a + (IntKind.i64.wrap (64 * g)))) 64)).toNat (orI .u64 (i.getD (IntKind.i64.wrap (Int.tdiv (IntKind.i64.wrap (a + (IntKind.i64.wrap (64 * g)))) 64)).toNat (Ty.zero (.int .u64))) (shlI .u64 (c.getD g.toNat (Ty.zero (.int .u64))) (Int.tmod (IntKind.i64.wrap (a + (IntKind.i64.wrap (64 * g)))) 64)))).length : Int))))
 else
 some (O77_0 a c g d i b false) := by kernel_rfl
  rw [h0]
  cases h1 : ((Int.tmod (IntKind.i64.wrap (a + (IntKind.i64.wrap (64 * g)))) 64) != 0)
  · first | rfl | kernel_rfl
  · first | rfl | kernel_rfl
def impl_Bits_put_l1 (a : Int) (c : (List Int)) (d : Int) (g : Int) (i : (List Int)) (b : Int) : Option (List Int) :=
 if (0 : Int) ≤ g ∧ g < (c.length : Int) then
 if (0 : Int) ≤ (IntKind.i64.wrap (Int.tdiv (IntKind.i64.wrap (a + (IntKind.i64.wrap (64 * g)))) 64)) ∧ (IntKind.i64.wrap (Int.tdiv (IntKind.i64.wrap (a + (IntKind.i64.wrap (64 * g)))) 64)) < (i.length : Int) then
 if (Int.tmod (IntKind.i64.wrap (a + (IntKind.i64.wrap (64 * g)))) 64) < (0 : Int) then none else
 if (0 : Int) ≤ (IntKind.i64.wrap (Int.tdiv (IntKind.i64.wrap (a + (IntKind.i64.wrap (64 * g)))) 64)) ∧ (IntKind.i64.wrap (Int.tdiv (IntKind.i64.wrap (a + (IntKind.i64.wrap (64 * g)))) 64)) < (i.length : Int) then
 mkr (S77_0 a c g d i b) (
 bif (((Int.tmod (IntKind.i64.wrap (a + (IntKind.i64.wrap (64 * g)))) 64) != 0) && (decide ((IntKind.i64.wrap ((IntKind.i64.wrap (Int.tdiv (IntKind.i64.wrap (a + (IntKind.i64.wrap (64 * g)))) 64)) + 1)) < ((i.set (IntKind.i64.wrap (Int.tdiv (IntKind.i64.wrap (a + (IntKind.i64.wrap (64 * g)))) 64)).toNat (orI .u64 (i.getD (IntKind.i64.wrap (Int.tdiv (IntKind.i64.wrap (a + (IntKind.i64.wrap (64 * g)))) 64)).toNat (Ty.zero (.int .u64))) (shlI .u64 (c.getD g.toNat (Ty.zero (.int .u64))) (Int.tmod (IntKind.i64.wrap (a + (IntKind.i64.wrap (64 * g)))) 64)))).length : Int)))) then
 if (0 : Int) ≤ (IntKind.i64.wrap ((IntKind.i64.wrap (Int.tdiv (IntKind.i64.wrap (a + (IntKind.i64.wrap (64 * g)))) 64)) + 1)) ∧ (IntKind.i64.wrap ((IntKind.i64.wrap (Int.tdiv (IntKind.i64.wrap (a + (IntKind.i64.wrap (64 * g)))) 64)) + 1)) < ((i.set (IntKind.i64.wrap (Int.tdiv (IntKind.i64.wrap (a + (IntKind.i64.wrap (64 * g)))) 64)).toNat (orI .u64 (i.getD (IntKind.i64.wrap (Int.tdiv (IntKind.i64.wrap (a + (IntKind.i64.wrap (64 * g)))) 64)).toNat (Ty.zero (.int .u64))) (shlI .u64 (c.getD g.toNat (Ty.zero (.int .u64))) (Int.tmod (IntKind.i64.wrap (a + (IntKind.i64.wrap (64 * g)))) 64)))).length : Int) then
 if (IntKind.i64.wrap (64 - (Int.tmod (IntKind.i64.wrap (a + (IntKind.i64.wrap (64 * g)))) 64))) < (0 : Int) then none else
 if (0 : Int) ≤ (IntKind.i64.wrap ((IntKind.i64.wrap (Int.tdiv (IntKind.i64.wrap (a + (IntKind.i64.wrap (64 * g)))) 64)) + 1)) ∧ (IntKind.i64.wrap ((IntKind.i64.wrap (Int.tdiv (IntKind.i64.wrap (a + (IntKind.i64.wrap (64 * g)))) 64)) + 1)) < ((i.set (IntKind.i64.wrap (Int.tdiv (IntKind.i64.wrap (a + (IntKind.i64.wrap (64 * g)))) 64)).toNat (orI .u64 (i.getD (IntKind.i64.wrap (Int.tdiv (IntKind.i64.wrap (a + (IntKind.i64.wrap (64 * g)))) 64)).toNat (Ty.zero (.int .u64))) (shlI .u64 (c.getD g.toNat (Ty.zero (.int .u64))) (Int.tmod (IntKind.i64.wrap (a + (IntKind.i64.wrap (64 * g)))) 64)))).length : Int) then
 some ((i.set (IntKind.i64.wrap (Int.tdiv (IntKind.i64.wrap (a + (IntKind.i64.wrap (64 * g)))) 64)).toNat (orI .u64 (i.getD (IntKind.i64.wrap (Int.tdiv (IntKind.i64.wrap (a + (IntKind.i64.wrap (64 * g)))) 64)).toNat (Ty.zero (.int .u64))) (shlI .u64 (c.getD g.toNat (Ty.zero (.int .u64))) (Int.tmod (IntKind.i64.wrap (a + (IntKind.i64.wrap (64 * g)))) 64)))).set (IntKind.i64.wrap ((IntKind.i64.wrap (Int.tdiv (IntKind.i64.wrap (a + (IntKind.i64.wrap (64 * g)))) 64)) + 1)).toNat (orI .u64 ((i.set (IntKind.i64.wrap (Int.tdiv (IntKind.i64.wrap (a + (IntKind.i64.wrap (64 * g)))) 64)).toNat (orI .u64 (i.getD (IntKind.i64.wrap (Int.tdiv (IntKind.i64.wrap (a + (IntKind.i64.wrap (64 * g)))) 64)).toNat (Ty.zero (.int .u64))) (shlI .u64 (c.getD g.toNat (Ty.zero (.int .u64))) (Int.tmod (IntKind.i64.wrap (a + (IntKind.i64.wrap (64 * g)))) 64)))).getD (IntKind.i64.wrap ((IntKind.i64.wrap (Int.tdiv (IntKind.i64.wrap (a + (IntKind.i64.wrap (64 * g)))) 64)) + 1)).toNat (Ty.zero (.int .u64))) (shrI .u64 (c.getD g.toNat (Ty.zero (.int .u64))) (IntKind.i64.wrap (64 - (Int.tmod (IntKind.i64.wrap (a + (IntKind.i64.wrap (64 * g)))) 64))))))
 else none
 else none
 else
 some (i.set (IntKind.i64.wrap (Int.tdiv (IntKind.i64.wrap (a + (IntKind.i64.wrap (64 * g)))) 64)).toNat (orI .u64 (i.getD (IntKind.i64.wrap (Int.tdiv (IntKind.i64.wrap (a + (IntKind.i64.wrap (64 * g)))) 64)).toNat (Ty.zero (.int .u64))) (shlI .u64 (c.getD g.toNat (Ty.zero (.int .u64))) (Int.tmod (IntKind.i64.wrap (a + (IntKind.i64.wrap (64 * g)))) 64)))))
 else none
 else none
 else none
theorem T77_1 (a : Int) (c : (List Int)) (d : Int) (g : Int) (i : (List Int)) (b : Int) : JnOk E77 1 8 (sub (code Tryz.f183) [1, 1, 0, 0]) [1, 1, 0] (S77_1 a c d g i b) (impl_Bits_put_l1 a c d g i b) (O77_1 a c d g i b) := by
  unfold JnOk
  simp only [impl_Bits_put_l1, mC, mI, mN, mB, mE, mM]
  simp (disch := refine sI ?_ <;> (repeat' refine sA ?_ ?_) <;> intro _ <;> kernel_rfl) only [in_ok (T77_0 _ _ _ _ _ _) (K := joinK 1 (E77.jn 8))]
  kernel_rfl
def impl_Bits_put_l2_g (a : Int) (b : Int) (c : (List Int)) (d : Int) (g : Int) (i : (List Int)) : Option ((Int × (List Int)) ⊕ (List Int)) :=
 bif (decide (g < d)) then
 (impl_Bits_put_l1 a c d g i b).bind fun j =>
 some (.inl ((IntKind.i64.wrap (g + 1)), j))
 else
 some (.inr i)
def impl_Bits_put_l2_r (a : Int) (b : Int) (c : (List Int)) (d : Int) (z_ : (Int × (List Int))) := impl_Bits_put_l2_g a b c d z_.1 z_.2
def impl_Bits_put_l2 (a : Int) (b : Int) (c : (List Int)) (d : Int) (g : Int) (i : (List Int)) := fix (impl_Bits_put_l2_r a b c d) (g, i)
theorem T77_2 (a : Int) (b : Int) (c : (List Int)) (d : Int) : LpOk E77 1 2 (code Tryz.f183) [1, 1, 0] (S77_2 a b c d) (impl_Bits_put_l2_r a b c d) (O77_2 a b c d) := by
  intro _
  simp only [impl_Bits_put_l2_r, impl_Bits_put_l2_g, mC, mI, mN, mB, mE, mM]
  simp (disch := refine sI ?_ <;> (repeat' refine sA ?_ ?_) <;> intro _ <;> kernel_rfl) only [jn_ok (T77_1 _ _ _ _ _ _) (K := stepK 1 (E77.hd 2) (E77.ot 2))]
  kernel_rfl
def impl_Bits_put (b : Int) (a : Int) (k : Timpl_Bits.V) (l : (List Int)) : Option (List Int) :=
 (impl_Bits_put_l2 a b k.2.1 (k.2.1.length : Int) 0 l).bind fun e =>
 some e
theorem U77 (R : Type) (b : Int) (a : Int) (k : Timpl_Bits.V) (l : (List Int)) (K : AV → List Blk → Option R) : runF E77 Tryz.f183 R [.pr (dI b) (.pr (.ref 0) .u), dI a, dD Timpl_Bits k] [.row 169 .deep (.int .u64) l] K = (impl_Bits_put b a k l).bind fun r => K .nil [.row 169 .deep (.int .u64) r] := by
  simp only [impl_Bits_put, bC, bI, bN, bE, bA, bS, bO, bM]
  simp (disch := refine sI ?_ <;> (repeat' refine sA ?_ ?_) <;> intro _ <;> kernel_rfl) only [impl_Bits_put_l2, lp_ok (T77_2 _ _ _ _) (K := finK E77 Tryz.f183 1 R K)]
  kernel_rfl
def c183 : Va.Callee := brC [.raw, .d (.int .i64), .d Timpl_Bits] [⟨[.pr (.dat [] (.int .i64)) (.pr (.k (.ref 0)) (.k .u)), .dat [] (.int .i64), .dat [] Timpl_Bits], [.row 169 .deep (.int .u64)], (List Int), fun p => impl_Bits_put p.1.1.1 p.1.2.1 p.1.2.2.1 p.2.1, fun r => (.nil, [.row 169 .deep (.int .u64) r])⟩]
theorem c183_snd : SoundC Tryz.prog 183 c183 := br_snd (fn := Tryz.f183) (by kernel_rfl) (by kernel_rfl) (by kernel_rfl) ⟨⟨E77, ⟨⟨tabok, fns_ok trivial⟩, mixed⟩, fun p R K => U77 R p.1.1.1 p.1.2.1 p.1.2.2.1 p.2.1 K⟩, trivial⟩
abbrev E78 : Env := ⟨tab, lookH [(105, c105), (183, c183)], { deep := true }⟩
def impl_Bits_over (a : Timpl_Bits.V) (b : Timpl_Bits.V) : Option (Int × (List Int)) :=
 (impl_zeroBits (IntKind.i64.wrap (a.1 + b.1))).bind fun c =>
 (impl_Bits_put c.1 0 b c.2).bind fun d =>
 (impl_Bits_put c.1 b.1 a d).bind fun e =>
 some (c.1, e)
theorem U78 (R : Type) (a : Timpl_Bits.V) (b : Timpl_Bits.V) (K : AV → List Blk → Option R) : runF E78 Tryz.f163 R [dD Timpl_Bits a, dD Timpl_Bits b] [] K = (impl_Bits_over a b).bind fun r => K (.pr (dI r.1) (.pr (.ref 0) .u)) [.row 169 .deep (.int .u64) r.2] := by
  simp only [impl_Bits_over, bC, bI, bN, bE, bA, bS, bO, bM]
  kernel_rfl
def c163 : Va.Callee := brC [.d Timpl_Bits, .d Timpl_Bits] [⟨[.dat [] Timpl_Bits, .dat [] Timpl_Bits], [], (Int × (List Int)), fun p => impl_Bits_over p.1.1 p.1.2.1, fun r => (.pr (dI r.1) (.pr (.ref 0) .u), [.row 169 .deep (.int .u64) r.2])⟩]
theorem c163_snd : SoundC Tryz.prog 163 c163 := br_snd (fn := Tryz.f163) (by kernel_rfl) (by kernel_rfl) (by kernel_rfl) ⟨⟨E78, ⟨⟨tabok, fns_ok ⟨c105_snd, c183_snd, trivial⟩⟩, mixed⟩, fun p R K => U78 R p.1.1 p.1.2.1 K⟩, trivial⟩
abbrev E79 : Env := ⟨tab, lookH [(162, c162), (163, c163)], { heads := [(2, { live := [0, 8, 9, 10], pre := [(0, false, .row [] 135 Timpl_Seg false)] })], outs := [(2, { live := [0] })], joins := [(6, { live := [0, 6, 7, 8, 9, 10, 27] }), (9, { live := [0, 6, 7, 8, 9, 10] }), (10, { live := [0, 8, 9, 10] })], ents := [(6, [0, 6, 7, 8, 9, 10]), (9, [0, 6, 7, 8, 9, 10]), (10, [0, 8, 9, 10])] }⟩
def S79_5 (a : (List Timpl_Seg.V)) (b : Int) (z_ : (Int × (List Timpl_Seg.V))) : St := sT 59 [(0, .ref 0), (8, dD (.sl Timpl_Seg) a), (9, dI b), (10, dI z_.1)] [.row 135 (.sh []) Timpl_Seg z_.2]
def O79_5 (a : (List Timpl_Seg.V)) (b : Int) : (List Timpl_Seg.V) → Ex × St := fun c => ((.exit 0), sT 59 [(0, .ref 0)] [.row 135 (.sh []) Timpl_Seg c])
def S79_4 (a : (List Timpl_Seg.V)) (b : Int) (d : Int) (e : (List Timpl_Seg.V)) : St := sT 59 [(0, .ref 0), (8, dD (.sl Timpl_Seg) a), (9, dI b), (10, dI d)] [.row 135 (.sh []) Timpl_Seg e]
def O79_4 (a : (List Timpl_Seg.V)) (b : Int) (d : Int) (e : (List Timpl_Seg.V)) : (List Timpl_Seg.V) → Ex × St := fun g => (.normal, sT 59 [(0, .ref 0), (8, dD (.sl Timpl_Seg) a), (9, dI b), (10, dI d)] [.row 135 (.sh []) Timpl_Seg g])
def S79_3 (a : (List Timpl_Seg.V)) (b : Int) (d : Int) (e : (List Timpl_Seg.V)) (i : Int) (j : Timpl_Seg.V) : St := sT 59 [(0, .ref 0), (6, .ptr 1 0 [] 0), (7, dI i), (8, dD (.sl Timpl_Seg) a), (9, dI b), (10, dI d)] [.row 135 (.sh []) Timpl_Seg e, .box (dD Timpl_Seg j)]
def O79_3 (a : (List Timpl_Seg.V)) (b : Int) (d : Int) (e : (List Timpl_Seg.V)) (i : Int) (j : Timpl_Seg.V) : (List Timpl_Seg.V) → Ex × St := fun k => (.normal, sT 59 [(0, .ref 0), (6, .ptr 1 0 [] 0), (7, dI i), (8, dD (.sl Timpl_Seg) a), (9, dI b), (10, dI d)] [.row 135 (.sh []) Timpl_Seg k, .box (dD Timpl_Seg j)])
def impl_raise_a_l3 (a : (List Timpl_Seg.V)) (b : Int) (d : Int) (e : (List Timpl_Seg.V)) (i : Int) (j : Timpl_Seg.V) : Option (List Timpl_Seg.V) :=
 bif (j.1 == (-1)) then
 if (0 : Int) ≤ i ∧ i < (e.length : Int) then
 (impl_Bits_over j.2.2.2.1 (e.getD i.toNat (Ty.zero Timpl_Seg)).2.2.2.1).bind fun l =>
 if (0 : Int) ≤ i ∧ i < (e.length : Int) then
 some (e.set i.toNat ((e.getD i.toNat (Ty.zero Timpl_Seg)).1, (e.getD i.toNat (Ty.zero Timpl_Seg)).2.1, (e.getD i.toNat (Ty.zero Timpl_Seg)).2.2.1, (l.1, l.2, ()), (e.getD i.toNat (Ty.zero Timpl_Seg)).2.2.2.2))
 else none
 else none
 else
 some e
theorem T79_3 (a : (List Timpl_Seg.V)) (b : Int) (d : Int) (e : (List Timpl_Seg.V)) (i : Int) (j : Timpl_Seg.V) : JnOk E79 0 9 (sub (sub (code Tryz.f129) [1, 0, 1, 0, 0]) [1, 1, 0]) [0, 1, 1, 1, 0] (S79_3 a b d e i j) (impl_raise_a_l3 a b d e i j) (O79_3 a b d e i j) := by
  unfold JnOk
  simp only [impl_raise_a_l3, mC, mI, mN, mB, mE, mM]
  kernel_rfl
def S79_2 (a : (List Timpl_Seg.V)) (b : Int) (d : Int) (e : (List Timpl_Seg.V)) (n : Int) (o : Timpl_Seg.V) : St := sT 59 [(0, .ref 0), (6, .ptr 1 0 [] 0), (7, dI n), (8, dD (.sl Timpl_Seg) a), (9, dI b), (10, dI d)] [.row 135 (.sh []) Timpl_Seg e, .box (dD Timpl_Seg o)]
def O79_2 (a : (List Timpl_Seg.V)) (b : Int) (d : Int) (e : (List Timpl_Seg.V)) (n : Int) (o : Timpl_Seg.V) : Bool → Ex × St := fun q => (.normal, sT 59 [(0, .ref 0), (6, .ptr 1 0 [] 0), (7, dI n), (8, dD (.sl Timpl_Seg) a), (9, dI b), (10, dI d), (27, dB q)] [.row 135 (.sh []) Timpl_Seg e, .box (dD Timpl_Seg o)])
def impl_raise_a_l2 (a : (List Timpl_Seg.V)) (b : Int) (d : Int) (e : (List Timpl_Seg.V)) (n : Int) (o : Timpl_Seg.V) : Option Bool :=
 bif (decide (n < 0)) then
 some true
 else
 if (0 : Int) ≤ n ∧ n < (e.length : Int) then
 some (!(impl_Seg_meets (e.getD n.toNat (Ty.zero Timpl_Seg)) o))
 else none
theorem T79_2 (a : (List Timpl_Seg.V)) (b : Int) (d : Int) (e : (List Timpl_Seg.V)) (n : Int) (o : Timpl_Seg.V) : JnOk E79 0 6 (sub (sub (code Tryz.f129) [1, 0, 1, 0, 0]) [1, 1, 0]) [0, 1, 1, 0, 0] (S79_2 a b d e n o) (impl_raise_a_l2 a b d e n o) (O79_2 a b d e n o) := by
  unfold JnOk
  simp only [impl_raise_a_l2, mC, mI, mN, mB, mE, mM]
  kernel_rfl
def impl_raise_a_l4 (a : (List Timpl_Seg.V)) (b : Int) (d : Int) (e : (List Timpl_Seg.V)) : Option (List Timpl_Seg.V) :=
 if (0 : Int) ≤ d ∧ d < (a.length : Int) then
 (impl_raise_a_l2 a b d e (IntKind.i64.wrap ((e.length : Int) - 1)) (a.getD d.toNat (Ty.zero Timpl_Seg))).bind fun q =>
 bif q then
 if (e.length + ([(a.getD d.toNat (Ty.zero Timpl_Seg))] : List Timpl_Seg.V).length) * 56 ≤ 140737488355328 then
 some (e ++ ([(a.getD d.toNat (Ty.zero Timpl_Seg))] : List Timpl_Seg.V))
 else none
 else
 (impl_raise_a_l3 a b d e (IntKind.i64.wrap ((e.length : Int) - 1)) (a.getD d.toNat (Ty.zero Timpl_Seg))).bind fun k =>
 if (0 : Int) ≤ (IntKind.i64.wrap ((e.length : Int) - 1)) ∧ (IntKind.i64.wrap ((e.length : Int) - 1)) < (k.length : Int) then
 if (0 : Int) ≤ (IntKind.i64.wrap ((e.length : Int) - 1)) ∧ (IntKind.i64.wrap ((e.length : Int) - 1)) < (k.length : Int) then
 some (k.set (IntKind.i64.wrap ((e.length : Int) - 1)).toNat ((k.getD (IntKind.i64.wrap ((e.length : Int) - 1)).toNat (Ty.zero Timpl_Seg)).1, (k.getD (IntKind.i64.wrap ((e.length : Int) - 1)).toNat (Ty.zero Timpl_Seg)).2.1, (IntKind.i64.wrap ((k.getD (IntKind.i64.wrap ((e.length : Int) - 1)).toNat (Ty.zero Timpl_Seg)).2.2.1 + (a.getD d.toNat (Ty.zero Timpl_Seg)).2.2.1)), (k.getD (IntKind.i64.wrap ((e.length : Int) - 1)).toNat (Ty.zero Timpl_Seg)).2.2.2))
 else none
 else none
 else none
theorem T79_4 (a : (List Timpl_Seg.V)) (b : Int) (d : Int) (e : (List Timpl_Seg.V)) : JnOk E79 0 10 (sub (code Tryz.f129) [1, 0, 1, 0, 0]) [1, 1, 0] (S79_4 a b d e) (impl_raise_a_l4 a b d e) (O79_4 a b d e) := by
  unfold JnOk
  simp only [impl_raise_a_l4, mC, mI, mN, mB, mE, mM]
  simp (disch := refine sI ?_ <;> (repeat' refine sA ?_ ?_) <;> intro _ <;> kernel_rfl) only [jn_ok (T79_2 _ _ _ _ _ _) (K := joinK 0 (E79.jn 10)), jn_ok (T79_3 _ _ _ _ _ _) (K := joinK 0 (E79.jn 10))]
  kernel_rfl
def impl_raise_a_l5_g (a : (List Timpl_Seg.V)) (b : Int) (d : Int) (e : (List Timpl_Seg.V)) : Option ((Int × (List Timpl_Seg.V)) ⊕ (List Timpl_Seg.V)) :=
 bif (decide (d < b)) then
 (impl_raise_a_l4 a b d e).bind fun g =>
 some (.inl ((IntKind.i64.wrap (d + 1)), g))
 else
 some (.inr e)
def impl_raise_a_l5_r (a : (List Timpl_Seg.V)) (b : Int) (z_ : (Int × (List Timpl_Seg.V))) := impl_raise_a_l5_g a b z_.1 z_.2
def impl_raise_a_l5 (a : (List Timpl_Seg.V)) (b : Int) (d : Int) (e : (List Timpl_Seg.V)) := fix (impl_raise_a_l5_r a b) (d, e)
theorem T79_5 (a : (List Timpl_Seg.V)) (b : Int) : LpOk E79 0 2 (code Tryz.f129) [1, 0, 1, 0] (S79_5 a b) (impl_raise_a_l5_r a b) (O79_5 a b) := by
  intro _
  simp only [impl_raise_a_l5_r, impl_raise_a_l5_g, mC, mI, mN, mB, mE, mM]
  simp (disch := refine sI ?_ <;> (repeat' refine sA ?_ ?_) <;> intro _ <;> kernel_rfl) only [jn_ok (T79_4 _ _ _ _) (K := stepK 0 (E79.hd 2) (E79.ot 2))]
  kernel_rfl
def impl_raise_a (a : (List Timpl_Seg.V)) : Option (List Timpl_Seg.V) :=
 (impl_raise_a_l5 a (a.length : Int) 0 ([] : List Timpl_Seg.V)).bind fun c =>
 some c
theorem U79 (R : Type) (a : (List Timpl_Seg.V)) (K : AV → List Blk → Option R) : runF E79 Tryz.f129 R [.zs, dD (.sl Timpl_Seg) a] [] K = (impl_raise_a a).bind fun r => K (.ref 0) [.row 135 (.sh []) Timpl_Seg r] := by
  simp only [impl_raise_a, bC, bI, bN, bE, bA, bS, bO, bM]
  simp (disch := refine sI ?_ <;> (repeat' refine sA ?_ ?_) <;> intro _ <;> kernel_rfl) only [impl_raise_a_l5, lp_ok (T79_5 _ _) (K := finK E79 Tryz.f129 0 R K)]
  kernel_rfl
abbrev E80 : Env := ⟨tab, lookH [(162, c162), (163, c163)], { heads := [(2, { live := [0, 8, 9, 10], mv := [0] })], outs := [(2, { live := [0] })], joins := [(6, { live := [0, 6, 7, 8, 9, 10, 27] }), (9, { live := [0, 6, 7, 8, 9, 10] }), (10, { live := [0, 8, 9, 10], mv := [0] })], ents := [(6, [0, 6, 7, 8, 9, 10]), (9, [0, 6, 7, 8, 9, 10]), (10, [0, 8, 9, 10])] }⟩
def S80_8 (a : (List Timpl_Seg.V)) (b : Int) (z_ : (Int × (List Timpl_Seg.V))) : St := sT 59 [(0, .ref 1), (8, dD (.sl Timpl_Seg) a), (9, dI b), (10, dI z_.1)] [.dead, .row 135 (.sh []) Timpl_Seg z_.2]
def O80_8 (a : (List Timpl_Seg.V)) (b : Int) : (List Timpl_Seg.V) → Ex × St := fun c => ((.exit 0), sT 59 [(0, .ref 1)] [.dead, .row 135 (.sh []) Timpl_Seg c])
def S80_7 (a : (List Timpl_Seg.V)) (b : Int) (d : Int) (e : (List Timpl_Seg.V)) : St := sT 59 [(0, .ref 1), (8, dD (.sl Timpl_Seg) a), (9, dI b), (10, dI d)] [.dead, .row 135 (.sh []) Timpl_Seg e]
def O80_7 (a : (List Timpl_Seg.V)) (b : Int) (d : Int) (e : (List Timpl_Seg.V)) : (List Timpl_Seg.V) → Ex × St := fun g => (.normal, sT 59 [(0, .ref 1), (8, dD (.sl Timpl_Seg) a), (9, dI b), (10, dI d)] [.dead, .row 135 (.sh []) Timpl_Seg g])
def S80_6 (a : (List Timpl_Seg.V)) (b : Int) (d : Int) (e : (List Timpl_Seg.V)) (i : Int) (j : Timpl_Seg.V) : St := sT 59 [(0, .ref 1), (6, .ptr 2 0 [] 0), (7, dI i), (8, dD (.sl Timpl_Seg) a), (9, dI b), (10, dI d)] [.dead, .row 135 (.sh []) Timpl_Seg e, .box (dD Timpl_Seg j)]
def O80_6 (a : (List Timpl_Seg.V)) (b : Int) (d : Int) (e : (List Timpl_Seg.V)) (i : Int) (j : Timpl_Seg.V) : (List Timpl_Seg.V) → Ex × St := fun k => (.normal, sT 59 [(0, .ref 1), (6, .ptr 2 0 [] 0), (7, dI i), (8, dD (.sl Timpl_Seg) a), (9, dI b), (10, dI d)] [.dead, .row 135 (.sh []) Timpl_Seg k, .box (dD Timpl_Seg j)])
def impl_raise_b_l6 (a : (List Timpl_Seg.V)) (b : Int) (d : Int) (e : (List Timpl_Seg.V)) (i : Int) (j : Timpl_Seg.V) : Option (List Timpl_Seg.V) :=
 bif (j.1 == (-1)) then
 if (0 : Int) ≤ i ∧ i < (e.length : Int) then
 (impl_Bits_over j.2.2.2.1 (e.getD i.toNat (Ty.zero Timpl_Seg)).2.2.2.1).bind fun l =>
 if (0 : Int) ≤ i ∧ i < (e.length : Int) then
 some (e.set i.toNat ((e.getD i.toNat (Ty.zero Timpl_Seg)).1, (e.getD i.toNat (Ty.zero Timpl_Seg)).2.1, (e.getD i.toNat (Ty.zero Timpl_Seg)).2.2.1, (l.1, l.2, ()), (e.getD i.toNat (Ty.zero Timpl_Seg)).2.2.2.2))
 else none
 else none
 else
 some e
theorem T80_6 (a : (List Timpl_Seg.V)) (b : Int) (d : Int) (e : (List Timpl_Seg.V)) (i : Int) (j : Timpl_Seg.V) : JnOk E80 1 9 (sub (sub (code Tryz.f129) [1, 0, 1, 0, 0]) [1, 1, 0]) [0, 1, 1, 1, 0] (S80_6 a b d e i j) (impl_raise_b_l6 a b d e i j) (O80_6 a b d e i j) := by
  unfold JnOk
  simp only [impl_raise_b_l6, mC, mI, mN, mB, mE, mM]
  kernel_rfl
def S80_5 (a : (List Timpl_Seg.V)) (b : Int) (d : Int) (e : (List Timpl_Seg.V)) (n : Int) (o : Timpl_Seg.V) : St := sT 59 [(0, .ref 1), (6, .ptr 2 0 [] 0), (7, dI n), (8, dD (.sl Timpl_Seg) a), (9, dI b), (10, dI d)] [.dead, .row 135 (.sh []) Timpl_Seg e, .box (dD Timpl_Seg o)]
def O80_5 (a : (List Timpl_Seg.V)) (b : Int) (d : Int) (e : (List Timpl_Seg.V)) (n : Int) (o : Timpl_Seg.V) : Bool → Ex × St := fun q => (.normal, sT 59 [(0, .ref 1), (6, .ptr 2 0 [] 0), (7, dI n), (8, dD (.sl Timpl_Seg) a), (9, dI b), (10, dI d), (27, dB q)] [.dead, .row 135 (.sh []) Timpl_Seg e, .box (dD Timpl_Seg o)])
def impl_raise_b_l5 (a : (List Timpl_Seg.V)) (b : Int) (d : Int) (e : (List Timpl_Seg.V)) (n : Int) (o : Timpl_Seg.V) : Option Bool :=
 bif (decide (n < 0)) then
 some true
 else
 if (0 : Int) ≤ n ∧ n < (e.length : Int) then
 some (!(impl_Seg_meets (e.getD n.toNat (Ty.zero Timpl_Seg)) o))
 else none
theorem T80_5 (a : (List Timpl_Seg.V)) (b : Int) (d : Int) (e : (List Timpl_Seg.V)) (n : Int) (o : Timpl_Seg.V) : JnOk E80 1 6 (sub (sub (code Tryz.f129) [1, 0, 1, 0, 0]) [1, 1, 0]) [0, 1, 1, 0, 0] (S80_5 a b d e n o) (impl_raise_b_l5 a b d e n o) (O80_5 a b d e n o) := by
  unfold JnOk
  simp only [impl_raise_b_l5, mC, mI, mN, mB, mE, mM]
  kernel_rfl
def impl_raise_b_l7 (a : (List Timpl_Seg.V)) (b : Int) (d : Int) (e : (List Timpl_Seg.V)) : Option (List Timpl_Seg.V) :=
 if (0 : Int) ≤ d ∧ d < (a.length : Int) then
 (impl_raise_b_l5 a b d e (IntKind.i64.wrap ((e.length : Int) - 1)) (a.getD d.toNat (Ty.zero Timpl_Seg))).bind fun q =>
 bif q then
 if (e.length + ([(a.getD d.toNat (Ty.zero Timpl_Seg))] : List Timpl_Seg.V).length) * 56 ≤ 140737488355328 then
 some (e ++ ([(a.getD d.toNat (Ty.zero Timpl_Seg))] : List Timpl_Seg.V))
 else none
 else
 (impl_raise_b_l6 a b d e (IntKind.i64.wrap ((e.length : Int) - 1)) (a.getD d.toNat (Ty.zero Timpl_Seg))).bind fun k =>
 if (0 : Int) ≤ (IntKind.i64.wrap ((e.length : Int) - 1)) ∧ (IntKind.i64.wrap ((e.length : Int) - 1)) < (k.length : Int) then
 if (0 : Int) ≤ (IntKind.i64.wrap ((e.length : Int) - 1)) ∧ (IntKind.i64.wrap ((e.length : Int) - 1)) < (k.length : Int) then
 some (k.set (IntKind.i64.wrap ((e.length : Int) - 1)).toNat ((k.getD (IntKind.i64.wrap ((e.length : Int) - 1)).toNat (Ty.zero Timpl_Seg)).1, (k.getD (IntKind.i64.wrap ((e.length : Int) - 1)).toNat (Ty.zero Timpl_Seg)).2.1, (IntKind.i64.wrap ((k.getD (IntKind.i64.wrap ((e.length : Int) - 1)).toNat (Ty.zero Timpl_Seg)).2.2.1 + (a.getD d.toNat (Ty.zero Timpl_Seg)).2.2.1)), (k.getD (IntKind.i64.wrap ((e.length : Int) - 1)).toNat (Ty.zero Timpl_Seg)).2.2.2))
 else none
 else none
 else none
theorem T80_7 (a : (List Timpl_Seg.V)) (b : Int) (d : Int) (e : (List Timpl_Seg.V)) : JnOk E80 1 10 (sub (code Tryz.f129) [1, 0, 1, 0, 0]) [1, 1, 0] (S80_7 a b d e) (impl_raise_b_l7 a b d e) (O80_7 a b d e) := by
  unfold JnOk
  simp only [impl_raise_b_l7, mC, mI, mN, mB, mE, mM]
  simp (disch := refine sI ?_ <;> (repeat' refine sA ?_ ?_) <;> intro _ <;> kernel_rfl) only [jn_ok (T80_5 _ _ _ _ _ _) (K := joinK 1 (E80.jn 10)), jn_ok (T80_6 _ _ _ _ _ _) (K := joinK 1 (E80.jn 10))]
  kernel_rfl
def impl_raise_b_l8_g (a : (List Timpl_Seg.V)) (b : Int) (d : Int) (e : (List Timpl_Seg.V)) : Option ((Int × (List Timpl_Seg.V)) ⊕ (List Timpl_Seg.V)) :=
 bif (decide (d < b)) then
 (impl_raise_b_l7 a b d e).bind fun g =>
 some (.inl ((IntKind.i64.wrap (d + 1)), g))
 else
 some (.inr e)
def impl_raise_b_l8_r (a : (List Timpl_Seg.V)) (b : Int) (z_ : (Int × (List Timpl_Seg.V))) := impl_raise_b_l8_g a b z_.1 z_.2
def impl_raise_b_l8 (a : (List Timpl_Seg.V)) (b : Int) (d : Int) (e : (List Timpl_Seg.V)) := fix (impl_raise_b_l8_r a b) (d, e)
theorem T80_8 (a : (List Timpl_Seg.V)) (b : Int) : LpOk E80 1 2 (code Tryz.f129) [1, 0, 1, 0] (S80_8 a b) (impl_raise_b_l8_r a b) (O80_8 a b) := by
  intro _
  simp only [impl_raise_b_l8_r, impl_raise_b_l8_g, mC, mI, mN, mB, mE, mM]
  simp (disch := refine sI ?_ <;> (repeat' refine sA ?_ ?_) <;> intro _ <;> kernel_rfl) only [jn_ok (T80_7 _ _ _ _) (K := stepK 1 (E80.hd 2) (E80.ot 2))]
  kernel_rfl
def impl_raise_b (a : (List Timpl_Seg.V)) (s : (List Timpl_Seg.V)) : Option (List Timpl_Seg.V) :=
 (impl_raise_b_l8 a (a.length : Int) 0 s).bind fun c =>
 some c
theorem U80 (R : Type) (a : (List Timpl_Seg.V)) (s : (List Timpl_Seg.V)) (K : AV → List Blk → Option R) : runF E80 Tryz.f129 R [.ref 0, dD (.sl Timpl_Seg) a] [.row 135 (.sh []) Timpl_Seg s] K = (impl_raise_b a s).bind fun r => K (.ref 1) [.dead, .row 135 (.sh []) Timpl_Seg r] := by
  simp only [impl_raise_b, bC, bI, bN, bE, bA, bS, bO, bM]
  simp (disch := refine sI ?_ <;> (repeat' refine sA ?_ ?_) <;> intro _ <;> kernel_rfl) only [impl_raise_b_l8, lp_ok (T80_8 _ _) (K := finK E80 Tryz.f129 1 R K)]
  kernel_rfl
def c129 : Va.Callee := brC [.raw, .d (.sl Timpl_Seg)] [⟨[.k .zs, .dat [] (.sl Timpl_Seg)], [], (List Timpl_Seg.V), fun p => impl_raise_a p.1.2.1, fun r => (.ref 0, [.row 135 (.sh []) Timpl_Seg r])⟩, ⟨[.k (.ref 0), .dat [] (.sl Timpl_Seg)], [.row 135 (.sh []) Timpl_Seg], (List Timpl_Seg.V), fun p => impl_raise_b p.1.2.1 p.2.1, fun r => (.ref 1, [.dead, .row 135 (.sh []) Timpl_Seg r])⟩]
theorem c129_snd : SoundC Tryz.prog 129 c129 := br_snd (fn := Tryz.f129) (by kernel_rfl) (by kernel_rfl) (by kernel_rfl) ⟨⟨E79, ⟨⟨tabok, fns_ok ⟨c162_snd, c163_snd, trivial⟩⟩, mixed⟩, fun p R K => U79 R p.1.2.1 K⟩, ⟨E80, ⟨⟨tabok, fns_ok ⟨c162_snd, c163_snd, trivial⟩⟩, mixed⟩, fun p R K => U80 R p.1.2.1 p.2.1 K⟩, trivial⟩
end
end Go.Proofs.X
namespace Go.Proofs.X
open Go Go.Va
set_option maxRecDepth 100000
noncomputable section
abbrev E81 : Env := ⟨tab, lookH [], { deep := true, heads := [(3, { live := [3, 6, 7, 8] })], outs := [(3, { live := [3] })] }⟩
def S81_0 (a : (List Timpl_Seg.V)) (b : Int) (z_ : (Int × Int)) : St := sT 18 [(3, dI z_.1), (6, dD (.sl Timpl_Seg) a), (7, dI b), (8, dI z_.2)] []
def O81_0 (a : (List Timpl_Seg.V)) (b : Int) : Int → Ex × St := fun c => ((.exit 0), sT 18 [(3, dI c)] [])
def impl_flatWidth_l0_g (a : (List Timpl_Seg.V)) (b : Int) (d : Int) (e : Int) : Option ((Int × Int) ⊕ Int) :=
 bif (decide (e < b)) then
 if (0 : Int) ≤ e ∧ e < (a.length : Int) then
 some (.inl ((IntKind.i64.wrap (d + (a.getD e.toNat (Ty.zero Timpl_Seg)).2.2.1)), (IntKind.i64.wrap (e + 1))))
 else none
 else
 some (.inr d)
def impl_flatWidth_l0_r (a : (List Timpl_Seg.V)) (b : Int) (z_ : (Int × Int)) := impl_flatWidth_l0_g a b z_.1 z_.2
def impl_flatWidth_l0 (a : (List Timpl_Seg.V)) (b : Int) (d : Int) (e : Int) := fix (impl_flatWidth_l0_r a b) (d, e)
theorem T81_0 (a : (List Timpl_Seg.V)) (b : Int) : LpOk E81 0 3 (code Tryz.f126) [1, 1, 0, 1, 0] (S81_0 a b) (impl_flatWidth_l0_r a b) (O81_0 a b) := by
  intro _
  simp only [impl_flatWidth_l0_r, impl_flatWidth_l0_g, mC, mI, mN, mB, mE, mM]
  kernel_rfl
def impl_flatWidth (a : (List Timpl_Seg.V)) : Option Int :=
 (impl_flatWidth_l0 a (a.length : Int) 0 0).bind fun c =>
 some c
theorem U81 (R : Type) (a : (List Timpl_Seg.V)) (K : AV → List Blk → Option R) : runF E81 Tryz.f126 R [dD (.sl Timpl_Seg) a] [] K = (impl_flatWidth a).bind fun r => K (dI r) [] := by
  simp only [impl_flatWidth, bC, bI, bN, bE, bA, bS, bO, bM]
  simp (disch := refine sI ?_ <;> (repeat' refine sA ?_ ?_) <;> intro _ <;> kernel_rfl) only [impl_flatWidth_l0, lp_ok (T81_0 _ _) (K := finK E81 Tryz.f126 0 R K)]
  kernel_rfl
def c126 : Va.Callee := brC [.d (.sl Timpl_Seg)] [⟨[.dat [] (.sl Timpl_Seg)], [], Int, fun p => impl_flatWidth p.1.1, fun r => (dI r, [])⟩]
theorem c126_snd : SoundC Tryz.prog 126 c126 := br_snd (fn := Tryz.f126) (by kernel_rfl) (by kernel_rfl) (by kernel_rfl) ⟨⟨E81, ⟨⟨tabok, fns_ok trivial⟩, mixed⟩, fun p R K => U81 R p.1.1 K⟩, trivial⟩
abbrev E82 : Env := ⟨tab, lookH [(105, c105)], { deep := true, heads := [(3, { live := [1, 2, 3, 6, 7, 15, 16] })], outs := [(3, { live := [2, 6, 7] })], joins := [(8, { live := [1, 2, 3, 6, 7, 8, 9, 15, 16, 47] }), (9, { live := [1, 2, 3, 6, 7, 15, 16] }), (13, { live := [6, 7] })], ents := [(8, [1, 2, 3, 6, 7, 8, 9, 15, 16]), (9, [1, 2, 3, 6, 7, 15, 16]), (13, [2, 6, 7])] }⟩
def S82_3 (a : Int) (b : (List Int)) (c : Int) : St := sT 85 [(2, dI a), (6, .ptr 0 0 [] 0), (7, .ptr 1 0 [] 0)] [.box (.pr (dI 0) (.pr .zs .u)), .box (.pr (dI c) (.pr (.ref 2) .u)), .row 169 .deep (.int .u64) b]
def O82_3 (a : Int) (b : (List Int)) (c : Int) : (List Int) → Ex × St := fun d => (.normal, sT 85 [(6, .ptr 0 0 [] 0), (7, .ptr 1 0 [] 0)] [.box (.pr (dI 0) (.pr .zs .u)), .box (.pr (dI c) (.pr (.ref 2) .u)), .row 169 .deep (.int .u64) d])
def impl_Bits_cut_l3 (a : Int) (b : (List Int)) (c : Int) : Option (List Int) :=
 bif ((Int.tmod a 64) != 0) then
 if (0 : Int) ≤ (IntKind.i64.wrap ((b.length : Int) - 1)) ∧ (IntKind.i64.wrap ((b.length : Int) - 1)) < (b.length : Int) then
 if (Int.tmod a 64) < (0 : Int) then none else
 if (0 : Int) ≤ (IntKind.i64.wrap ((b.length : Int) - 1)) ∧ (IntKind.i64.wrap ((b.length : Int) - 1)) < (b.length : Int) then
 some (b.set (IntKind.i64.wrap ((b.length : Int) - 1)).toNat (andI .u64 (b.getD (IntKind.i64.wrap ((b.length : Int) - 1)).toNat (Ty.zero (.int .u64))) (IntKind.u64.wrap ((shlI .u64 1 (Int.tmod a 64)) - 1))))
 else none
 else none
 else
 some b
theorem T82_3 (a : Int) (b : (List Int)) (c : Int) : JnOk E82 0 13 (code Tryz.f181) [1, 1, 1, 0] (S82_3 a b c) (impl_Bits_cut_l3 a b c) (O82_3 a b c) := by
  unfold JnOk
  simp only [impl_Bits_cut_l3, mC, mI, mN, mB, mE, mM]
  kernel_rfl
def S82_2 (e : Int) (a : Int) (g : Timpl_Bits.V) (i : Int) (j : Int) (z_ : (Int × (List Int))) : St := sT 85 [(1, dI e), (2, dI a), (3, .ptr 0 0 [] 0), (6, .ptr 1 0 [] 0), (7, .ptr 2 0 [] 0), (15, dI i), (16, dI z_.1)] [.box (dD Timpl_Bits g), .box (.pr (dI 0) (.pr .zs .u)), .box (.pr (dI j) (.pr (.ref 3) .u)), .row 169 .deep (.int .u64) z_.2]
def O82_2 (e : Int) (a : Int) (g : Timpl_Bits.V) (i : Int) (j : Int) : (List Int) → Ex × St := fun b => ((.exit 0), sT 85 [(2, dI a), (6, .ptr 0 0 [] 0), (7, .ptr 1 0 [] 0)] [.box (.pr (dI 0) (.pr .zs .u)), .box (.pr (dI j) (.pr (.ref 2) .u)), .row 169 .deep (.int .u64) b])
def S82_1 (e : Int) (a : Int) (i : Int) (k : Int) (g : Timpl_Bits.V) (j : Int) (l : (List Int)) : St := sT 85 [(1, dI e), (2, dI a), (3, .ptr 0 0 [] 0), (6, .ptr 1 0 [] 0), (7, .ptr 2 0 [] 0), (15, dI i), (16, dI k)] [.box (dD Timpl_Bits g), .box (.pr (dI 0) (.pr .zs .u)), .box (.pr (dI j) (.pr (.ref 3) .u)), .row 169 .deep (.int .u64) l]
def O82_1 (e : Int) (a : Int) (i : Int) (k : Int) (g : Timpl_Bits.V) (j : Int) (l : (List Int)) : (List Int) → Ex × St := fun n => (.normal, sT 85 [(1, dI e), (2, dI a), (3, .ptr 0 0 [] 0), (6, .ptr 1 0 [] 0), (7, .ptr 2 0 [] 0), (15, dI i), (16, dI k)] [.box (dD Timpl_Bits g), .box (.pr (dI 0) (.pr .zs .u)), .box (.pr (dI j) (.pr (.ref 3) .u)), .row 169 .deep (.int .u64) n])
def S82_0 (e : Int) (a : Int) (k : Int) (i : Int) (g : Timpl_Bits.V) (j : Int) (l : (List Int)) : St := sT 85 [(1, dI e), (2, dI a), (3, .ptr 0 0 [] 0), (6, .ptr 1 0 [] 0), (7, .ptr 2 0 [] 0), (8, dI k), (9, dI (IntKind.i64.wrap (e + (IntKind.i64.wrap (64 * k))))), (15, dI i), (16, dI k)] [.box (dD Timpl_Bits g), .box (.pr (dI 0) (.pr .zs .u)), .box (.pr (dI j) (.pr (.ref 3) .u)), .row 169 .deep (.int .u64) (l.set k.toNat (shrI .u64 (g.2.1.getD (IntKind.i64.wrap (Int.tdiv (IntKind.i64.wrap (e + (IntKind.i64.wrap (64 * k)))) 64)).toNat (Ty.zero (.int .u64))) (Int.tmod (IntKind.i64.wrap (e + (IntKind.i64.wrap (64 * k)))) 64)))]
def O82_0 (e : Int) (a : Int) (k : Int) (i : Int) (g : Timpl_Bits.V) (j : Int) (l : (List Int)) (m0 : Bool) : Ex × St := (.normal, sT 85 [(1, dI e), (2, dI a), (3, .ptr 0 0 [] 0), (6, .ptr 1 0 [] 0), (7, .ptr 2 0 [] 0), (8, dI k), (9, dI (IntKind.i64.wrap (e + (IntKind.i64.wrap (64 * k))))), (15, dI i), (16, dI k), (47, dB m0)] [.box (dD Timpl_Bits g), .box (.pr (dI 0) (.pr .zs .u)), .box (.pr (dI j) (.pr (.ref 3) .u)), .row 169 .deep (.int .u64) (l.set k.toNat (shrI .u64 (g.2.1.getD (IntKind.i64.wrap (Int.tdiv (IntKind.i64.wrap (e + (IntKind.i64.wrap (64 * k)))) 64)).toNat (Ty.zero (.int .u64))) (Int.tmod (IntKind.i64.wrap (e + (IntKind.i64.wrap (64 * k)))) 64)))])
theorem T82_0 (e : Int) (a : Int) (k : Int) (i : Int) (g : Timpl_Bits.V) (j : Int) (l : (List Int)) : jnS E82 0 8 (sub (sub (code Tryz.f181) [1, 1, 0, 1, 0, 0]) [1, 1, 0]) [0, 1, 1, 1, 0] (S82_0 e a k i g j l) = some (O82_0 e a k i g j l (((Int.tmod (IntKind.i64.wrap (e + (IntKind.i64.wrap (64 * k)))) 64) != 0) && (decide ((IntKind.i64.wrap ((IntKind.i64.wrap (Int.tdiv (IntKind.i64.wrap (e + (IntKind.i64.wrap (64 * k)))) 64)) + 1)) < (g.2.1.length : Int))))) := by
  have h0 : jnS E82 0 8 (sub (sub (code Tryz.f181) [1, 1, 0, 1, 0, 0]) [1, 1, 0]) [0, 1, 1, 1, 0] (S82_0 e a k i g j l) =
 bif ((Int.tmod (IntKind.i64.wrap (e + (IntKind.i64.wrap (64 * k)))) 64) != 0) then
 some (O82_0 e a k i g j l (decide ((IntKind.i64.wrap ((IntKind.i64.wrap (Int.tdiv (IntKind.i64.wrap (e + (IntKind.i64.wrap (64 * k)))) 64)) + 1)) < (g.2.1.length : Int))))
 else
 some (O82_0 e a k i g j l false) := by kernel_rfl
  rw [h0]
  cases h1 : ((Int.tmod (IntKind.i64.wrap (e + (IntKind.i64.wrap (64 * k)))) 64) != 0)
  · first | rfl | kernel_rfl
  · first | rfl | kernel_rfl
def impl_Bits_cut_l1 (e : Int) (a : Int) (i : Int) (k : Int) (g : Timpl_Bits.V) (j : Int) (l : (List Int)) : Option (List Int) :=
 if (0 : Int) ≤ (IntKind.i64.wrap (Int.tdiv (IntKind.i64.wrap (e + (IntKind.i64.wrap (64 * k)))) 64)) ∧ (IntKind.i64.wrap (Int.tdiv (IntKind.i64.wrap (e + (IntKind.i64.wrap (64 * k)))) 64)) < (g.2.1.length : Int) then
 if (Int.tmod (IntKind.i64.wrap (e + (IntKind.i64.wrap (64 * k)))) 64) < (0 : Int) then none else
 if (0 : Int) ≤ k ∧ k < (l.length : Int) then
 mkr (S82_0 e a k i g j l) (
 bif (((Int.tmod (IntKind.i64.wrap (e + (IntKind.i64.wrap (64 * k)))) 64) != 0) && (decide ((IntKind.i64.wrap ((IntKind.i64.wrap (Int.tdiv (IntKind.i64.wrap (e + (IntKind.i64.wrap (64 * k)))) 64)) + 1)) < (g.2.1.length : Int)))) then
 if (0 : Int) ≤ k ∧ k < ((l.set k.toNat (shrI .u64 (g.2.1.getD (IntKind.i64.wrap (Int.tdiv (IntKind.i64.wrap (e + (IntKind.i64.wrap (64 * k)))) 64)).toNat (Ty.zero (.int .u64))) (Int.tmod (IntKind.i64.wrap (e + (IntKind.i64.wrap (64 * k)))) 64))).length : Int) then
 if (0 : Int) ≤ (IntKind.i64.wrap ((IntKind.i64.wrap (Int.tdiv (IntKind.i64.wrap (e + (IntKind.i64.wrap (64 * k)))) 64)) + 1)) ∧ (IntKind.i64.wrap ((IntKind.i64.wrap (Int.tdiv (IntKind.i64.wrap (e + (IntKind.i64.wrap (64 * k)))) 64)) + 1)) < (g.2.1.length : Int) then
 if (IntKind.i64.wrap (64 - (Int.tmod (IntKind.i64.wrap (e + (IntKind.i64.wrap (64 * k)))) 64))) < (0 : Int) then none else
 if (0 : Int) ≤ k ∧ k < ((l.set k.toNat (shrI .u64 (g.2.1.getD (IntKind.i64.wrap (Int.tdiv (IntKind.i64.wrap (e + (IntKind.i64.wrap (64 * k)))) 64)).toNat (Ty.zero (.int .u64))) (Int.tmod (IntKind.i64.wrap (e + (IntKind.i64.wrap (64 * k)))) 64))).length : Int) then
 some ((l.set k.toNat (shrI .u64 (g.2.1.getD (IntKind.i64.wrap (Int.tdiv (IntKind.i64.wrap (e + (IntKind.i64.wrap (64 * k)))) 64)).toNat (Ty.zero (.int .u64))) (Int.tmod (IntKind.i64.wrap (e + (IntKind.i64.wrap (64 * k)))) 64))).set k.toNat (orI .u64 ((l.set k.toNat (shrI .u64 (g.2.1.getD (IntKind.i64.wrap (Int.tdiv (IntKind.i64.wrap (e + (IntKind.i64.wrap (64 * k)))) 64)).toNat (Ty.zero (.int .u64))) (Int.tmod (IntKind.i64.wrap (e + (IntKind.i64.wrap (64 * k)))) 64))).getD k.toNat (Ty.zero (.int .u64))) (shlI .u64 (g.2.1.getD (IntKind.i64.wrap ((IntKind.i64.wrap (Int.tdiv (IntKind.i64.wrap (e + (IntKind.i64.wrap (64 * k)))) 64)) + 1)).toNat (Ty.zero (.int .u64))) (IntKind.i64.wrap (64 - (Int.tmod (IntKind.i64.wrap (e + (IntKind.i64.wrap (64 * k)))) 64))))))
 else none
 else none
 else none
 else
 some (l.set k.toNat (shrI .u64 (g.2.1.getD (IntKind.i64.wrap (Int.tdiv (IntKind.i64.wrap (e + (IntKind.i64.wrap (64 * k)))) 64)).toNat (Ty.zero (.int .u64))) (Int.tmod (IntKind.i64.wrap (e + (IntKind.i64.wrap (64 * k)))) 64))))
 else none
 else none
theorem T82_1 (e : Int) (a : Int) (i : Int) (k : Int) (g : Timpl_Bits.V) (j : Int) (l : (List Int)) : JnOk E82 0 9 (sub (code Tryz.f181) [1, 1, 0, 1, 0, 0]) [1, 1, 0] (S82_1 e a i k g j l) (impl_Bits_cut_l1 e a i k g j l) (O82_1 e a i k g j l) := by
  unfold JnOk
  simp only [impl_Bits_cut_l1, mC, mI, mN, mB, mE, mM]
  simp (disch := refine sI ?_ <;> (repeat' refine sA ?_ ?_) <;> intro _ <;> kernel_rfl) only [in_ok (T82_0 _ _ _ _ _ _ _) (K := joinK 0 (E82.jn 9))]
  kernel_rfl
def impl_Bits_cut_l2_g (e : Int) (a : Int) (g : Timpl_Bits.V) (i : Int) (j : Int) (k : Int) (l : (List Int)) : Option ((Int × (List Int)) ⊕ (List Int)) :=
 bif (decide (k < i)) then
 (impl_Bits_cut_l1 e a i k g j l).bind fun n =>
 some (.inl ((IntKind.i64.wrap (k + 1)), n))
 else
 some (.inr l)
def impl_Bits_cut_l2_r (e : Int) (a : Int) (g : Timpl_Bits.V) (i : Int) (j : Int) (z_ : (Int × (List Int))) := impl_Bits_cut_l2_g e a g i j z_.1 z_.2
def impl_Bits_cut_l2 (e : Int) (a : Int) (g : Timpl_Bits.V) (i : Int) (j : Int) (k : Int) (l : (List Int)) := fix (impl_Bits_cut_l2_r e a g i j) (k, l)
theorem T82_2 (e : Int) (a : Int) (g : Timpl_Bits.V) (i : Int) (j : Int) : LpOk E82 0 3 (code Tryz.f181) [1, 1, 0, 1, 0] (S82_2 e a g i j) (impl_Bits_cut_l2_r e a g i j) (O82_2 e a g i j) := by
  intro _
  simp only [impl_Bits_cut_l2_r, impl_Bits_cut_l2_g, mC, mI, mN, mB, mE, mM]
  simp (disch := refine sI ?_ <;> (repeat' refine sA ?_ ?_) <;> intro _ <;> kernel_rfl) only [jn_ok (T82_1 _ _ _ _ _ _ _) (K := stepK 0 (E82.hd 3) (E82.ot 3))]
  kernel_rfl
def impl_Bits_cut (g : Timpl_Bits.V) (e : Int) (a : Int) : Option (Int × (List Int)) :=
 (impl_zeroBits a).bind fun o =>
 (impl_Bits_cut_l2 e a g (o.2.length : Int) o.1 0 o.2).bind fun b =>
 (impl_Bits_cut_l3 a b o.1).bind fun d =>
 some (o.1, d)
theorem U82 (R : Type) (g : Timpl_Bits.V) (e : Int) (a : Int) (K : AV → List Blk → Option R) : runF E82 Tryz.f181 R [dD Timpl_Bits g, dI e, dI a] [] K = (impl_Bits_cut g e a).bind fun r => K (.pr (dI r.1) (.pr (.ref 0) .u)) [.row 169 .deep (.int .u64) r.2] := by
  simp only [impl_Bits_cut, bC, bI, bN, bE, bA, bS, bO, bM]
  simp (disch := refine sI ?_ <;> (repeat' refine sA ?_ ?_) <;> intro _ <;> kernel_rfl) only [impl_Bits_cut_l2, lp_ok (T82_2 _ _ _ _ _) (K := finK E82 Tryz.f181 0 R K), jn_ok (T82_3 _ _ _) (K := finK E82 Tryz.f181 0 R K)]
  kernel_rfl
def c181 : Va.Callee := brC [.d Timpl_Bits, .d (.int .i64), .d (.int .i64)] [⟨[.dat [] Timpl_Bits, .dat [] (.int .i64), .dat [] (.int .i64)], [], (Int × (List Int)), fun p => impl_Bits_cut p.1.1 p.1.2.1 p.1.2.2.1, fun r => (.pr (dI r.1) (.pr (.ref 0) .u), [.row 169 .deep (.int .u64) r.2])⟩]
theorem c181_snd : SoundC Tryz.prog 181 c181 := br_snd (fn := Tryz.f181) (by kernel_rfl) (by kernel_rfl) (by kernel_rfl) ⟨⟨E82, ⟨⟨tabok, fns_ok ⟨c105_snd, trivial⟩⟩, mixed⟩, fun p R K => U82 R p.1.1 p.1.2.1 p.1.2.2.1 K⟩, trivial⟩
abbrev E83 : Env := ⟨tab, lookH [(156, c156), (181, c181)], { deep := true, res := [(0, .row [3, 1] 169 (.int .u64) true)] }⟩
def impl_Seg_part (a : Timpl_Seg.V) (b : Int) (c : Int) : Option (Int × Int × Int × Int × (List Int)) :=
 bif (a.1 == (-1)) then
 (impl_Bits_cut a.2.2.2.1 b c).bind fun d =>
 some ((impl_constant d.1 d.2).1, (impl_constant d.1 d.2).2.1, (impl_constant d.1 d.2).2.2.1, (impl_constant d.1 d.2).2.2.2.1, (impl_constant d.1 d.2).2.2.2.2)
 else
 some (a.1, (IntKind.i64.wrap (a.2.1 + b)), c, 0, ([] : List Int))
theorem U83 (R : Type) (a : Timpl_Seg.V) (b : Int) (c : Int) (K : AV → List Blk → Option R) : runF E83 Tryz.f160 R [dD Timpl_Seg a, dI b, dI c] [] K = (impl_Seg_part a b c).bind fun r => K (.pr (dI r.1) (.pr (dI r.2.1) (.pr (dI r.2.2.1) (.pr (.pr (dI r.2.2.2.1) (.pr (.ref 0) .u)) .u)))) [.row 169 .deep (.int .u64) r.2.2.2.2] := by
  simp only [impl_Seg_part, bC, bI, bN, bE, bA, bS, bO, bM]
  kernel_rfl
def c160 : Va.Callee := brC [.d Timpl_Seg, .d (.int .i64), .d (.int .i64)] [⟨[.dat [] Timpl_Seg, .dat [] (.int .i64), .dat [] (.int .i64)], [], (Int × Int × Int × Int × (List Int)), fun p => impl_Seg_part p.1.1 p.1.2.1 p.1.2.2.1, fun r => (.pr (dI r.1) (.pr (dI r.2.1) (.pr (dI r.2.2.1) (.pr (.pr (dI r.2.2.2.1) (.pr (.ref 0) .u)) .u))), [.row 169 .deep (.int .u64) r.2.2.2.2])⟩]
theorem c160_snd : SoundC Tryz.prog 160 c160 := br_snd (fn := Tryz.f160) (by kernel_rfl) (by kernel_rfl) (by kernel_rfl) ⟨⟨E83, ⟨⟨tabok, fns_ok ⟨c156_snd, c181_snd, trivial⟩⟩, mixed⟩, fun p R K => U83 R p.1.1 p.1.2.1 p.1.2.2.1 K⟩, trivial⟩
abbrev E84 : Env := ⟨tab, lookH [(129, c129), (160, c160)], { deep := true, heads := [(4, { live := [1, 2, 7, 8, 14, 15, 16], pre := [(7, false, .row [] 135 Timpl_Seg false)] })], outs := [(4, { live := [7] })], joins := [(9, { live := [1, 2, 7, 8, 10, 14, 15, 16], pre := [(7, false, .row [] 135 Timpl_Seg false)] })], ents := [(9, [1, 2, 7, 8, 10, 11, 12, 14, 15, 16])], frzd := [(43, (.sl Timpl_Seg))] }⟩
def S84_2 (a : Int) (b : Int) (c : (List Timpl_Seg.V)) (d : Int) (z_ : (Int × Int × (List Timpl_Seg.V))) : St := sT 51 [(1, dI a), (2, dI b), (7, .ref 0), (8, dI z_.1), (14, dD (.sl Timpl_Seg) c), (15, dI d), (16, dI z_.2.1)] [.row 135 (.sh []) Timpl_Seg z_.2.2]
def O84_2 (a : Int) (b : Int) (c : (List Timpl_Seg.V)) (d : Int) : (List Timpl_Seg.V) → Ex × St := fun e => ((.exit 0), sT 51 [(7, .ref 0)] [.row 135 (.sh []) Timpl_Seg e])
def S84_1 (a : Int) (b : Int) (g : Int) (c : (List Timpl_Seg.V)) (d : Int) (i : Int) (j : (List Timpl_Seg.V)) (k : Int) (l : Int) (n : Timpl_Seg.V) : St := sT 51 [(1, dI a), (2, dI b), (7, .ref 0), (8, dI g), (10, .ptr 1 0 [] 0), (11, dI k), (12, dI l), (14, dD (.sl Timpl_Seg) c), (15, dI d), (16, dI i)] [.row 135 (.sh []) Timpl_Seg j, .box (dD Timpl_Seg n)]
def O84_1 (a : Int) (b : Int) (g : Int) (c : (List Timpl_Seg.V)) (d : Int) (i : Int) (j : (List Timpl_Seg.V)) (k : Int) (l : Int) (n : Timpl_Seg.V) : (List Timpl_Seg.V) → Ex × St := fun o => (.normal, sT 51 [(1, dI a), (2, dI b), (7, .ref 0), (8, dI g), (10, .ptr 1 0 [] 0), (14, dD (.sl Timpl_Seg) c), (15, dI d), (16, dI i)] [.row 135 (.sh []) Timpl_Seg o, .box (dD Timpl_Seg n)])
def impl_flatPart_l1 (a : Int) (b : Int) (g : Int) (c : (List Timpl_Seg.V)) (d : Int) (i : Int) (j : (List Timpl_Seg.V)) (k : Int) (l : Int) (n : Timpl_Seg.V) : Option (List Timpl_Seg.V) :=
 bif (decide (k < l)) then
 (impl_Seg_part n (IntKind.i64.wrap (k - g)) (IntKind.i64.wrap (l - k))).bind fun q =>
 (impl_raise_b ([(q.1, q.2.1, q.2.2.1, (q.2.2.2.1, q.2.2.2.2, ()), ())] : List Timpl_Seg.V) j).bind fun s =>
 some s
 else
 some j
theorem T84_1 (a : Int) (b : Int) (g : Int) (c : (List Timpl_Seg.V)) (d : Int) (i : Int) (j : (List Timpl_Seg.V)) (k : Int) (l : Int) (n : Timpl_Seg.V) : JnOk E84 0 9 (sub (code Tryz.f127) [1, 1, 1, 0, 1, 0, 0]) [1, 1, 0, 0, 1, 1, 0] (S84_1 a b g c d i j k l n) (impl_flatPart_l1 a b g c d i j k l n) (O84_1 a b g c d i j k l n) := by
  unfold JnOk
  simp only [impl_flatPart_l1, mC, mI, mN, mB, mE, mM]
  kernel_rfl
def impl_flatPart_l2_g (a : Int) (b : Int) (c : (List Timpl_Seg.V)) (d : Int) (g : Int) (i : Int) (j : (List Timpl_Seg.V)) : Option ((Int × Int × (List Timpl_Seg.V)) ⊕ (List Timpl_Seg.V)) :=
 bif (decide (i < d)) then
 if (0 : Int) ≤ i ∧ i < (c.length : Int) then
 (impl_flatPart_l1 a b g c d i j (if g > a then g else a) (if (IntKind.i64.wrap (g + (c.getD i.toNat (Ty.zero Timpl_Seg)).2.2.1)) < (IntKind.i64.wrap (a + b)) then (IntKind.i64.wrap (g + (c.getD i.toNat (Ty.zero Timpl_Seg)).2.2.1)) else (IntKind.i64.wrap (a + b))) (c.getD i.toNat (Ty.zero Timpl_Seg))).bind fun o =>
 some (.inl ((IntKind.i64.wrap (g + (c.getD i.toNat (Ty.zero Timpl_Seg)).2.2.1)), (IntKind.i64.wrap (i + 1)), o))
 else none
 else
 some (.inr j)
def impl_flatPart_l2_r (a : Int) (b : Int) (c : (List Timpl_Seg.V)) (d : Int) (z_ : (Int × Int × (List Timpl_Seg.V))) := impl_flatPart_l2_g a b c d z_.1 z_.2.1 z_.2.2
def impl_flatPart_l2 (a : Int) (b : Int) (c : (List Timpl_Seg.V)) (d : Int) (g : Int) (i : Int) (j : (List Timpl_Seg.V)) := fix (impl_flatPart_l2_r a b c d) (g, i, j)
theorem T84_2 (a : Int) (b : Int) (c : (List Timpl_Seg.V)) (d : Int) : LpOk E84 0 4 (code Tryz.f127) [1, 1, 1, 0, 1, 0] (S84_2 a b c d) (impl_flatPart_l2_r a b c d) (O84_2 a b c d) := by
  intro _
  simp only [impl_flatPart_l2_r, impl_flatPart_l2_g, mC, mI, mN, mB, mE, mM]
  simp (disch := refine sI ?_ <;> (repeat' refine sA ?_ ?_) <;> intro _ <;> kernel_rfl) only [jn_ok (T84_1 _ _ _ _ _ _ _ _ _ _) (K := stepK 0 (E84.hd 4) (E84.ot 4))]
  kernel_rfl
def impl_flatPart (c : (List Timpl_Seg.V)) (a : Int) (b : Int) : Option (List Timpl_Seg.V) :=
 (impl_flatPart_l2 a b c (c.length : Int) 0 0 ([] : List Timpl_Seg.V)).bind fun e =>
 some e
theorem U84 (R : Type) (c : (List Timpl_Seg.V)) (a : Int) (b : Int) (K : AV → List Blk → Option R) : runF E84 Tryz.f127 R [dD (.sl Timpl_Seg) c, dI a, dI b] [] K = (impl_flatPart c a b).bind fun r => K (.ref 0) [.row 135 (.sh []) Timpl_Seg r] := by
  simp only [impl_flatPart, bC, bI, bN, bE, bA, bS, bO, bM]
  simp (disch := refine sI ?_ <;> (repeat' refine sA ?_ ?_) <;> intro _ <;> kernel_rfl) only [impl_flatPart_l2, lp_ok (T84_2 _ _ _ _) (K := finK E84 Tryz.f127 0 R K)]
  kernel_rfl
def c127 : Va.Callee := brC [.d (.sl Timpl_Seg), .d (.int .i64), .d (.int .i64)] [⟨[.dat [] (.sl Timpl_Seg), .dat [] (.int .i64), .dat [] (.int .i64)], [], (List Timpl_Seg.V), fun p => impl_flatPart p.1.1 p.1.2.1 p.1.2.2.1, fun r => (.ref 0, [.row 135 (.sh []) Timpl_Seg r])⟩]
theorem c127_snd : SoundC Tryz.prog 127 c127 := br_snd (fn := Tryz.f127) (by kernel_rfl) (by kernel_rfl) (by kernel_rfl) ⟨⟨E84, ⟨⟨tabok, fns_ok ⟨c129_snd, c160_snd, trivial⟩⟩, mixed⟩, fun p R K => U84 R p.1.1 p.1.2.1 p.1.2.2.1 K⟩, trivial⟩
noncomputable def c157 : Va.Callee := cloneC 135 Timpl_Seg 56
noncomputable abbrev e157 : Env := { tab := tab, fns := lookH [], fi := { } }
theorem e157_ok : ProgOk Tryz.prog e157 := ⟨⟨tabok, fns_ok trivial⟩, mixed⟩
theorem c157_snd : SoundC Tryz.prog 157 c157 :=
  clone_snd (fn := Tryz.f157) e157_ok (by kernel_rfl) (by kernel_rfl) rfl rfl rfl ⟨rfl, rfl, rfl⟩ ⟨rfl, rfl, rfl⟩ (ti := ⟨.sl Timpl_Seg, [], 135, 24, 0⟩) (by kernel_rfl) rfl (by kernel_rfl) (fun xs => by kernel_rfl) (fun xs => by kernel_rfl)
    fun xs h => by
      have h0 : ev e157 0 (sub (code Tryz.f157) [1, 1]) (Ex × St) ⟨[.dat [] (.sl Timpl_Seg) xs, .un 0, .zs, .dat [] (.sl Timpl_Seg) xs, .bool false, .un 0, .un 0, .un 0], []⟩ pair2 = if xs.length * 56 ≤ 140737488355328 then some (.ret, ⟨[.dat [] (.sl Timpl_Seg) xs, .un 0, .ref 0, .dat [] (.sl Timpl_Seg) xs, .bool false, .zs, .dat [] (.sl Timpl_Seg) xs, .ref 0], [.row 135 (.sh []) Timpl_Seg xs]⟩) else none := by kernel_rfl
      exact h0.trans (if_pos h)
abbrev E85 : Env := ⟨tab, lookH [(81, c81), (105, c105), (126, c126), (127, c127), (129, c129), (156, c156), (157, c157)], { heads := [(9, { live := [2, 7, 8], pre := [(7, false, .row [] 135 Timpl_Seg false)] }), (27, { live := [9, 12, 125, 126], pre := [(12, false, .row [] 135 Timpl_Seg false)] }), (36, { live := [13, 14, 151, 152], frz := [(14, true, Timpl_Seg)] })], outs := [(9, { live := [7] }), (27, { live := [12] }), (36, { live := [13] })], joins := [(20, { live := [0, 9, 10, 69, 88] }), (23, { live := [9, 10, 11] }), (35, { live := [0, 13, 14] })], ents := [(20, [0, 9, 10, 69]), (23, [0, 9, 10, 11]), (35, [0, 9, 10, 13, 14])], frzd := [(117, (.sl Timpl_Seg)), (156, (.sl Timpl_Seg))] }⟩
def S85_6 (a : Int) (b : Timpl_Seg.V) (z_ : (Int × (List Timpl_Seg.V))) : St := sT 160 [(13, .ref 0), (14, .ptr 1 0 [] 0), (151, dI a), (152, dI z_.1)] [.row 135 (.sh []) Timpl_Seg z_.2, .box (dD Timpl_Seg b)]
def O85_6 (a : Int) (b : Timpl_Seg.V) : (List Timpl_Seg.V) → Ex × St := fun c => ((.exit 6), sT 160 [(13, .ref 0)] [.row 135 (.sh []) Timpl_Seg c])
def impl_TNode_flatten_l6_g (a : Int) (b : Timpl_Seg.V) (d : Int) (e : (List Timpl_Seg.V)) : Option ((Int × (List Timpl_Seg.V)) ⊕ (List Timpl_Seg.V)) :=
 bif (decide (d < a)) then
 (impl_raise_b ([b] : List Timpl_Seg.V) e).bind fun g =>
 some (.inl ((IntKind.i64.wrap (d + 1)), g))
 else
 some (.inr e)
def impl_TNode_flatten_l6_r (a : Int) (b : Timpl_Seg.V) (z_ : (Int × (List Timpl_Seg.V))) := impl_TNode_flatten_l6_g a b z_.1 z_.2
def impl_TNode_flatten_l6 (a : Int) (b : Timpl_Seg.V) (d : Int) (e : (List Timpl_Seg.V)) := fix (impl_TNode_flatten_l6_r a b) (d, e)
theorem T85_6 (a : Int) (b : Timpl_Seg.V) : LpOk E85 0 36 (code Tryz.f118) [1, 1, 1, 1, 1, 1, 1, 1, 0, 1, 0] (S85_6 a b) (impl_TNode_flatten_l6_r a b) (O85_6 a b) := by
  intro _
  simp only [impl_TNode_flatten_l6_r, impl_TNode_flatten_l6_g, mC, mI, mN, mB, mE, mM]
  kernel_rfl
def S85_5 (i : Timpl_Seg.V) (j : Int) (z_ : (Int × (List Timpl_Seg.V))) : St := sT 160 [(13, .ref 0), (14, .ptr 1 0 [] 0), (151, dI j), (152, dI z_.1)] [.row 135 (.sh []) Timpl_Seg z_.2, .box (dD Timpl_Seg i)]
def O85_5 (i : Timpl_Seg.V) (j : Int) : (List Timpl_Seg.V) → Ex × St := fun k => ((.exit 6), sT 160 [(13, .ref 0)] [.row 135 (.sh []) Timpl_Seg k])
def impl_TNode_flatten_l5_g (i : Timpl_Seg.V) (j : Int) (l : Int) (n : (List Timpl_Seg.V)) : Option ((Int × (List Timpl_Seg.V)) ⊕ (List Timpl_Seg.V)) :=
 bif (decide (l < j)) then
 (impl_raise_b ([i] : List Timpl_Seg.V) n).bind fun o =>
 some (.inl ((IntKind.i64.wrap (l + 1)), o))
 else
 some (.inr n)
def impl_TNode_flatten_l5_r (i : Timpl_Seg.V) (j : Int) (z_ : (Int × (List Timpl_Seg.V))) := impl_TNode_flatten_l5_g i j z_.1 z_.2
def impl_TNode_flatten_l5 (i : Timpl_Seg.V) (j : Int) (l : Int) (n : (List Timpl_Seg.V)) := fix (impl_TNode_flatten_l5_r i j) (l, n)
theorem T85_5 (i : Timpl_Seg.V) (j : Int) : LpOk E85 0 36 (code Tryz.f118) [1, 1, 1, 1, 1, 1, 1, 1, 0, 1, 0] (S85_5 i j) (impl_TNode_flatten_l5_r i j) (O85_5 i j) := by
  intro _
  simp only [impl_TNode_flatten_l5_r, impl_TNode_flatten_l5_g, mC, mI, mN, mB, mE, mM]
  kernel_rfl
def S85_4 (q : Timpl_TNode.V) (s : Int) (t : (List Timpl_Seg.V)) (u : (List Timpl_Seg.V)) (v : Int) (w : Int) (x : Int) (y : Int) (a1 : (List Int)) : St := sT 160 [(0, .rop [] Timpl_TNode q), (9, dD (.sl Timpl_Seg) t), (10, dI s), (13, .ref 0), (14, .ptr 1 0 [] 0)] [.row 135 (.sh []) Timpl_Seg u, .box (.pr (dI v) (.pr (dI w) (.pr (dI x) (.pr (.pr (dI y) (.pr (.ref 2) .u)) .u)))), .row 169 .deep (.int .u64) a1]
def O85_4 (q : Timpl_TNode.V) (s : Int) (t : (List Timpl_Seg.V)) (u : (List Timpl_Seg.V)) (v : Int) (w : Int) (x : Int) (y : Int) (a1 : (List Int)) : (Timpl_Seg.V ⊕ Unit) → Ex × St := Sum.elim (fun i => (.normal, sT 160 [(0, .rop [] Timpl_TNode q), (13, .ref 0), (14, .ptr 1 0 [] 0)] [.row 135 (.sh []) Timpl_Seg u, .box (dD Timpl_Seg i)])) (fun b1 => (.normal, sT 160 [(0, .rop [] Timpl_TNode q), (13, .ref 0), (14, .ptr 1 0 [] 0)] [.row 135 (.sh []) Timpl_Seg u, .box (.pr (dI v) (.pr (dI w) (.pr (dI x) (.pr (.pr (dI y) (.pr (.ref 2) .u)) .u)))), .row 169 .deep (.int .u64) a1]))
def impl_TNode_flatten_l4 (q : Timpl_TNode.V) (s : Int) (t : (List Timpl_Seg.V)) (u : (List Timpl_Seg.V)) (v : Int) (w : Int) (x : Int) (y : Int) (a1 : (List Int)) : Option (Timpl_Seg.V ⊕ Unit) :=
 bif (q.1 == 6) then
 (impl_flatPart t (IntKind.i64.wrap (s - 1)) 1).bind fun c1 =>
 if (0 : Int) ≤ (0 : Int) ∧ (0 : Int) < (c1.length : Int) then
 some (.inl (c1.getD 0 (Ty.zero Timpl_Seg)))
 else none
 else
 some (.inr ())
theorem T85_4 (q : Timpl_TNode.V) (s : Int) (t : (List Timpl_Seg.V)) (u : (List Timpl_Seg.V)) (v : Int) (w : Int) (x : Int) (y : Int) (a1 : (List Int)) : JnOk E85 0 35 (code Tryz.f118) [1, 1, 1, 1, 1, 1, 1, 0] (S85_4 q s t u v w x y a1) (impl_TNode_flatten_l4 q s t u v w x y a1) (O85_4 q s t u v w x y a1) := by
  unfold JnOk
  simp only [impl_TNode_flatten_l4, mC, mI, mN, mB, mE, mM]
  kernel_rfl
def S85_3 (d1 : (List Timpl_Seg.V)) (e1 : Int) (z_ : (Int × (List Timpl_Seg.V))) : St := sT 160 [(9, dD (.sl Timpl_Seg) d1), (12, .ref 0), (125, dI e1), (126, dI z_.1)] [.row 135 (.sh []) Timpl_Seg z_.2]
def O85_3 (d1 : (List Timpl_Seg.V)) (e1 : Int) : (List Timpl_Seg.V) → Ex × St := fun g1 => ((.exit 4), sT 160 [(12, .ref 0)] [.row 135 (.sh []) Timpl_Seg g1])
def impl_TNode_flatten_l3_g (d1 : (List Timpl_Seg.V)) (e1 : Int) (i1 : Int) (j1 : (List Timpl_Seg.V)) : Option ((Int × (List Timpl_Seg.V)) ⊕ (List Timpl_Seg.V)) :=
 bif (decide (i1 < e1)) then
 (impl_raise_b d1 j1).bind fun k1 =>
 some (.inl ((IntKind.i64.wrap (i1 + 1)), k1))
 else
 some (.inr j1)
def impl_TNode_flatten_l3_r (d1 : (List Timpl_Seg.V)) (e1 : Int) (z_ : (Int × (List Timpl_Seg.V))) := impl_TNode_flatten_l3_g d1 e1 z_.1 z_.2
def impl_TNode_flatten_l3 (d1 : (List Timpl_Seg.V)) (e1 : Int) (i1 : Int) (j1 : (List Timpl_Seg.V)) := fix (impl_TNode_flatten_l3_r d1 e1) (i1, j1)
theorem T85_3 (d1 : (List Timpl_Seg.V)) (e1 : Int) : LpOk E85 0 27 (code Tryz.f118) [1, 1, 1, 1, 0, 1, 0, 1, 1, 1, 1, 1, 0, 1, 0, 1, 0] (S85_3 d1 e1) (impl_TNode_flatten_l3_r d1 e1) (O85_3 d1 e1) := by
  intro _
  simp only [impl_TNode_flatten_l3_r, impl_TNode_flatten_l3_g, mC, mI, mN, mB, mE, mM]
  kernel_rfl
def S85_2 (q : Timpl_TNode.V) (s : Int) (l1 : (List Timpl_Seg.V)) (n1 : Int) : St := sT 160 [(0, .rop [] Timpl_TNode q), (9, dD (.sl Timpl_Seg) l1), (10, dI s), (11, dI n1)] []
def O85_2 (q : Timpl_TNode.V) (s : Int) (l1 : (List Timpl_Seg.V)) (n1 : Int) : Int → Ex × St := fun o1 => (.normal, sT 160 [(9, dD (.sl Timpl_Seg) l1), (10, dI s), (11, dI o1)] [])
def impl_TNode_flatten_l2 (q : Timpl_TNode.V) (s : Int) (l1 : (List Timpl_Seg.V)) (n1 : Int) : Option Int :=
 bif (q.1 == 8) then
 if s = (0 : Int) then none else
 some (Int.tmod (IntKind.i64.wrap (s - n1)) s)
 else
 some n1
theorem T85_2 (q : Timpl_TNode.V) (s : Int) (l1 : (List Timpl_Seg.V)) (n1 : Int) : JnOk E85 0 23 (code Tryz.f118) [1, 1, 1, 1, 0, 1, 0, 1, 1, 1, 0, 1, 0] (S85_2 q s l1 n1) (impl_TNode_flatten_l2 q s l1 n1) (O85_2 q s l1 n1) := by
  unfold JnOk
  simp only [impl_TNode_flatten_l2, mC, mI, mN, mB, mE, mM]
  kernel_rfl
def S85_1 (q : Timpl_TNode.V) (q1 : (List (List Timpl_Seg.V))) (s : Int) : St := sT 160 [(0, .rop [] Timpl_TNode q), (9, dD (.sl Timpl_Seg) (q1.getD 0 (Ty.zero (.sl Timpl_Seg)))), (10, dI s), (69, dI q.1)] []
def O85_1 (q : Timpl_TNode.V) (q1 : (List (List Timpl_Seg.V))) (s : Int) (m0 : Bool) : Ex × St := (.normal, sT 160 [(0, .rop [] Timpl_TNode q), (9, dD (.sl Timpl_Seg) (q1.getD 0 (Ty.zero (.sl Timpl_Seg)))), (10, dI s), (69, dI q.1), (88, dB m0)] [])
theorem T85_1 (q : Timpl_TNode.V) (q1 : (List (List Timpl_Seg.V))) (s : Int) : jnS E85 0 20 (code Tryz.f118) [1, 1, 1, 1, 0, 1, 0, 1, 1, 0] (S85_1 q q1 s) = some (O85_1 q q1 s (bif (q.1 == 7) then (q.1 == 7) else (q.1 == 8))) := by
  have h0 : jnS E85 0 20 (code Tryz.f118) [1, 1, 1, 1, 0, 1, 0, 1, 1, 0] (S85_1 q q1 s) =
 bif (q.1 == 7) then
 some (O85_1 q q1 s (q.1 == 7))
 else
 some (O85_1 q q1 s (q.1 == 8)) := by kernel_rfl
  rw [h0]
  cases h1 : (q.1 == 7)
  · first | rfl | kernel_rfl
  · first | rfl | kernel_rfl
def S85_0 (q1 : (List (List Timpl_Seg.V))) (z_ : (Int × (List Timpl_Seg.V))) : St := sT 160 [(2, dD (.sl (.sl Timpl_Seg)) q1), (7, .ref 0), (8, dI z_.1)] [.row 135 (.sh []) Timpl_Seg z_.2]
def O85_0 (q1 : (List (List Timpl_Seg.V))) : (List Timpl_Seg.V) → Ex × St := fun s1 => ((.exit 1), sT 160 [(7, .ref 0)] [.row 135 (.sh []) Timpl_Seg s1])
def impl_TNode_flatten_l0_g (q1 : (List (List Timpl_Seg.V))) (t1 : Int) (u1 : (List Timpl_Seg.V)) : Option ((Int × (List Timpl_Seg.V)) ⊕ (List Timpl_Seg.V)) :=
 bif (decide (t1 ≥ 0)) then
 if (0 : Int) ≤ t1 ∧ t1 < (q1.length : Int) then
 (impl_raise_b (q1.getD t1.toNat (Ty.zero (.sl Timpl_Seg))) u1).bind fun v1 =>
 some (.inl ((IntKind.i64.wrap (t1 - 1)), v1))
 else none
 else
 some (.inr u1)
def impl_TNode_flatten_l0_r (q1 : (List (List Timpl_Seg.V))) (z_ : (Int × (List Timpl_Seg.V))) := impl_TNode_flatten_l0_g q1 z_.1 z_.2
def impl_TNode_flatten_l0 (q1 : (List (List Timpl_Seg.V))) (t1 : Int) (u1 : (List Timpl_Seg.V)) := fix (impl_TNode_flatten_l0_r q1) (t1, u1)
theorem T85_0 (q1 : (List (List Timpl_Seg.V))) : LpOk E85 0 9 (code Tryz.f118) [1, 0, 1, 0, 1, 1, 1, 1, 1, 0, 1, 0, 1, 0] (S85_0 q1) (impl_TNode_flatten_l0_r q1) (O85_0 q1) := by
  intro _
  simp only [impl_TNode_flatten_l0_r, impl_TNode_flatten_l0_g, mC, mI, mN, mB, mE, mM]
  kernel_rfl
def impl_TNode_flatten (q : Timpl_TNode.V) (w1 : (List Timpl_Decl.V)) (q1 : (List (List Timpl_Seg.V))) : Option (List Timpl_Seg.V) :=
 bif (q.1 == 1) then
 if (0 : Int) ≤ q.2.1 ∧ q.2.1 < (w1.length : Int) then
 some ([(q.2.1, 0, (w1.getD q.2.1.toNat (Ty.zero Timpl_Decl)).2.1, (0, ([] : List Int), ()), ())] : List Timpl_Seg.V)
 else none
 else
 bif (q.1 == 2) then
 (impl_cloneBits q.2.2.2.2.1).bind fun x1 =>
 some ([((impl_constant x1.1 x1.2).1, (impl_constant x1.1 x1.2).2.1, (impl_constant x1.1 x1.2).2.2.1, ((impl_constant x1.1 x1.2).2.2.2.1, (impl_constant x1.1 x1.2).2.2.2.2, ()), ())] : List Timpl_Seg.V)
 else
 bif (q.1 == 3) then
 (impl_TNode_flatten_l0 q1 (IntKind.i64.wrap ((q1.length : Int) - 1)) ([] : List Timpl_Seg.V)).bind fun s1 =>
 some s1
 else
 if (0 : Int) ≤ (0 : Int) ∧ (0 : Int) < (q1.length : Int) then
 (impl_flatWidth (q1.getD 0 (Ty.zero (.sl Timpl_Seg)))).bind fun s =>
 bif (q.1 == 4) then
 (impl_flatPart (q1.getD 0 (Ty.zero (.sl Timpl_Seg))) q.2.2.2.1 (IntKind.i64.wrap ((IntKind.i64.wrap (q.2.2.1 - q.2.2.2.1)) + 1))).bind fun y1 =>
 some y1
 else
 mkr (S85_1 q q1 s) (
 bif (bif (q.1 == 7) then (q.1 == 7) else (q.1 == 8)) then
 if s = (0 : Int) then none else
 (impl_TNode_flatten_l2 q s (q1.getD 0 (Ty.zero (.sl Timpl_Seg))) (Int.tmod q.2.2.1 s)).bind fun o1 =>
 (impl_flatPart (q1.getD 0 (Ty.zero (.sl Timpl_Seg))) (IntKind.i64.wrap (s - o1)) o1).bind fun a2 =>
 (impl_flatPart (q1.getD 0 (Ty.zero (.sl Timpl_Seg))) 0 (IntKind.i64.wrap (s - o1))).bind fun b2 =>
 (impl_raise_b b2 a2).bind fun c2 =>
 some c2
 else
 bif (q.1 == 9) then
 (impl_TNode_flatten_l3 (q1.getD 0 (Ty.zero (.sl Timpl_Seg))) q.2.2.1 0 ([] : List Timpl_Seg.V)).bind fun g1 =>
 some g1
 else
 if (q1.getD 0 (Ty.zero (.sl Timpl_Seg))).length * 56 ≤ 140737488355328 then
 (impl_zeroBits 1).bind fun d2 =>
 (impl_TNode_flatten_l4 q s (q1.getD 0 (Ty.zero (.sl Timpl_Seg))) (q1.getD 0 (Ty.zero (.sl Timpl_Seg))) (impl_constant d2.1 d2.2).1 (impl_constant d2.1 d2.2).2.1 (impl_constant d2.1 d2.2).2.2.1 (impl_constant d2.1 d2.2).2.2.2.1 (impl_constant d2.1 d2.2).2.2.2.2).bind (Sum.elim (fun i =>
 (impl_TNode_flatten_l5 i q.2.2.1 0 (q1.getD 0 (Ty.zero (.sl Timpl_Seg)))).bind fun k =>
 some k) (fun b1 =>
 (impl_TNode_flatten_l6 q.2.2.1 ((impl_constant d2.1 d2.2).1, (impl_constant d2.1 d2.2).2.1, (impl_constant d2.1 d2.2).2.2.1, ((impl_constant d2.1 d2.2).2.2.2.1, (impl_constant d2.1 d2.2).2.2.2.2, ()), ()) 0 (q1.getD 0 (Ty.zero (.sl Timpl_Seg)))).bind fun c =>
 some c))
 else none)
 else none
theorem U85 (R : Type) (q : Timpl_TNode.V) (w1 : (List Timpl_Decl.V)) (q1 : (List (List Timpl_Seg.V))) (K : AV → List Blk → Option R) : runF E85 Tryz.f118 R [.rop [] Timpl_TNode q, dD (.sl Timpl_Decl) w1, dD (.sl (.sl Timpl_Seg)) q1] [] K = (impl_TNode_flatten q w1 q1).bind fun r => K (.ref 0) [.row 135 (.sh []) Timpl_Seg r] := by
  simp only [impl_TNode_flatten, bC, bI, bN, bE, bA, bS, bO, bM]
  simp (disch := refine sI ?_ <;> (repeat' refine sA ?_ ?_) <;> intro _ <;> kernel_rfl) only [impl_TNode_flatten_l0, lp_ok (T85_0 _) (K := finK E85 Tryz.f118 0 R K), in_ok (T85_1 _ _ _) (K := finK E85 Tryz.f118 0 R K), jn_ok (T85_2 _ _ _ _) (K := finK E85 Tryz.f118 0 R K), impl_TNode_flatten_l3, lp_ok (T85_3 _ _) (K := finK E85 Tryz.f118 0 R K), jn_ok (T85_4 _ _ _ _ _ _ _ _ _) (K := finK E85 Tryz.f118 0 R K), impl_TNode_flatten_l5, lp_ok (T85_5 _ _) (K := finK E85 Tryz.f118 0 R K), impl_TNode_flatten_l6, lp_ok (T85_6 _ _) (K := finK E85 Tryz.f118 0 R K)]
  kernel_rfl
def c118 : Va.Callee := brC [.p Timpl_TNode, .d (.sl Timpl_Decl), .d (.sl (.sl Timpl_Seg))] [⟨[.rop [] Timpl_TNode, .dat [] (.sl Timpl_Decl), .dat [] (.sl (.sl Timpl_Seg))], [], (List Timpl_Seg.V), fun p => impl_TNode_flatten p.1.1 p.1.2.1 p.1.2.2.1, fun r => (.ref 0, [.row 135 (.sh []) Timpl_Seg r])⟩]
theorem c118_snd : SoundC Tryz.prog 118 c118 := br_snd (fn := Tryz.f118) (by kernel_rfl) (by kernel_rfl) (by kernel_rfl) ⟨⟨E85, ⟨⟨tabok, fns_ok ⟨c81_snd, c105_snd, c126_snd, c127_snd, c129_snd, c156_snd, c157_snd, trivial⟩⟩, mixed⟩, fun p R K => U85 R p.1.1 p.1.2.1 p.1.2.2.1 K⟩, trivial⟩
abbrev E86 : Env := ⟨tab, lookH [(81, c81)], { deep := true, heads := [(3, { live := [3, 9, 10, 11] })], outs := [(3, { live := [3] })] }⟩
def S86_0 (a : (List Timpl_Seg.V)) (b : Int) (z_ : (Int × (List Timpl_Seg.V))) : St := sT 26 [(3, .ref 0), (9, dD (.sl Timpl_Seg) a), (10, dI b), (11, dI z_.1)] [.row 135 .deep Timpl_Seg z_.2]
def O86_0 (a : (List Timpl_Seg.V)) (b : Int) : (List Timpl_Seg.V) → Ex × St := fun c => ((.exit 0), sT 26 [(3, .ref 0)] [.row 135 .deep Timpl_Seg c])
def impl_cloneFlat_l0_g (a : (List Timpl_Seg.V)) (b : Int) (d : Int) (e : (List Timpl_Seg.V)) : Option ((Int × (List Timpl_Seg.V)) ⊕ (List Timpl_Seg.V)) :=
 bif (decide (d < b)) then
 if (0 : Int) ≤ d ∧ d < (a.length : Int) then
 (impl_cloneBits (a.getD d.toNat (Ty.zero Timpl_Seg)).2.2.2.1).bind fun g =>
 if (0 : Int) ≤ d ∧ d < (e.length : Int) then
 some (.inl ((IntKind.i64.wrap (d + 1)), (e.set d.toNat ((a.getD d.toNat (Ty.zero Timpl_Seg)).1, (a.getD d.toNat (Ty.zero Timpl_Seg)).2.1, (a.getD d.toNat (Ty.zero Timpl_Seg)).2.2.1, (g.1, g.2, ()), (a.getD d.toNat (Ty.zero Timpl_Seg)).2.2.2.2))))
 else none
 else none
 else
 some (.inr e)
def impl_cloneFlat_l0_r (a : (List Timpl_Seg.V)) (b : Int) (z_ : (Int × (List Timpl_Seg.V))) := impl_cloneFlat_l0_g a b z_.1 z_.2
def impl_cloneFlat_l0 (a : (List Timpl_Seg.V)) (b : Int) (d : Int) (e : (List Timpl_Seg.V)) := fix (impl_cloneFlat_l0_r a b) (d, e)
theorem T86_0 (a : (List Timpl_Seg.V)) (b : Int) : LpOk E86 0 3 (code Tryz.f39) [1, 1, 0, 1, 0] (S86_0 a b) (impl_cloneFlat_l0_r a b) (O86_0 a b) := by
  intro _
  simp only [impl_cloneFlat_l0_r, impl_cloneFlat_l0_g, mC, mI, mN, mB, mE, mM]
  kernel_rfl
def impl_cloneFlat (a : (List Timpl_Seg.V)) : Option (List Timpl_Seg.V) :=
 if Ty.row Timpl_Seg = true ∧ (0 : Int) ≤ (a.length : Int) ∧ (a.length : Int) ≤ (a.length : Int) ∧ ((56 : Nat) : Int) * (a.length : Int) ≤ (281474976710656 : Int) ∧ (a.length : Int) ≤ (9223372036854775807 : Int) then
 (impl_cloneFlat_l0 a (a.length : Int) 0 (List.replicate (a.length : Int).toNat (0, 0, 0, (0, ([] : List Int), ()), ()))).bind fun c =>
 some c
 else none
theorem U86 (R : Type) (a : (List Timpl_Seg.V)) (K : AV → List Blk → Option R) : runF E86 Tryz.f39 R [dD (.sl Timpl_Seg) a] [] K = (impl_cloneFlat a).bind fun r => K (.ref 0) [.row 135 .deep Timpl_Seg r] := by
  simp only [impl_cloneFlat, bC, bI, bN, bE, bA, bS, bO, bM]
  simp (disch := refine sI ?_ <;> (repeat' refine sA ?_ ?_) <;> intro _ <;> kernel_rfl) only [impl_cloneFlat_l0, lp_ok (T86_0 _ _) (K := finK E86 Tryz.f39 0 R K)]
  kernel_rfl
def c39 : Va.Callee := brC [.d (.sl Timpl_Seg)] [⟨[.dat [] (.sl Timpl_Seg)], [], (List Timpl_Seg.V), fun p => impl_cloneFlat p.1.1, fun r => (.ref 0, [.row 135 .deep Timpl_Seg r])⟩]
theorem c39_snd : SoundC Tryz.prog 39 c39 := br_snd (fn := Tryz.f39) (by kernel_rfl) (by kernel_rfl) (by kernel_rfl) ⟨⟨E86, ⟨⟨tabok, fns_ok ⟨c81_snd, trivial⟩⟩, mixed⟩, fun p R K => U86 R p.1.1 K⟩, trivial⟩
abbrev E87 : Env := ⟨tab, lookH [(39, c39), (118, c118)], { heads := [(3, { live := [0, 3, 6, 18, 19] }), (8, { live := [0, 3, 6, 7, 8, 9, 18, 19, 35, 36, 37] })], outs := [(3, { live := [4, 5, 6], frz := [(6, false, (.sl (.sl Timpl_Seg)))] }), (8, { live := [0, 3, 6, 7, 8, 9, 18, 19], frz := [(9, false, (.sl (.sl Timpl_Seg)))] })], res := [(0, .row [] 135 Timpl_Seg true)] }⟩
def S87_1 (a : (List Timpl_Decl.V)) (b : Timpl_Term.V) (c : Int) (z_ : (Int × (List (List Timpl_Seg.V)))) : St := sT 71 [(0, dD (.sl Timpl_Decl) a), (3, .ptr 0 0 [] 0), (6, .ref 1), (18, dI c), (19, dI z_.1)] [.box (dD Timpl_Term b), .row 69 (.sh []) (.sl Timpl_Seg) z_.2]
def O87_1 (a : (List Timpl_Decl.V)) (b : Timpl_Term.V) (c : Int) : ((List (List Timpl_Seg.V)) ⊕ (List (List Timpl_Seg.V))) → Ex × St := Sum.elim (fun d => (.ret, sT 71 [(4, .zs), (5, dB false), (6, dD (.sl (.sl Timpl_Seg)) d)] [])) (fun e => ((.exit 0), sT 71 [(6, dD (.sl (.sl Timpl_Seg)) e)] []))
def S87_0 (a : (List Timpl_Decl.V)) (g : Int) (c : Int) (b : Timpl_Term.V) (i : (List (List Timpl_Seg.V))) (j : Timpl_TNode.V) (k : (List Int)) (l : Int) (z_ : (Int × (List (List Timpl_Seg.V)))) : St := sT 71 [(0, dD (.sl Timpl_Decl) a), (3, .ptr 0 0 [] 0), (6, .ref 1), (7, dI g), (8, .rop [] Timpl_TNode j), (9, .ref 2), (18, dI c), (19, dI g), (35, dD (.sl (.int .i64)) k), (36, dI l), (37, dI z_.1)] [.box (dD Timpl_Term b), .row 69 (.sh []) (.sl Timpl_Seg) i, .row 69 (.sh []) (.sl Timpl_Seg) z_.2]
def O87_0 (a : (List Timpl_Decl.V)) (g : Int) (c : Int) (b : Timpl_Term.V) (i : (List (List Timpl_Seg.V))) (j : Timpl_TNode.V) (k : (List Int)) (l : Int) : (List (List Timpl_Seg.V)) → Ex × St := fun n => ((.exit 2), sT 71 [(0, dD (.sl Timpl_Decl) a), (3, .ptr 0 0 [] 0), (6, .ref 1), (7, dI g), (8, .rop [] Timpl_TNode j), (9, dD (.sl (.sl Timpl_Seg)) n), (18, dI c), (19, dI g)] [.box (dD Timpl_Term b), .row 69 (.sh []) (.sl Timpl_Seg) i])
def impl_flatten_l0_g (a : (List Timpl_Decl.V)) (g : Int) (c : Int) (b : Timpl_Term.V) (i : (List (List Timpl_Seg.V))) (j : Timpl_TNode.V) (k : (List Int)) (l : Int) (o : Int) (q : (List (List Timpl_Seg.V))) : Option ((Int × (List (List Timpl_Seg.V))) ⊕ (List (List Timpl_Seg.V))) :=
 bif (decide (o < l)) then
 if (0 : Int) ≤ o ∧ o < (k.length : Int) then
 if (0 : Int) ≤ (k.getD o.toNat (Ty.zero (.int .i64))) ∧ (k.getD o.toNat (Ty.zero (.int .i64))) < (i.length : Int) then
 if (0 : Int) ≤ o ∧ o < (q.length : Int) then
 some (.inl ((IntKind.i64.wrap (o + 1)), (q.set o.toNat (i.getD (k.getD o.toNat (Ty.zero (.int .i64))).toNat (Ty.zero (.sl Timpl_Seg))))))
 else none
 else none
 else none
 else
 some (.inr q)
def impl_flatten_l0_r (a : (List Timpl_Decl.V)) (g : Int) (c : Int) (b : Timpl_Term.V) (i : (List (List Timpl_Seg.V))) (j : Timpl_TNode.V) (k : (List Int)) (l : Int) (z_ : (Int × (List (List Timpl_Seg.V)))) := impl_flatten_l0_g a g c b i j k l z_.1 z_.2
def impl_flatten_l0 (a : (List Timpl_Decl.V)) (g : Int) (c : Int) (b : Timpl_Term.V) (i : (List (List Timpl_Seg.V))) (j : Timpl_TNode.V) (k : (List Int)) (l : Int) (o : Int) (q : (List (List Timpl_Seg.V))) := fix (impl_flatten_l0_r a g c b i j k l) (o, q)
theorem T87_0 (a : (List Timpl_Decl.V)) (g : Int) (c : Int) (b : Timpl_Term.V) (i : (List (List Timpl_Seg.V))) (j : Timpl_TNode.V) (k : (List Int)) (l : Int) : LpOk E87 0 8 (sub (code Tryz.f73) [1, 1, 0, 1, 0, 0]) [1, 1, 0, 0, 1, 1, 1, 0, 1, 0] (S87_0 a g c b i j k l) (impl_flatten_l0_r a g c b i j k l) (O87_0 a g c b i j k l) := by
  intro _
  simp only [impl_flatten_l0_r, impl_flatten_l0_g, mC, mI, mN, mB, mE, mM]
  kernel_rfl
def impl_flatten_l1_g (a : (List Timpl_Decl.V)) (b : Timpl_Term.V) (c : Int) (g : Int) (i : (List (List Timpl_Seg.V))) : Option ((Int × (List (List Timpl_Seg.V))) ⊕ ((List (List Timpl_Seg.V)) ⊕ (List (List Timpl_Seg.V)))) :=
 bif (decide (g < c)) then
 if (0 : Int) ≤ g ∧ g < (b.1.length : Int) then
 if Ty.row (.sl Timpl_Seg) = true ∧ (0 : Int) ≤ ((b.1.getD g.toNat (Ty.zero Timpl_TNode)).2.2.2.2.2.1.length : Int) ∧ ((b.1.getD g.toNat (Ty.zero Timpl_TNode)).2.2.2.2.2.1.length : Int) ≤ ((b.1.getD g.toNat (Ty.zero Timpl_TNode)).2.2.2.2.2.1.length : Int) ∧ ((24 : Nat) : Int) * ((b.1.getD g.toNat (Ty.zero Timpl_TNode)).2.2.2.2.2.1.length : Int) ≤ (281474976710656 : Int) ∧ ((b.1.getD g.toNat (Ty.zero Timpl_TNode)).2.2.2.2.2.1.length : Int) ≤ (9223372036854775807 : Int) then
 (impl_flatten_l0 a g c b i (b.1.getD g.toNat (Ty.zero Timpl_TNode)) (b.1.getD g.toNat (Ty.zero Timpl_TNode)).2.2.2.2.2.1 ((b.1.getD g.toNat (Ty.zero Timpl_TNode)).2.2.2.2.2.1.length : Int) 0 (List.replicate ((b.1.getD g.toNat (Ty.zero Timpl_TNode)).2.2.2.2.2.1.length : Int).toNat ([] : List Timpl_Seg.V))).bind fun n =>
 (impl_TNode_flatten (b.1.getD g.toNat (Ty.zero Timpl_TNode)) a n).bind fun s =>
 if (0 : Int) ≤ g ∧ g < (i.length : Int) then
 if (0 : Int) ≤ g ∧ g < ((i.set g.toNat s).length : Int) then
 bif (decide ((((i.set g.toNat s).getD g.toNat (Ty.zero (.sl Timpl_Seg))).length : Int) > 2000)) then
 some (.inr (.inl (i.set g.toNat s)))
 else
 some (.inl ((IntKind.i64.wrap (g + 1)), (i.set g.toNat s)))
 else none
 else none
 else none
 else none
 else
 some (.inr (.inr i))
def impl_flatten_l1_r (a : (List Timpl_Decl.V)) (b : Timpl_Term.V) (c : Int) (z_ : (Int × (List (List Timpl_Seg.V)))) := impl_flatten_l1_g a b c z_.1 z_.2
def impl_flatten_l1 (a : (List Timpl_Decl.V)) (b : Timpl_Term.V) (c : Int) (g : Int) (i : (List (List Timpl_Seg.V))) := fix (impl_flatten_l1_r a b c) (g, i)
theorem T87_1 (a : (List Timpl_Decl.V)) (b : Timpl_Term.V) (c : Int) : LpOk E87 0 3 (code Tryz.f73) [1, 1, 0, 1, 0] (S87_1 a b c) (impl_flatten_l1_r a b c) (O87_1 a b c) := by
  intro _
  simp only [impl_flatten_l1_r, impl_flatten_l1_g, mC, mI, mN, mB, mE, mM]
  simp (disch := refine sI ?_ <;> (repeat' refine sA ?_ ?_) <;> intro _ <;> kernel_rfl) only [impl_flatten_l0, lp_ok (T87_0 _ _ _ _ _ _ _ _) (K := stepK 0 (E87.hd 3) (E87.ot 3))]
  kernel_rfl
def impl_flatten (a : (List Timpl_Decl.V)) (b : Timpl_Term.V) : Option (Bool × (List Timpl_Seg.V)) :=
 if Ty.row (.sl Timpl_Seg) = true ∧ (0 : Int) ≤ (b.1.length : Int) ∧ (b.1.length : Int) ≤ (b.1.length : Int) ∧ ((24 : Nat) : Int) * (b.1.length : Int) ≤ (281474976710656 : Int) ∧ (b.1.length : Int) ≤ (9223372036854775807 : Int) then
 (impl_flatten_l1 a b (b.1.length : Int) 0 (List.replicate (b.1.length : Int).toNat ([] : List Timpl_Seg.V))).bind (Sum.elim (fun d =>
 some (false, ([] : List Timpl_Seg.V))) (fun e =>
 if (0 : Int) ≤ (IntKind.i64.wrap ((e.length : Int) - 1)) ∧ (IntKind.i64.wrap ((e.length : Int) - 1)) < (e.length : Int) then
 (impl_cloneFlat (e.getD (IntKind.i64.wrap ((e.length : Int) - 1)).toNat (Ty.zero (.sl Timpl_Seg)))).bind fun t =>
 some (true, t)
 else none))
 else none
theorem U87 (R : Type) (a : (List Timpl_Decl.V)) (b : Timpl_Term.V) (K : AV → List Blk → Option R) : runF E87 Tryz.f73 R [dD (.sl Timpl_Decl) a, dD Timpl_Term b] [] K = (impl_flatten a b).bind fun r => K (.cons (.ref 0) (.cons (dB r.1) .nil)) [.row 135 .deep Timpl_Seg r.2] := by
  simp only [impl_flatten, bC, bI, bN, bE, bA, bS, bO, bM]
  simp (disch := refine sI ?_ <;> (repeat' refine sA ?_ ?_) <;> intro _ <;> kernel_rfl) only [impl_flatten_l1, lp_ok (T87_1 _ _ _) (K := finK E87 Tryz.f73 0 R K)]
  kernel_rfl
def c73 : Va.Callee := brC [.d (.sl Timpl_Decl), .d Timpl_Term] [⟨[.dat [] (.sl Timpl_Decl), .dat [] Timpl_Term], [], (Bool × (List Timpl_Seg.V)), fun p => impl_flatten p.1.1 p.1.2.1, fun r => (.cons (.ref 0) (.cons (dB r.1) .nil), [.row 135 .deep Timpl_Seg r.2])⟩]
theorem c73_snd : SoundC Tryz.prog 73 c73 := br_snd (fn := Tryz.f73) (by kernel_rfl) (by kernel_rfl) (by kernel_rfl) ⟨⟨E87, ⟨⟨tabok, fns_ok ⟨c39_snd, c118_snd, trivial⟩⟩, mixed⟩, fun p R K => U87 R p.1.1 p.1.2.1 K⟩, trivial⟩
abbrev E88 : Env := ⟨tab, lookH [(73, c73)], { deep := true, heads := [(3, { live := [0, 6, 16, 17, 18] })], outs := [(3, { live := [4, 5, 6] })], joins := [(8, { live := [0, 6, 7, 9, 11, 16, 17, 18, 42] })], ents := [(8, [0, 6, 7, 9, 10, 11, 12, 16, 17, 18])], res := [(0, .row [] 126 Timpl_Claim true)] }⟩
def S88_1 (a : (List Timpl_Decl.V)) (b : (List Timpl_Literal.V)) (c : Int) (z_ : (Int × (List Timpl_Claim.V))) : St := sT 51 [(0, dD (.sl Timpl_Decl) a), (6, .ref 0), (16, dD (.sl Timpl_Literal) b), (17, dI c), (18, dI z_.1)] [.row 126 .deep Timpl_Claim z_.2]
def O88_1 (a : (List Timpl_Decl.V)) (b : (List Timpl_Literal.V)) (c : Int) : ((List Timpl_Claim.V) ⊕ (List Timpl_Claim.V)) → Ex × St := Sum.elim (fun d => (.ret, sT 51 [(4, .zs), (5, dB false), (6, .ref 0)] [.row 126 .deep Timpl_Claim d])) (fun e => ((.exit 0), sT 51 [(6, .ref 0)] [.row 126 .deep Timpl_Claim e]))
def S88_0 (a : (List Timpl_Decl.V)) (g : Int) (i : (Bool × (List Timpl_Seg.V))) (j : (Bool × (List Timpl_Seg.V))) (b : (List Timpl_Literal.V)) (c : Int) (k : (List Timpl_Claim.V)) : St := sT 51 [(0, dD (.sl Timpl_Decl) a), (6, .ref 0), (7, dI g), (9, .ref 1), (10, dB i.1), (11, .ref 2), (12, dB j.1), (16, dD (.sl Timpl_Literal) b), (17, dI c), (18, dI g)] [.row 126 .deep Timpl_Claim k, .row 135 .deep Timpl_Seg i.2, .row 135 .deep Timpl_Seg j.2]
def O88_0 (a : (List Timpl_Decl.V)) (g : Int) (i : (Bool × (List Timpl_Seg.V))) (j : (Bool × (List Timpl_Seg.V))) (b : (List Timpl_Literal.V)) (c : Int) (k : (List Timpl_Claim.V)) (m0 : Bool) : Ex × St := (.normal, sT 51 [(0, dD (.sl Timpl_Decl) a), (6, .ref 0), (7, dI g), (9, .ref 1), (11, .ref 2), (16, dD (.sl Timpl_Literal) b), (17, dI c), (18, dI g), (42, dB m0)] [.row 126 .deep Timpl_Claim k, .row 135 .deep Timpl_Seg i.2, .row 135 .deep Timpl_Seg j.2])
theorem T88_0 (a : (List Timpl_Decl.V)) (g : Int) (i : (Bool × (List Timpl_Seg.V))) (j : (Bool × (List Timpl_Seg.V))) (b : (List Timpl_Literal.V)) (c : Int) (k : (List Timpl_Claim.V)) : jnS E88 0 8 (sub (code Tryz.f37) [1, 1, 0, 1, 0, 0]) [1, 1, 0, 0, 1, 1, 1, 0, 0] (S88_0 a g i j b c k) = some (O88_0 a g i j b c k ((!i.1) || (!j.1))) := by
  have h0 : jnS E88 0 8 (sub (code Tryz.f37) [1, 1, 0, 1, 0, 0]) [1, 1, 0, 0, 1, 1, 1, 0, 0] (S88_0 a g i j b c k) =
 bif (!i.1) then
 some (O88_0 a g i j b c k true)
 else
 some (O88_0 a g i j b c k (!j.1)) := by kernel_rfl
  rw [h0]
  cases h1 : (!i.1)
  · first | rfl | kernel_rfl
  · first | rfl | kernel_rfl
def impl_sides_l1_g (a : (List Timpl_Decl.V)) (b : (List Timpl_Literal.V)) (c : Int) (g : Int) (k : (List Timpl_Claim.V)) : Option ((Int × (List Timpl_Claim.V)) ⊕ ((List Timpl_Claim.V) ⊕ (List Timpl_Claim.V))) :=
 bif (decide (g < c)) then
 if (0 : Int) ≤ g ∧ g < (b.length : Int) then
 (impl_flatten a (b.getD g.toNat (Ty.zero Timpl_Literal)).2.2.1).bind fun i =>
 (impl_flatten a (b.getD g.toNat (Ty.zero Timpl_Literal)).2.2.2.1).bind fun j =>
 mkr (S88_0 a g i j b c k) (
 bif ((!i.1) || (!j.1)) then
 some (.inr (.inl k))
 else
 if (0 : Int) ≤ g ∧ g < (k.length : Int) then
 some (.inl ((IntKind.i64.wrap (g + 1)), (k.set g.toNat (i.2, j.2, ()))))
 else none)
 else none
 else
 some (.inr (.inr k))
def impl_sides_l1_r (a : (List Timpl_Decl.V)) (b : (List Timpl_Literal.V)) (c : Int) (z_ : (Int × (List Timpl_Claim.V))) := impl_sides_l1_g a b c z_.1 z_.2
def impl_sides_l1 (a : (List Timpl_Decl.V)) (b : (List Timpl_Literal.V)) (c : Int) (g : Int) (k : (List Timpl_Claim.V)) := fix (impl_sides_l1_r a b c) (g, k)
theorem T88_1 (a : (List Timpl_Decl.V)) (b : (List Timpl_Literal.V)) (c : Int) : LpOk E88 0 3 (code Tryz.f37) [1, 1, 0, 1, 0] (S88_1 a b c) (impl_sides_l1_r a b c) (O88_1 a b c) := by
  intro _
  simp only [impl_sides_l1_r, impl_sides_l1_g, mC, mI, mN, mB, mE, mM]
  simp (disch := refine sI ?_ <;> (repeat' refine sA ?_ ?_) <;> intro _ <;> kernel_rfl) only [in_ok (T88_0 _ _ _ _ _ _ _) (K := stepK 0 (E88.hd 3) (E88.ot 3))]
  kernel_rfl
def impl_sides (a : (List Timpl_Decl.V)) (b : (List Timpl_Literal.V)) : Option (Bool × (List Timpl_Claim.V)) :=
 if Ty.row Timpl_Claim = true ∧ (0 : Int) ≤ (b.length : Int) ∧ (b.length : Int) ≤ (b.length : Int) ∧ ((48 : Nat) : Int) * (b.length : Int) ≤ (281474976710656 : Int) ∧ (b.length : Int) ≤ (9223372036854775807 : Int) then
 (impl_sides_l1 a b (b.length : Int) 0 (List.replicate (b.length : Int).toNat (([] : List Timpl_Seg.V), ([] : List Timpl_Seg.V), ()))).bind (Sum.elim (fun d =>
 some (false, ([] : List Timpl_Claim.V))) (fun e =>
 some (true, e)))
 else none
theorem U88 (R : Type) (a : (List Timpl_Decl.V)) (b : (List Timpl_Literal.V)) (K : AV → List Blk → Option R) : runF E88 Tryz.f37 R [dD (.sl Timpl_Decl) a, dD (.sl Timpl_Literal) b] [] K = (impl_sides a b).bind fun r => K (.cons (.ref 0) (.cons (dB r.1) .nil)) [.row 126 .deep Timpl_Claim r.2] := by
  simp only [impl_sides, bC, bI, bN, bE, bA, bS, bO, bM]
  simp (disch := refine sI ?_ <;> (repeat' refine sA ?_ ?_) <;> intro _ <;> kernel_rfl) only [impl_sides_l1, lp_ok (T88_1 _ _ _) (K := finK E88 Tryz.f37 0 R K)]
  kernel_rfl
def c37 : Va.Callee := brC [.d (.sl Timpl_Decl), .d (.sl Timpl_Literal)] [⟨[.dat [] (.sl Timpl_Decl), .dat [] (.sl Timpl_Literal)], [], (Bool × (List Timpl_Claim.V)), fun p => impl_sides p.1.1 p.1.2.1, fun r => (.cons (.ref 0) (.cons (dB r.1) .nil), [.row 126 .deep Timpl_Claim r.2])⟩]
theorem c37_snd : SoundC Tryz.prog 37 c37 := br_snd (fn := Tryz.f37) (by kernel_rfl) (by kernel_rfl) (by kernel_rfl) ⟨⟨E88, ⟨⟨tabok, fns_ok ⟨c73_snd, trivial⟩⟩, mixed⟩, fun p R K => U88 R p.1.1 p.1.2.1 K⟩, trivial⟩
end
end Go.Proofs.X
