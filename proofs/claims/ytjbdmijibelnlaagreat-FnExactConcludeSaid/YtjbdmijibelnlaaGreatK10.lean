import Derived.KernelRfl
import Derived.Test.YtjbdmijibelnlaaGreatK9
set_option linter.unusedVariables false
set_option linter.unusedSimpArgs false
namespace Go.Proofs.X
open Go Go.Va
set_option maxRecDepth 100000
noncomputable section
abbrev E56 : Env := ⟨tab, lookH [(30, c30), (31, c31), (32, c32)], { deep := true, heads := [(9, { live := [0, 1, 2, 9, 12, 13], pre := [(12, false, .row [] 71 Timpl_Claim true)] })], outs := [(9, { live := [6, 7, 8, 12] })], joins := [(3, { live := [0, 1, 2, 9, 25] })], ents := [(3, [0, 1, 2, 9])], res := [(0, .row [] 71 Timpl_Claim true)] }⟩
def S56_1 (a : (List Timpl_Decl.V)) (b : (List Timpl_Literal.V)) (c : (List Timpl_PStep.V)) (z_ : (Int × (List Timpl_Claim.V))) : St := sT 64 [(0, dD (.sl Timpl_Decl) a), (1, dD (.sl Timpl_Literal) b), (2, dD (.sl Timpl_PStep) c), (9, .zs), (12, .ref 0), (13, dI z_.1)] [.row 71 .deep Timpl_Claim z_.2]
def O56_1 (a : (List Timpl_Decl.V)) (b : (List Timpl_Literal.V)) (c : (List Timpl_PStep.V)) : ((Int × Int × (List Timpl_Claim.V)) ⊕ (List Timpl_Claim.V)) → Ex × St := Sum.elim (fun d => (.ret, sT 64 [(6, .zs), (7, dI d.1), (8, dI d.2.1), (12, .ref 0)] [.row 71 .deep Timpl_Claim d.2.2])) (fun e => ((.exit 0), sT 64 [(12, .ref 0)] [.row 71 .deep Timpl_Claim e]))
def spec_Conclude_l1_g (a : (List Timpl_Decl.V)) (b : (List Timpl_Literal.V)) (c : (List Timpl_PStep.V)) (g : Int) (i : (List Timpl_Claim.V)) : Option ((Int × (List Timpl_Claim.V)) ⊕ ((Int × Int × (List Timpl_Claim.V)) ⊕ (List Timpl_Claim.V))) :=
 bif (decide (g < (c.length : Int))) then
 if (0 : Int) ≤ g ∧ g < (c.length : Int) then
 (spec_l14Step a b i (c.getD g.toNat (Ty.zero Timpl_PStep))).bind fun j =>
 bif (j.1 != 0) then
 some (.inr (.inl (j.1, g, i)))
 else
 if (i.length + ([(j.2.1, j.2.2, ())] : List Timpl_Claim.V).length) * 48 ≤ 140737488355328 then
 some (.inl ((IntKind.i64.wrap (g + 1)), (i ++ ([(j.2.1, j.2.2, ())] : List Timpl_Claim.V))))
 else none
 else none
 else
 some (.inr (.inr i))
def spec_Conclude_l1_r (a : (List Timpl_Decl.V)) (b : (List Timpl_Literal.V)) (c : (List Timpl_PStep.V)) (z_ : (Int × (List Timpl_Claim.V))) := spec_Conclude_l1_g a b c z_.1 z_.2
def spec_Conclude_l1 (a : (List Timpl_Decl.V)) (b : (List Timpl_Literal.V)) (c : (List Timpl_PStep.V)) (g : Int) (i : (List Timpl_Claim.V)) := fix (spec_Conclude_l1_r a b c) (g, i)
theorem T56_1 (a : (List Timpl_Decl.V)) (b : (List Timpl_Literal.V)) (c : (List Timpl_PStep.V)) : LpOk E56 0 9 (code Tryz.f8) [1, 1, 1, 1, 1, 0, 1, 0] (S56_1 a b c) (spec_Conclude_l1_r a b c) (O56_1 a b c) := by
  intro _
  simp only [spec_Conclude_l1_r, spec_Conclude_l1_g, mC, mI, mN, mB, mE, mM]
  kernel_rfl
def S56_0 (a : (List Timpl_Decl.V)) (b : (List Timpl_Literal.V)) (c : (List Timpl_PStep.V)) : St := sT 64 [(0, dD (.sl Timpl_Decl) a), (1, dD (.sl Timpl_Literal) b), (2, dD (.sl Timpl_PStep) c), (9, .zs)] []
def O56_0 (a : (List Timpl_Decl.V)) (b : (List Timpl_Literal.V)) (c : (List Timpl_PStep.V)) : Bool → Ex × St := fun k => (.normal, sT 64 [(0, dD (.sl Timpl_Decl) a), (1, dD (.sl Timpl_Literal) b), (2, dD (.sl Timpl_PStep) c), (9, .zs), (25, dB k)] [])
def spec_Conclude_l0 (a : (List Timpl_Decl.V)) (b : (List Timpl_Literal.V)) (c : (List Timpl_PStep.V)) : Option Bool :=
 (spec_LiteralsOk a b).bind fun l =>
 bif (!l) then
 some true
 else
 some (decide ((c.length : Int) > 200))
theorem T56_0 (a : (List Timpl_Decl.V)) (b : (List Timpl_Literal.V)) (c : (List Timpl_PStep.V)) : JnOk E56 0 3 (code Tryz.f8) [1, 1, 0, 0] (S56_0 a b c) (spec_Conclude_l0 a b c) (O56_0 a b c) := by
  unfold JnOk
  simp only [spec_Conclude_l0, mC, mI, mN, mB, mE, mM]
  kernel_rfl
def spec_Conclude (a : (List Timpl_Decl.V)) (b : (List Timpl_Literal.V)) (c : (List Timpl_PStep.V)) : Option (Int × Int × (List Timpl_Claim.V)) :=
 (spec_Conclude_l0 a b c).bind fun k =>
 bif k then
 some (1, (-1), ([] : List Timpl_Claim.V))
 else
 (spec_l6Sides a b).bind fun n =>
 bif (!n.1) then
 some (1, (-1), ([] : List Timpl_Claim.V))
 else
 (spec_Conclude_l1 a b c 0 ([] : List Timpl_Claim.V)).bind (Sum.elim (fun d =>
 some (d.1, d.2.1, ([] : List Timpl_Claim.V))) (fun e =>
 some (0, (-1), e)))
theorem U56 (R : Type) (a : (List Timpl_Decl.V)) (b : (List Timpl_Literal.V)) (c : (List Timpl_PStep.V)) (K : AV → List Blk → Option R) : runF E56 Tryz.f8 R [dD (.sl Timpl_Decl) a, dD (.sl Timpl_Literal) b, dD (.sl Timpl_PStep) c] [] K = (spec_Conclude a b c).bind fun r => K (.cons (.ref 0) (.cons (dI r.1) (.cons (dI r.2.1) .nil))) [.row 71 .deep Timpl_Claim r.2.2] := by
  simp only [spec_Conclude, bC, bI, bN, bE, bA, bS, bO, bM]
  simp (disch := refine sI ?_ <;> (repeat' refine sA ?_ ?_) <;> intro _ <;> kernel_rfl) only [jn_ok (T56_0 _ _ _) (K := finK E56 Tryz.f8 0 R K), spec_Conclude_l1, lp_ok (T56_1 _ _ _) (K := finK E56 Tryz.f8 0 R K)]
  kernel_rfl
def c8 : Va.Callee := brC [.d (.sl Timpl_Decl), .d (.sl Timpl_Literal), .d (.sl Timpl_PStep)] [⟨[.dat [] (.sl Timpl_Decl), .dat [] (.sl Timpl_Literal), .dat [] (.sl Timpl_PStep)], [], (Int × Int × (List Timpl_Claim.V)), fun p => spec_Conclude p.1.1 p.1.2.1 p.1.2.2.1, fun r => (.cons (.ref 0) (.cons (dI r.1) (.cons (dI r.2.1) .nil)), [.row 71 .deep Timpl_Claim r.2.2])⟩]
theorem c8_snd : SoundC Tryz.prog 8 c8 := br_snd (fn := Tryz.f8) (by kernel_rfl) (by kernel_rfl) (by kernel_rfl) ⟨⟨E56, ⟨⟨tabok, fns_ok ⟨c30_snd, c31_snd, c32_snd, trivial⟩⟩, mixed⟩, fun p R K => U56 R p.1.1 p.1.2.1 p.1.2.2.1 K⟩, trivial⟩
abbrev E57 : Env := ⟨tab, lookH [], { deep := true, heads := [(4, { live := [0, 3] })], outs := [(4, { live := [2] })], joins := [(2, { live := [0, 21] }), (7, { live := [0, 3, 49] })], ents := [(2, [0]), (7, [0, 3])] }⟩
def S57_2 (a : ByteArray) (z_ : Int) : St := sT 50 [(0, dD .str a), (3, dI z_)] []
def O57_2 (a : ByteArray) : (Unit ⊕ Unit) → Ex × St := Sum.elim (fun b => (.ret, sT 50 [(2, dB false)] [])) (fun c => ((.exit 0), sT 50 [] []))
def S57_1 (a : ByteArray) (d : Int) : St := sT 50 [(0, dD .str a), (3, dI d)] []
def O57_1 (a : ByteArray) (d : Int) : Bool → Ex × St := fun e => (.normal, sT 50 [(0, dD .str a), (3, dI d), (49, dB e)] [])
def impl_nameOk_l1 (a : ByteArray) (d : Int) : Option Bool :=
 if (0 : Int) ≤ d ∧ d < (a.size : Int) then
 bif (decide ((bgetI a d) < 97)) then
 if (0 : Int) ≤ d ∧ d < (a.size : Int) then
 bif (decide ((bgetI a d) < 48)) then
 some true
 else
 if (0 : Int) ≤ d ∧ d < (a.size : Int) then
 some (decide ((bgetI a d) > 57))
 else none
 else none
 else
 if (0 : Int) ≤ d ∧ d < (a.size : Int) then
 bif (decide ((bgetI a d) > 122)) then
 if (0 : Int) ≤ d ∧ d < (a.size : Int) then
 bif (decide ((bgetI a d) < 48)) then
 some true
 else
 if (0 : Int) ≤ d ∧ d < (a.size : Int) then
 some (decide ((bgetI a d) > 57))
 else none
 else none
 else
 some false
 else none
 else none
theorem T57_1 (a : ByteArray) (d : Int) : JnOk E57 0 7 (sub (code Tryz.f146) [1, 1, 0, 1, 0, 0]) [1, 0, 0, 0] (S57_1 a d) (impl_nameOk_l1 a d) (O57_1 a d) := by
  unfold JnOk
  simp only [impl_nameOk_l1, mC, mI, mN, mB, mE, mM]
  kernel_rfl
def impl_nameOk_l2_g (a : ByteArray) (d : Int) : Option (Int ⊕ (Unit ⊕ Unit)) :=
 bif (decide (d < (a.size : Int))) then
 (impl_nameOk_l1 a d).bind fun e =>
 bif e then
 some (.inr (.inl ()))
 else
 some (.inl (IntKind.i64.wrap (d + 1)))
 else
 some (.inr (.inr ()))
def impl_nameOk_l2_r (a : ByteArray) (z_ : Int) := impl_nameOk_l2_g a z_
def impl_nameOk_l2 (a : ByteArray) (d : Int) := fix (impl_nameOk_l2_r a) d
theorem T57_2 (a : ByteArray) : LpOk E57 0 4 (code Tryz.f146) [1, 1, 0, 1, 0] (S57_2 a) (impl_nameOk_l2_r a) (O57_2 a) := by
  intro _
  simp only [impl_nameOk_l2_r, impl_nameOk_l2_g, mC, mI, mN, mB, mE, mM]
  simp (disch := refine sI ?_ <;> (repeat' refine sA ?_ ?_) <;> intro _ <;> kernel_rfl) only [jn_ok (T57_1 _ _) (K := stepK 0 (E57.hd 4) (E57.ot 4))]
  kernel_rfl
def S57_0 (a : ByteArray) : St := sT 50 [(0, dD .str a)] []
def O57_0 (a : ByteArray) : Bool → Ex × St := fun g => (.normal, sT 50 [(0, dD .str a), (21, dB g)] [])
def impl_nameOk_l0 (a : ByteArray) : Option Bool :=
 bif (decide ((a.size : Int) < 1)) then
 some true
 else
 bif (decide ((a.size : Int) > 12)) then
 some true
 else
 if (0 : Int) ≤ (0 : Int) ∧ (0 : Int) < (a.size : Int) then
 bif (decide ((bgetI a 0) < 97)) then
 some true
 else
 if (0 : Int) ≤ (0 : Int) ∧ (0 : Int) < (a.size : Int) then
 some (decide ((bgetI a 0) > 122))
 else none
 else none
theorem T57_0 (a : ByteArray) : JnOk E57 0 2 (code Tryz.f146) [1, 0, 0] (S57_0 a) (impl_nameOk_l0 a) (O57_0 a) := by
  unfold JnOk
  simp only [impl_nameOk_l0, mC, mI, mN, mB, mE, mM]
  kernel_rfl
def impl_nameOk (a : ByteArray) : Option Bool :=
 (impl_nameOk_l0 a).bind fun g =>
 bif g then
 some false
 else
 (impl_nameOk_l2 a 0).bind (Sum.elim (fun b =>
 some false) (fun c =>
 some true))
theorem U57 (R : Type) (a : ByteArray) (K : AV → List Blk → Option R) : runF E57 Tryz.f146 R [dD .str a] [] K = (impl_nameOk a).bind fun r => K (dB r) [] := by
  simp only [impl_nameOk, bC, bI, bN, bE, bA, bS, bO, bM]
  simp (disch := refine sI ?_ <;> (repeat' refine sA ?_ ?_) <;> intro _ <;> kernel_rfl) only [jn_ok (T57_0 _) (K := finK E57 Tryz.f146 0 R K), impl_nameOk_l2, lp_ok (T57_2 _) (K := finK E57 Tryz.f146 0 R K)]
  kernel_rfl
def c146 : Va.Callee := brC [.d .str] [⟨[.dat [] .str], [], Bool, fun p => impl_nameOk p.1.1, fun r => (dB r, [])⟩]
theorem c146_snd : SoundC Tryz.prog 146 c146 := br_snd (fn := Tryz.f146) (by kernel_rfl) (by kernel_rfl) (by kernel_rfl) ⟨⟨E57, ⟨⟨tabok, fns_ok trivial⟩, mixed⟩, fun p R K => U57 R p.1.1 K⟩, trivial⟩
abbrev E58 : Env := ⟨tab, lookH [], { deep := true }⟩
def impl_inside (a : Int) (b : Int) (c : Int) : Bool := ((decide (a ≥ b)) && (decide (a ≤ c)))
theorem U58 (R : Type) (a : Int) (b : Int) (c : Int) (K : AV → List Blk → Option R) : runF E58 Tryz.f52 R [dI a, dI b, dI c] [] K = K (dB (impl_inside a b c)) [] := by
  have h : runF E58 Tryz.f52 R [dI a, dI b, dI c] [] K =
 bif (decide (a ≥ b)) then
 K (dB (decide (a ≤ c))) []
 else
 K (dB false) [] := by kernel_rfl
  rw [h]
  unfold impl_inside
  cases h1 : (decide (a ≥ b))
  · first | rfl | kernel_rfl
  · first | rfl | kernel_rfl
def c52 : Va.Callee := brC [.d (.int .i64), .d (.int .i64), .d (.int .i64)] [⟨[.dat [] (.int .i64), .dat [] (.int .i64), .dat [] (.int .i64)], [], Bool, fun p => some (impl_inside p.1.1 p.1.2.1 p.1.2.2.1), fun r => (dB r, [])⟩]
theorem c52_snd : SoundC Tryz.prog 52 c52 := br_snd (fn := Tryz.f52) (by kernel_rfl) (by kernel_rfl) (by kernel_rfl) ⟨⟨E58, ⟨⟨tabok, fns_ok trivial⟩, mixed⟩, fun p R K => U58 R p.1.1 p.1.2.1 p.1.2.2.1 K⟩, trivial⟩
abbrev E59 : Env := ⟨tab, lookH [], { deep := true }⟩
def impl_declared_1 (a : Timpl_Decl.V) (b : ByteArray) : Bool := (strEq a.1 b)
theorem U59 (R : Type) (a : Timpl_Decl.V) (b : ByteArray) (K : AV → List Blk → Option R) : runF E59 Tryz.f169 R [dD Timpl_Decl a, .rop [] .str b] [] K = K (dB (impl_declared_1 a b)) [] := by
  kernel_rfl
def c169 : Va.Callee := brC [.d Timpl_Decl, .p .str] [⟨[.dat [] Timpl_Decl, .rop [] .str], [], Bool, fun p => some (impl_declared_1 p.1.1 p.1.2.1), fun r => (dB r, [])⟩]
theorem c169_snd : SoundC Tryz.prog 169 c169 := br_snd (fn := Tryz.f169) (by kernel_rfl) (by kernel_rfl) (by kernel_rfl) ⟨⟨E59, ⟨⟨tabok, fns_ok trivial⟩, mixed⟩, fun p R K => U59 R p.1.1 p.1.2.1 K⟩, trivial⟩
abbrev E60 : Env := ⟨tab, lookH [(169, c169)], { deep := true, heads := [(2, { live := [0, 1, 7, 8] })], outs := [(2, { live := [4] })] }⟩
def S60_0 (a : (List Timpl_Decl.V)) (b : Int) (c : ByteArray) (d : Int) (z_ : Int) : St := sT 19 [(0, dD (.sl Timpl_Decl) a), (1, .fn 169 (.cons (.ptr 0 b [] 0) .nil)), (7, dI d), (8, dI z_)] [.box (dD .str c)]
def O60_0 (a : (List Timpl_Decl.V)) (b : Int) (c : ByteArray) (d : Int) : (Int ⊕ Unit) → Ex × St := Sum.elim (fun e => (.ret, sT 19 [(4, dI e)] [.box (dD .str c)])) (fun g => ((.exit 0), sT 19 [] [.box (dD .str c)]))
def slices_IndexFunc_Decl_l0_g (a : (List Timpl_Decl.V)) (b : Int) (c : ByteArray) (d : Int) (i : Int) : Option (Int ⊕ (Int ⊕ Unit)) :=
 bif (decide (i < d)) then
 if (0 : Int) ≤ i ∧ i < (a.length : Int) then
 bif (impl_declared_1 (a.getD i.toNat (Ty.zero Timpl_Decl)) c) then
 some (.inr (.inl i))
 else
 some (.inl (IntKind.i64.wrap (i + 1)))
 else none
 else
 some (.inr (.inr ()))
def slices_IndexFunc_Decl_l0_r (a : (List Timpl_Decl.V)) (b : Int) (c : ByteArray) (d : Int) (z_ : Int) := slices_IndexFunc_Decl_l0_g a b c d z_
def slices_IndexFunc_Decl_l0 (a : (List Timpl_Decl.V)) (b : Int) (c : ByteArray) (d : Int) (i : Int) := fix (slices_IndexFunc_Decl_l0_r a b c d) i
theorem T60_0 (a : (List Timpl_Decl.V)) (b : Int) (c : ByteArray) (d : Int) : LpOk E60 1 2 (code Tryz.f168) [1, 0, 1, 0] (S60_0 a b c d) (slices_IndexFunc_Decl_l0_r a b c d) (O60_0 a b c d) := by
  intro _
  simp only [slices_IndexFunc_Decl_l0_r, slices_IndexFunc_Decl_l0_g, mC, mI, mN, mB, mE, mM]
  kernel_rfl
def slices_IndexFunc_Decl (a : (List Timpl_Decl.V)) (b : Int) (c : ByteArray) : Option (Int × ByteArray) :=
 (slices_IndexFunc_Decl_l0 a b c (a.length : Int) 0).bind (Sum.elim (fun e =>
 some (e, c)) (fun g =>
 some ((-1), c)))
theorem U60 (R : Type) (a : (List Timpl_Decl.V)) (b : Int) (c : ByteArray) (K : AV → List Blk → Option R) : runF E60 Tryz.f168 R [dD (.sl Timpl_Decl) a, .fn 169 (.cons (.ptr 0 b [] 0) .nil)] [.box (dD .str c)] K = (slices_IndexFunc_Decl a b c).bind fun r => K (dI r.1) [.box (dD .str r.2)] := by
  simp only [slices_IndexFunc_Decl, bC, bI, bN, bE, bA, bS, bO, bM]
  simp (disch := refine sI ?_ <;> (repeat' refine sA ?_ ?_) <;> intro _ <;> kernel_rfl) only [slices_IndexFunc_Decl_l0, lp_ok (T60_0 _ _ _ _) (K := finK E60 Tryz.f168 1 R K)]
  kernel_rfl
def c168 : Va.Callee := brC [.d (.sl Timpl_Decl), .raw] [⟨[.dat [] (.sl Timpl_Decl), .fn 169 (.cons (.ptr 0 [] 0) (.k .nil))], [.box (.dat [] .str)], (Int × ByteArray), fun p => slices_IndexFunc_Decl p.1.1 p.1.2.1.1 p.2.1, fun r => (dI r.1, [.box (dD .str r.2)])⟩]
theorem c168_snd : SoundC Tryz.prog 168 c168 := br_snd (fn := Tryz.f168) (by kernel_rfl) (by kernel_rfl) (by kernel_rfl) ⟨⟨E60, ⟨⟨tabok, fns_ok ⟨c169_snd, trivial⟩⟩, mixed⟩, fun p R K => U60 R p.1.1 p.1.2.1.1 p.2.1 K⟩, trivial⟩
abbrev E61 : Env := ⟨tab, lookH [(168, c168)], { deep := true }⟩
def impl_declared (a : (List Timpl_Decl.V)) (b : ByteArray) : Option Int :=
 (slices_IndexFunc_Decl a 0 b).bind fun c =>
 some c.1
theorem U61 (R : Type) (a : (List Timpl_Decl.V)) (b : ByteArray) (K : AV → List Blk → Option R) : runF E61 Tryz.f147 R [dD (.sl Timpl_Decl) a, dD .str b] [] K = (impl_declared a b).bind fun r => K (dI r) [] := by
  simp only [impl_declared, bC, bI, bN, bE, bA, bS, bO, bM]
  kernel_rfl
def c147 : Va.Callee := brC [.d (.sl Timpl_Decl), .d .str] [⟨[.dat [] (.sl Timpl_Decl), .dat [] .str], [], Int, fun p => impl_declared p.1.1 p.1.2.1, fun r => (dI r, [])⟩]
theorem c147_snd : SoundC Tryz.prog 147 c147 := br_snd (fn := Tryz.f147) (by kernel_rfl) (by kernel_rfl) (by kernel_rfl) ⟨⟨E61, ⟨⟨tabok, fns_ok ⟨c168_snd, trivial⟩⟩, mixed⟩, fun p R K => U61 R p.1.1 p.1.2.1 K⟩, trivial⟩
abbrev E62 : Env := ⟨tab, lookH [(52, c52), (146, c146), (147, c147)], { deep := true, heads := [(5, { live := [0, 3, 9, 10, 11] })], outs := [(5, { live := [2, 3] })], joins := [(8, { live := [0, 3, 5, 9, 10, 11, 34] })], ents := [(8, [0, 3, 4, 5, 9, 10, 11])] }⟩
def S62_1 (a : (List Timpl_Decl.V)) (b : Int) (z_ : (Int × Int)) : St := sT 42 [(0, dD (.sl Timpl_Decl) a), (3, dI z_.1), (9, dD (.sl Timpl_Decl) a), (10, dI b), (11, dI z_.2)] []
def O62_1 (a : (List Timpl_Decl.V)) (b : Int) : (Int ⊕ Int) → Ex × St := Sum.elim (fun c => (.ret, sT 42 [(2, dB false), (3, dI c)] [])) (fun d => ((.exit 0), sT 42 [(3, dI d)] []))
def S62_0 (a : (List Timpl_Decl.V)) (e : Int) (g : Int) (b : Int) (i : Timpl_Decl.V) : St := sT 42 [(0, dD (.sl Timpl_Decl) a), (3, dI e), (4, dI g), (5, .ptr 0 0 [] 0), (9, dD (.sl Timpl_Decl) a), (10, dI b), (11, dI g)] [.box (dD Timpl_Decl i)]
def O62_0 (a : (List Timpl_Decl.V)) (e : Int) (g : Int) (b : Int) (i : Timpl_Decl.V) : Bool → Ex × St := fun j => (.normal, sT 42 [(0, dD (.sl Timpl_Decl) a), (3, dI e), (5, .ptr 0 0 [] 0), (9, dD (.sl Timpl_Decl) a), (10, dI b), (11, dI g), (34, dB j)] [.box (dD Timpl_Decl i)])
def impl_DeclsOk_l0 (a : (List Timpl_Decl.V)) (e : Int) (g : Int) (b : Int) (i : Timpl_Decl.V) : Option Bool :=
 (impl_nameOk i.1).bind fun k =>
 bif (!k) then
 some true
 else
 bif (!(impl_inside i.2.1 1 4096)) then
 some true
 else
 if (0 : Int) ≤ (0 : Int) ∧ (0 : Int) ≤ g ∧ g ≤ (a.length : Int) then
 (impl_declared ((a.take g.toNat).drop 0) i.1).bind fun l =>
 some (decide (l ≥ 0))
 else none
theorem T62_0 (a : (List Timpl_Decl.V)) (e : Int) (g : Int) (b : Int) (i : Timpl_Decl.V) : JnOk E62 0 8 (sub (code Tryz.f104) [1, 1, 1, 0, 1, 0, 0]) [1, 1, 0, 0, 1, 0, 0] (S62_0 a e g b i) (impl_DeclsOk_l0 a e g b i) (O62_0 a e g b i) := by
  unfold JnOk
  simp only [impl_DeclsOk_l0, mC, mI, mN, mB, mE, mM]
  kernel_rfl
def impl_DeclsOk_l1_g (a : (List Timpl_Decl.V)) (b : Int) (e : Int) (g : Int) : Option ((Int × Int) ⊕ (Int ⊕ Int)) :=
 bif (decide (g < b)) then
 if (0 : Int) ≤ g ∧ g < (a.length : Int) then
 (impl_DeclsOk_l0 a e g b (a.getD g.toNat (Ty.zero Timpl_Decl))).bind fun j =>
 bif j then
 some (.inr (.inl e))
 else
 some (.inl ((IntKind.i64.wrap (e + (a.getD g.toNat (Ty.zero Timpl_Decl)).2.1)), (IntKind.i64.wrap (g + 1))))
 else none
 else
 some (.inr (.inr e))
def impl_DeclsOk_l1_r (a : (List Timpl_Decl.V)) (b : Int) (z_ : (Int × Int)) := impl_DeclsOk_l1_g a b z_.1 z_.2
def impl_DeclsOk_l1 (a : (List Timpl_Decl.V)) (b : Int) (e : Int) (g : Int) := fix (impl_DeclsOk_l1_r a b) (e, g)
theorem T62_1 (a : (List Timpl_Decl.V)) (b : Int) : LpOk E62 0 5 (code Tryz.f104) [1, 1, 1, 0, 1, 0] (S62_1 a b) (impl_DeclsOk_l1_r a b) (O62_1 a b) := by
  intro _
  simp only [impl_DeclsOk_l1_r, impl_DeclsOk_l1_g, mC, mI, mN, mB, mE, mM]
  simp (disch := refine sI ?_ <;> (repeat' refine sA ?_ ?_) <;> intro _ <;> kernel_rfl) only [jn_ok (T62_0 _ _ _ _ _) (K := stepK 0 (E62.hd 5) (E62.ot 5))]
  kernel_rfl
def impl_DeclsOk (a : (List Timpl_Decl.V)) : Option Bool :=
 bif (decide ((a.length : Int) > 60)) then
 some false
 else
 (impl_DeclsOk_l1 a (a.length : Int) 0 0).bind (Sum.elim (fun c =>
 some false) (fun d =>
 some (decide (d ≤ 20000))))
theorem U62 (R : Type) (a : (List Timpl_Decl.V)) (K : AV → List Blk → Option R) : runF E62 Tryz.f104 R [dD (.sl Timpl_Decl) a] [] K = (impl_DeclsOk a).bind fun r => K (dB r) [] := by
  simp only [impl_DeclsOk, bC, bI, bN, bE, bA, bS, bO, bM]
  simp (disch := refine sI ?_ <;> (repeat' refine sA ?_ ?_) <;> intro _ <;> kernel_rfl) only [impl_DeclsOk_l1, lp_ok (T62_1 _ _) (K := finK E62 Tryz.f104 0 R K)]
  kernel_rfl
def c104 : Va.Callee := brC [.d (.sl Timpl_Decl)] [⟨[.dat [] (.sl Timpl_Decl)], [], Bool, fun p => impl_DeclsOk p.1.1, fun r => (dB r, [])⟩]
theorem c104_snd : SoundC Tryz.prog 104 c104 := br_snd (fn := Tryz.f104) (by kernel_rfl) (by kernel_rfl) (by kernel_rfl) ⟨⟨E62, ⟨⟨tabok, fns_ok ⟨c52_snd, c146_snd, c147_snd, trivial⟩⟩, mixed⟩, fun p R K => U62 R p.1.1 K⟩, trivial⟩
abbrev E63 : Env := ⟨tab, lookH [], { deep := true }⟩
def impl_wordsFor (a : Int) : Int := (IntKind.i64.wrap (Int.tdiv (IntKind.i64.wrap (a + 63)) 64))
theorem U63 (R : Type) (a : Int) (K : AV → List Blk → Option R) : runF E63 Tryz.f148 R [dI a] [] K = K (dI (impl_wordsFor a)) [] := by
  kernel_rfl
def c148 : Va.Callee := brC [.d (.int .i64)] [⟨[.dat [] (.int .i64)], [], Int, fun p => some (impl_wordsFor p.1.1), fun r => (dI r, [])⟩]
theorem c148_snd : SoundC Tryz.prog 148 c148 := br_snd (fn := Tryz.f148) (by kernel_rfl) (by kernel_rfl) (by kernel_rfl) ⟨⟨E63, ⟨⟨tabok, fns_ok trivial⟩, mixed⟩, fun p R K => U63 R p.1.1 K⟩, trivial⟩
end
end Go.Proofs.X
namespace Go.Proofs.X
open Go Go.Va
set_option maxRecDepth 100000
noncomputable section
abbrev E64 : Env := ⟨tab, lookH [(52, c52), (148, c148)], { deep := true, joins := [(2, { live := [1, 16] })], ents := [(2, [1])] }⟩
def S64_0 (a : Timpl_Bits.V) : St := sT 35 [(1, .ptr 0 0 [] 0)] [.box (dD Timpl_Bits a)]
def O64_0 (a : Timpl_Bits.V) (m0 : Bool) : Ex × St := (.normal, sT 35 [(1, .ptr 0 0 [] 0), (16, dB m0)] [.box (dD Timpl_Bits a)])
theorem T64_0 (a : Timpl_Bits.V) : jnS E64 0 2 (code Tryz.f182) [1, 0, 0] (S64_0 a) = some (O64_0 a ((!(impl_inside a.1 1 4096)) || ((a.2.1.length : Int) != (impl_wordsFor a.1)))) := by
  have h0 : jnS E64 0 2 (code Tryz.f182) [1, 0, 0] (S64_0 a) =
 bif (!(impl_inside a.1 1 4096)) then
 some (O64_0 a true)
 else
 some (O64_0 a ((a.2.1.length : Int) != (impl_wordsFor a.1))) := by kernel_rfl
  rw [h0]
  cases h1 : (!(impl_inside a.1 1 4096))
  · first | rfl | kernel_rfl
  · first | rfl | kernel_rfl
def impl_BitsOk (a : Timpl_Bits.V) : Option Bool :=
 mkr (S64_0 a) (
 bif ((!(impl_inside a.1 1 4096)) || ((a.2.1.length : Int) != (impl_wordsFor a.1))) then
 some false
 else
 bif ((Int.tmod a.1 64) == 0) then
 some true
 else
 if (0 : Int) ≤ (IntKind.i64.wrap ((a.2.1.length : Int) - 1)) ∧ (IntKind.i64.wrap ((a.2.1.length : Int) - 1)) < (a.2.1.length : Int) then
 if (Int.tmod a.1 64) < (0 : Int) then none else
 some ((shrI .u64 (a.2.1.getD (IntKind.i64.wrap ((a.2.1.length : Int) - 1)).toNat (Ty.zero (.int .u64))) (Int.tmod a.1 64)) == 0)
 else none)
theorem U64 (R : Type) (a : Timpl_Bits.V) (K : AV → List Blk → Option R) : runF E64 Tryz.f182 R [dD Timpl_Bits a] [] K = (impl_BitsOk a).bind fun r => K (dB r) [] := by
  simp only [impl_BitsOk, bC, bI, bN, bE, bA, bS, bO, bM]
  simp (disch := refine sI ?_ <;> (repeat' refine sA ?_ ?_) <;> intro _ <;> kernel_rfl) only [in_ok (T64_0 _) (K := finK E64 Tryz.f182 0 R K)]
  kernel_rfl
def c182 : Va.Callee := brC [.d Timpl_Bits] [⟨[.dat [] Timpl_Bits], [], Bool, fun p => impl_BitsOk p.1.1, fun r => (dB r, [])⟩]
theorem c182_snd : SoundC Tryz.prog 182 c182 := br_snd (fn := Tryz.f182) (by kernel_rfl) (by kernel_rfl) (by kernel_rfl) ⟨⟨E64, ⟨⟨tabok, fns_ok ⟨c52_snd, c148_snd, trivial⟩⟩, mixed⟩, fun p R K => U64 R p.1.1 K⟩, trivial⟩
abbrev E65 : Env := ⟨tab, lookH [(52, c52), (182, c182)], { deep := true, heads := [(11, { live := [8, 80, 81, 82] })], outs := [(11, { live := [8] })], joins := [(4, { live := [0, 1, 2, 7] }), (5, { live := [0, 1, 2, 7, 17] }), (7, { live := [0, 2, 7, 46] }), (9, { live := [0, 2, 7, 69] }), (19, { live := [0, 7, 95] }), (21, { live := [0, 7, 137] }), (23, { live := [0, 7, 163] }), (25, { live := [0, 7, 184] })], ents := [(4, [0, 1, 2, 7]), (5, [0, 1, 2, 7]), (7, [0, 2, 7]), (9, [0, 2, 7]), (19, [0, 7]), (21, [0, 7]), (23, [0, 7]), (25, [0, 7])] }⟩
def S65_8 (a : Timpl_TNode.V) (b : Int) : St := sT 203 [(0, .rop [] Timpl_TNode a), (7, dI b)] []
def O65_8 (a : Timpl_TNode.V) (b : Int) (m0 : Bool) : Ex × St := (.normal, sT 203 [(0, .rop [] Timpl_TNode a), (7, dI b), (184, dB m0)] [])
theorem T65_8 (a : Timpl_TNode.V) (b : Int) : jnS E65 0 25 (code Tryz.f177) [1, 1, 1, 0, 0, 1, 1, 1, 1, 1, 1, 1, 1, 1, 1, 1, 1, 1, 1, 0] (S65_8 a b) = some (O65_8 a b ((a.1 == 9) && (impl_inside a.2.2.1 1 4096))) := by
  have h0 : jnS E65 0 25 (code Tryz.f177) [1, 1, 1, 0, 0, 1, 1, 1, 1, 1, 1, 1, 1, 1, 1, 1, 1, 1, 1, 0] (S65_8 a b) =
 bif (a.1 == 9) then
 some (O65_8 a b (impl_inside a.2.2.1 1 4096))
 else
 some (O65_8 a b false) := by kernel_rfl
  rw [h0]
  cases h1 : (a.1 == 9)
  · first | rfl | kernel_rfl
  · first | rfl | kernel_rfl
def S65_7 (a : Timpl_TNode.V) (b : Int) : St := sT 203 [(0, .rop [] Timpl_TNode a), (7, dI b)] []
def O65_7 (a : Timpl_TNode.V) (b : Int) (m0 : Bool) : Ex × St := (.normal, sT 203 [(0, .rop [] Timpl_TNode a), (7, dI b), (163, dB m0)] [])
theorem T65_7 (a : Timpl_TNode.V) (b : Int) : jnS E65 0 23 (code Tryz.f177) [1, 1, 1, 0, 0, 1, 1, 1, 1, 1, 1, 1, 1, 1, 1, 1, 1, 0] (S65_7 a b) = some (O65_7 a b (bif (a.1 == 7) then (impl_inside a.2.2.1 0 4096) else ((a.1 == 8) && (impl_inside a.2.2.1 0 4096)))) := by
  have h0 : jnS E65 0 23 (code Tryz.f177) [1, 1, 1, 0, 0, 1, 1, 1, 1, 1, 1, 1, 1, 1, 1, 1, 1, 0] (S65_7 a b) =
 bif (a.1 == 7) then
 some (O65_7 a b (impl_inside a.2.2.1 0 4096))
 else
 bif (a.1 == 8) then
 some (O65_7 a b (impl_inside a.2.2.1 0 4096))
 else
 some (O65_7 a b false) := by kernel_rfl
  rw [h0]
  cases h1 : (a.1 == 7)
  · cases h2 : (a.1 == 8)
    · first | rfl | kernel_rfl
    · first | rfl | kernel_rfl
  · first | rfl | kernel_rfl
def S65_6 (a : Timpl_TNode.V) (b : Int) : St := sT 203 [(0, .rop [] Timpl_TNode a), (7, dI b)] []
def O65_6 (a : Timpl_TNode.V) (b : Int) (m0 : Bool) : Ex × St := (.normal, sT 203 [(0, .rop [] Timpl_TNode a), (7, dI b), (137, dB m0)] [])
theorem T65_6 (a : Timpl_TNode.V) (b : Int) : jnS E65 0 21 (code Tryz.f177) [1, 1, 1, 0, 0, 1, 1, 1, 1, 1, 1, 1, 1, 1, 1, 0] (S65_6 a b) = some (O65_6 a b (bif (a.1 == 5) then (impl_inside a.2.2.1 0 4096) else ((a.1 == 6) && (impl_inside a.2.2.1 0 4096)))) := by
  have h0 : jnS E65 0 21 (code Tryz.f177) [1, 1, 1, 0, 0, 1, 1, 1, 1, 1, 1, 1, 1, 1, 1, 0] (S65_6 a b) =
 bif (a.1 == 5) then
 some (O65_6 a b (impl_inside a.2.2.1 0 4096))
 else
 bif (a.1 == 6) then
 some (O65_6 a b (impl_inside a.2.2.1 0 4096))
 else
 some (O65_6 a b false) := by kernel_rfl
  rw [h0]
  cases h1 : (a.1 == 5)
  · cases h2 : (a.1 == 6)
    · first | rfl | kernel_rfl
    · first | rfl | kernel_rfl
  · first | rfl | kernel_rfl
def S65_5 (a : Timpl_TNode.V) (b : Int) : St := sT 203 [(0, .rop [] Timpl_TNode a), (7, dI b)] []
def O65_5 (a : Timpl_TNode.V) (b : Int) (m0 : Bool) : Ex × St := (.normal, sT 203 [(0, .rop [] Timpl_TNode a), (7, dI b), (95, dB m0)] [])
theorem T65_5 (a : Timpl_TNode.V) (b : Int) : jnS E65 0 19 (code Tryz.f177) [1, 1, 1, 0, 0, 1, 1, 1, 1, 1, 1, 1, 1, 0] (S65_5 a b) = some (O65_5 a b ((a.1 == 4) && ((decide (a.2.2.2.1 ≥ 0)) && ((decide (a.2.2.2.1 ≤ a.2.2.1)) && (decide (a.2.2.1 < b)))))) := by
  have h0 : jnS E65 0 19 (code Tryz.f177) [1, 1, 1, 0, 0, 1, 1, 1, 1, 1, 1, 1, 1, 0] (S65_5 a b) =
 bif (a.1 == 4) then
 bif (decide (a.2.2.2.1 ≥ 0)) then
 bif (decide (a.2.2.2.1 ≤ a.2.2.1)) then
 some (O65_5 a b (decide (a.2.2.1 < b)))
 else
 some (O65_5 a b false)
 else
 some (O65_5 a b false)
 else
 some (O65_5 a b false) := by kernel_rfl
  rw [h0]
  cases h1 : (a.1 == 4)
  · first | rfl | kernel_rfl
  · cases h2 : (decide (a.2.2.2.1 ≥ 0))
    · first | rfl | kernel_rfl
    · cases h3 : (decide (a.2.2.2.1 ≤ a.2.2.1))
      · first | rfl | kernel_rfl
      · first | rfl | kernel_rfl
def S65_4 (c : (List Int)) (d : Int) (z_ : (Int × Int)) : St := sT 203 [(8, dI z_.1), (80, dD (.sl (.int .i64)) c), (81, dI d), (82, dI z_.2)] []
def O65_4 (c : (List Int)) (d : Int) : Int → Ex × St := fun e => ((.exit 1), sT 203 [(8, dI e)] [])
def impl_TNode_width_l4_g (c : (List Int)) (d : Int) (g : Int) (i : Int) : Option ((Int × Int) ⊕ Int) :=
 bif (decide (i < d)) then
 if (0 : Int) ≤ i ∧ i < (c.length : Int) then
 some (.inl ((IntKind.i64.wrap (g + (c.getD i.toNat (Ty.zero (.int .i64))))), (IntKind.i64.wrap (i + 1))))
 else none
 else
 some (.inr g)
def impl_TNode_width_l4_r (c : (List Int)) (d : Int) (z_ : (Int × Int)) := impl_TNode_width_l4_g c d z_.1 z_.2
def impl_TNode_width_l4 (c : (List Int)) (d : Int) (g : Int) (i : Int) := fix (impl_TNode_width_l4_r c d) (g, i)
theorem T65_4 (c : (List Int)) (d : Int) : LpOk E65 0 11 (code Tryz.f177) [1, 1, 1, 0, 0, 1, 1, 1, 1, 1, 0, 1, 0, 1, 0] (S65_4 c d) (impl_TNode_width_l4_r c d) (O65_4 c d) := by
  intro _
  simp only [impl_TNode_width_l4_r, impl_TNode_width_l4_g, mC, mI, mN, mB, mE, mM]
  kernel_rfl
def S65_3 (a : Timpl_TNode.V) (c : (List Int)) (b : Int) : St := sT 203 [(0, .rop [] Timpl_TNode a), (2, dD (.sl (.int .i64)) c), (7, dI b)] []
def O65_3 (a : Timpl_TNode.V) (c : (List Int)) (b : Int) (m0 : Bool) : Ex × St := (.normal, sT 203 [(0, .rop [] Timpl_TNode a), (2, dD (.sl (.int .i64)) c), (7, dI b), (69, dB m0)] [])
theorem T65_3 (a : Timpl_TNode.V) (c : (List Int)) (b : Int) : jnS E65 0 9 (code Tryz.f177) [1, 1, 1, 0, 0, 1, 1, 1, 1, 0] (S65_3 a c b) = some (O65_3 a c b ((a.1 == 3) && (decide ((c.length : Int) > 1)))) := by
  have h0 : jnS E65 0 9 (code Tryz.f177) [1, 1, 1, 0, 0, 1, 1, 1, 1, 0] (S65_3 a c b) =
 bif (a.1 == 3) then
 some (O65_3 a c b (decide ((c.length : Int) > 1)))
 else
 some (O65_3 a c b false) := by kernel_rfl
  rw [h0]
  cases h1 : (a.1 == 3)
  · first | rfl | kernel_rfl
  · first | rfl | kernel_rfl
def S65_2 (a : Timpl_TNode.V) (c : (List Int)) (b : Int) : St := sT 203 [(0, .rop [] Timpl_TNode a), (2, dD (.sl (.int .i64)) c), (7, dI b)] []
def O65_2 (a : Timpl_TNode.V) (c : (List Int)) (b : Int) : Bool → Ex × St := fun j => (.normal, sT 203 [(0, .rop [] Timpl_TNode a), (2, dD (.sl (.int .i64)) c), (7, dI b), (46, dB j)] [])
def impl_TNode_width_l2 (a : Timpl_TNode.V) (c : (List Int)) (b : Int) : Option Bool :=
 bif (a.1 == 2) then
 bif ((c.length : Int) == 0) then
 (impl_BitsOk a.2.2.2.2.1).bind fun k =>
 some k
 else
 some false
 else
 some false
theorem T65_2 (a : Timpl_TNode.V) (c : (List Int)) (b : Int) : JnOk E65 0 7 (code Tryz.f177) [1, 1, 1, 0, 0, 1, 1, 0] (S65_2 a c b) (impl_TNode_width_l2 a c b) (O65_2 a c b) := by
  unfold JnOk
  simp only [impl_TNode_width_l2, mC, mI, mN, mB, mE, mM]
  kernel_rfl
def S65_1 (a : Timpl_TNode.V) (l : (List Timpl_Decl.V)) (c : (List Int)) (b : Int) : St := sT 203 [(0, .rop [] Timpl_TNode a), (1, dD (.sl Timpl_Decl) l), (2, dD (.sl (.int .i64)) c), (7, dI b)] []
def O65_1 (a : Timpl_TNode.V) (l : (List Timpl_Decl.V)) (c : (List Int)) (b : Int) (m0 : Bool) : Ex × St := (.normal, sT 203 [(0, .rop [] Timpl_TNode a), (1, dD (.sl Timpl_Decl) l), (2, dD (.sl (.int .i64)) c), (7, dI b), (17, dB m0)] [])
theorem T65_1 (a : Timpl_TNode.V) (l : (List Timpl_Decl.V)) (c : (List Int)) (b : Int) : jnS E65 0 5 (code Tryz.f177) [1, 1, 1, 0, 0, 0] (S65_1 a l c b) = some (O65_1 a l c b ((a.1 == 1) && (((c.length : Int) == 0) && (impl_inside a.2.1 0 (IntKind.i64.wrap ((l.length : Int) - 1)))))) := by
  have h0 : jnS E65 0 5 (code Tryz.f177) [1, 1, 1, 0, 0, 0] (S65_1 a l c b) =
 bif (a.1 == 1) then
 bif ((c.length : Int) == 0) then
 some (O65_1 a l c b (impl_inside a.2.1 0 (IntKind.i64.wrap ((l.length : Int) - 1))))
 else
 some (O65_1 a l c b false)
 else
 some (O65_1 a l c b false) := by kernel_rfl
  rw [h0]
  cases h1 : (a.1 == 1)
  · first | rfl | kernel_rfl
  · cases h2 : ((c.length : Int) == 0)
    · first | rfl | kernel_rfl
    · first | rfl | kernel_rfl
def S65_0 (a : Timpl_TNode.V) (l : (List Timpl_Decl.V)) (c : (List Int)) : St := sT 203 [(0, .rop [] Timpl_TNode a), (1, dD (.sl Timpl_Decl) l), (2, dD (.sl (.int .i64)) c), (7, dI 0)] []
def O65_0 (a : Timpl_TNode.V) (l : (List Timpl_Decl.V)) (c : (List Int)) : Int → Ex × St := fun b => (.normal, sT 203 [(0, .rop [] Timpl_TNode a), (1, dD (.sl Timpl_Decl) l), (2, dD (.sl (.int .i64)) c), (7, dI b)] [])
def impl_TNode_width_l0 (a : Timpl_TNode.V) (l : (List Timpl_Decl.V)) (c : (List Int)) : Option Int :=
 bif (decide ((c.length : Int) > 0)) then
 if (0 : Int) ≤ (0 : Int) ∧ (0 : Int) < (c.length : Int) then
 some (c.getD 0 (Ty.zero (.int .i64)))
 else none
 else
 some 0
theorem T65_0 (a : Timpl_TNode.V) (l : (List Timpl_Decl.V)) (c : (List Int)) : JnOk E65 0 4 (code Tryz.f177) [1, 1, 0] (S65_0 a l c) (impl_TNode_width_l0 a l c) (O65_0 a l c) := by
  unfold JnOk
  simp only [impl_TNode_width_l0, mC, mI, mN, mB, mE, mM]
  kernel_rfl
def impl_TNode_width (a : Timpl_TNode.V) (l : (List Timpl_Decl.V)) (c : (List Int)) : Option Int :=
 (impl_TNode_width_l0 a l c).bind fun b =>
 mkr (S65_1 a l c b) (
 bif ((a.1 == 1) && (((c.length : Int) == 0) && (impl_inside a.2.1 0 (IntKind.i64.wrap ((l.length : Int) - 1))))) then
 if (0 : Int) ≤ a.2.1 ∧ a.2.1 < (l.length : Int) then
 some (l.getD a.2.1.toNat (Ty.zero Timpl_Decl)).2.1
 else none
 else
 (impl_TNode_width_l2 a c b).bind fun j =>
 bif j then
 some a.2.2.2.2.1.1
 else
 mkr (S65_3 a c b) (
 bif ((a.1 == 3) && (decide ((c.length : Int) > 1))) then
 (impl_TNode_width_l4 c (c.length : Int) 0 0).bind fun e =>
 some e
 else
 bif ((c.length : Int) != 1) then
 some (-1)
 else
 mkr (S65_5 a b) (
 bif ((a.1 == 4) && ((decide (a.2.2.2.1 ≥ 0)) && ((decide (a.2.2.2.1 ≤ a.2.2.1)) && (decide (a.2.2.1 < b))))) then
 some (IntKind.i64.wrap ((IntKind.i64.wrap (a.2.2.1 - a.2.2.2.1)) + 1))
 else
 mkr (S65_6 a b) (
 bif (bif (a.1 == 5) then (impl_inside a.2.2.1 0 4096) else ((a.1 == 6) && (impl_inside a.2.2.1 0 4096))) then
 some (IntKind.i64.wrap (b + a.2.2.1))
 else
 mkr (S65_7 a b) (
 bif (bif (a.1 == 7) then (impl_inside a.2.2.1 0 4096) else ((a.1 == 8) && (impl_inside a.2.2.1 0 4096))) then
 some b
 else
 mkr (S65_8 a b) (
 bif ((a.1 == 9) && (impl_inside a.2.2.1 1 4096)) then
 some (IntKind.i64.wrap (b * a.2.2.1))
 else
 some (-1)))))))
theorem U65 (R : Type) (a : Timpl_TNode.V) (l : (List Timpl_Decl.V)) (c : (List Int)) (K : AV → List Blk → Option R) : runF E65 Tryz.f177 R [.rop [] Timpl_TNode a, dD (.sl Timpl_Decl) l, dD (.sl (.int .i64)) c] [] K = (impl_TNode_width a l c).bind fun r => K (dI r) [] := by
  simp only [impl_TNode_width, bC, bI, bN, bE, bA, bS, bO, bM]
  simp (disch := refine sI ?_ <;> (repeat' refine sA ?_ ?_) <;> intro _ <;> kernel_rfl) only [jn_ok (T65_0 _ _ _) (K := finK E65 Tryz.f177 0 R K), in_ok (T65_1 _ _ _ _) (K := finK E65 Tryz.f177 0 R K), jn_ok (T65_2 _ _ _) (K := finK E65 Tryz.f177 0 R K), in_ok (T65_3 _ _ _) (K := finK E65 Tryz.f177 0 R K), impl_TNode_width_l4, lp_ok (T65_4 _ _) (K := finK E65 Tryz.f177 0 R K), in_ok (T65_5 _ _) (K := finK E65 Tryz.f177 0 R K), in_ok (T65_6 _ _) (K := finK E65 Tryz.f177 0 R K), in_ok (T65_7 _ _) (K := finK E65 Tryz.f177 0 R K), in_ok (T65_8 _ _) (K := finK E65 Tryz.f177 0 R K)]
  kernel_rfl
def c177 : Va.Callee := brC [.p Timpl_TNode, .d (.sl Timpl_Decl), .d (.sl (.int .i64))] [⟨[.rop [] Timpl_TNode, .dat [] (.sl Timpl_Decl), .dat [] (.sl (.int .i64))], [], Int, fun p => impl_TNode_width p.1.1 p.1.2.1 p.1.2.2.1, fun r => (dI r, [])⟩]
theorem c177_snd : SoundC Tryz.prog 177 c177 := br_snd (fn := Tryz.f177) (by kernel_rfl) (by kernel_rfl) (by kernel_rfl) ⟨⟨E65, ⟨⟨tabok, fns_ok ⟨c52_snd, c182_snd, trivial⟩⟩, mixed⟩, fun p R K => U65 R p.1.1 p.1.2.1 p.1.2.2.1 K⟩, trivial⟩
abbrev E66 : Env := ⟨tab, lookH [], { deep := true, joins := [(2, { live := [0, 3] }), (3, { live := [0, 52] })], ents := [(2, [0]), (3, [0, 3])] }⟩
def S66_1 (a : Timpl_TNode.V) : St := sT 75 [(0, .rop [] Timpl_TNode a), (3, dB ((decide (a.1 ≥ 4)) && (decide (a.1 ≤ 9))))] []
def O66_1 (a : Timpl_TNode.V) (m0 : Bool) : Ex × St := (.normal, sT 75 [(0, .rop [] Timpl_TNode a), (52, dB m0)] [])
theorem T66_1 (a : Timpl_TNode.V) : jnS E66 0 3 (code Tryz.f178) [1, 1, 0, 0] (S66_1 a) = some (O66_1 a (bif (!((decide (a.1 ≥ 4)) && (decide (a.1 ≤ 9)))) then ((a.2.2.1 != 0) || (bif (a.1 != 4) then ((a.2.2.2.1 != 0) || ((a.1 != 1) && (a.2.1 != 0))) else ((a.1 != 1) && (a.2.1 != 0)))) else (bif (a.1 != 4) then ((a.2.2.2.1 != 0) || ((a.1 != 1) && (a.2.1 != 0))) else ((a.1 != 1) && (a.2.1 != 0))))) := by
  have h0 : jnS E66 0 3 (code Tryz.f178) [1, 1, 0, 0] (S66_1 a) =
 bif (!((decide (a.1 ≥ 4)) && (decide (a.1 ≤ 9)))) then
 bif (a.2.2.1 != 0) then
 some (O66_1 a true)
 else
 bif (a.1 != 4) then
 bif (a.2.2.2.1 != 0) then
 some (O66_1 a true)
 else
 bif (a.1 != 1) then
 some (O66_1 a (a.2.1 != 0))
 else
 some (O66_1 a false)
 else
 bif (a.1 != 1) then
 some (O66_1 a (a.2.1 != 0))
 else
 some (O66_1 a false)
 else
 bif (a.1 != 4) then
 bif (a.2.2.2.1 != 0) then
 some (O66_1 a true)
 else
 bif (a.1 != 1) then
 some (O66_1 a (a.2.1 != 0))
 else
 some (O66_1 a false)
 else
 bif (a.1 != 1) then
 some (O66_1 a (a.2.1 != 0))
 else
 some (O66_1 a false) := by kernel_rfl
  rw [h0]
  cases h1 : (!((decide (a.1 ≥ 4)) && (decide (a.1 ≤ 9))))
  · cases h2 : (a.1 != 4)
    · cases h3 : (a.1 != 1)
      · first | rfl | kernel_rfl
      · first | rfl | kernel_rfl
    · cases h3 : (a.2.2.2.1 != 0)
      · cases h4 : (a.1 != 1)
        · first | rfl | kernel_rfl
        · first | rfl | kernel_rfl
      · first | rfl | kernel_rfl
  · cases h2 : (a.2.2.1 != 0)
    · cases h3 : (a.1 != 4)
      · cases h4 : (a.1 != 1)
        · first | rfl | kernel_rfl
        · first | rfl | kernel_rfl
      · cases h4 : (a.2.2.2.1 != 0)
        · cases h5 : (a.1 != 1)
          · first | rfl | kernel_rfl
          · first | rfl | kernel_rfl
        · first | rfl | kernel_rfl
    · first | rfl | kernel_rfl
def S66_0 (a : Timpl_TNode.V) : St := sT 75 [(0, .rop [] Timpl_TNode a)] []
def O66_0 (a : Timpl_TNode.V) (m0 : Bool) : Ex × St := (.normal, sT 75 [(0, .rop [] Timpl_TNode a), (3, dB m0)] [])
theorem T66_0 (a : Timpl_TNode.V) : jnS E66 0 2 (code Tryz.f178) [1, 0] (S66_0 a) = some (O66_0 a ((decide (a.1 ≥ 4)) && (decide (a.1 ≤ 9)))) := by
  have h0 : jnS E66 0 2 (code Tryz.f178) [1, 0] (S66_0 a) =
 bif (decide (a.1 ≥ 4)) then
 some (O66_0 a (decide (a.1 ≤ 9)))
 else
 some (O66_0 a false) := by kernel_rfl
  rw [h0]
  cases h1 : (decide (a.1 ≥ 4))
  · first | rfl | kernel_rfl
  · first | rfl | kernel_rfl
def impl_TNode_plain (a : Timpl_TNode.V) : Bool := ((!(bif (!((decide (a.1 ≥ 4)) && (decide (a.1 ≤ 9)))) then ((a.2.2.1 != 0) || (bif (a.1 != 4) then ((a.2.2.2.1 != 0) || ((a.1 != 1) && (a.2.1 != 0))) else ((a.1 != 1) && (a.2.1 != 0)))) else (bif (a.1 != 4) then ((a.2.2.2.1 != 0) || ((a.1 != 1) && (a.2.1 != 0))) else ((a.1 != 1) && (a.2.1 != 0))))) && ((a.1 == 2) || ((a.2.2.2.2.1.1 == 0) && ((a.2.2.2.2.1.2.1.length : Int) == 0))))
theorem U66 (R : Type) (a : Timpl_TNode.V) (K : AV → List Blk → Option R) : runF E66 Tryz.f178 R [.rop [] Timpl_TNode a] [] K = K (dB (impl_TNode_plain a)) [] := by
  have h : runF E66 Tryz.f178 R [.rop [] Timpl_TNode a] [] K =
 mkr (S66_0 a) (
 mkr (S66_1 a) (
 bif (bif (!((decide (a.1 ≥ 4)) && (decide (a.1 ≤ 9)))) then ((a.2.2.1 != 0) || (bif (a.1 != 4) then ((a.2.2.2.1 != 0) || ((a.1 != 1) && (a.2.1 != 0))) else ((a.1 != 1) && (a.2.1 != 0)))) else (bif (a.1 != 4) then ((a.2.2.2.1 != 0) || ((a.1 != 1) && (a.2.1 != 0))) else ((a.1 != 1) && (a.2.1 != 0)))) then
 K (dB false) []
 else
 bif (a.1 == 2) then
 K (dB true) []
 else
 bif (a.2.2.2.2.1.1 == 0) then
 K (dB ((a.2.2.2.2.1.2.1.length : Int) == 0)) []
 else
 K (dB false) [])) := by
    simp (disch := refine sI ?_ <;> (repeat' refine sA ?_ ?_) <;> intro _ <;> kernel_rfl) only [in_ok (T66_0 _) (K := finK E66 Tryz.f178 0 R K), in_ok (T66_1 _) (K := finK E66 Tryz.f178 0 R K)]
    kernel_rfl
  rw [h]
  unfold impl_TNode_plain
  cases h1 : (bif (!((decide (a.1 ≥ 4)) && (decide (a.1 ≤ 9)))) then ((a.2.2.1 != 0) || (bif (a.1 != 4) then ((a.2.2.2.1 != 0) || ((a.1 != 1) && (a.2.1 != 0))) else ((a.1 != 1) && (a.2.1 != 0)))) else (bif (a.1 != 4) then ((a.2.2.2.1 != 0) || ((a.1 != 1) && (a.2.1 != 0))) else ((a.1 != 1) && (a.2.1 != 0))))
  · cases h2 : (a.1 == 2)
    · cases h3 : (a.2.2.2.2.1.1 == 0)
      · first | rfl | kernel_rfl
      · first | rfl | kernel_rfl
    · first | rfl | kernel_rfl
  · first | rfl | kernel_rfl
def c178 : Va.Callee := brC [.p Timpl_TNode] [⟨[.rop [] Timpl_TNode], [], Bool, fun p => some (impl_TNode_plain p.1.1), fun r => (dB r, [])⟩]
theorem c178_snd : SoundC Tryz.prog 178 c178 := br_snd (fn := Tryz.f178) (by kernel_rfl) (by kernel_rfl) (by kernel_rfl) ⟨⟨E66, ⟨⟨tabok, fns_ok trivial⟩, mixed⟩, fun p R K => U66 R p.1.1 K⟩, trivial⟩
abbrev E67 : Env := ⟨tab, lookH [], { deep := true, heads := [(2, { live := [0, 1, 7, 8] })], outs := [(2, { live := [4] })] }⟩
def S67_0 (a : (List Bool)) (b : Bool) (c : Int) (z_ : Int) : St := sT 19 [(0, dD (.sl .bool) a), (1, dB b), (7, dI c), (8, dI z_)] []
def O67_0 (a : (List Bool)) (b : Bool) (c : Int) : (Int ⊕ Unit) → Ex × St := Sum.elim (fun d => (.ret, sT 19 [(4, dI d)] [])) (fun e => ((.exit 0), sT 19 [] []))
def slices_Index_bool_l0_g (a : (List Bool)) (b : Bool) (c : Int) (g : Int) : Option (Int ⊕ (Int ⊕ Unit)) :=
 bif (decide (g < c)) then
 if (0 : Int) ≤ g ∧ g < (a.length : Int) then
 bif (b == (a.getD g.toNat (Ty.zero .bool))) then
 some (.inr (.inl g))
 else
 some (.inl (IntKind.i64.wrap (g + 1)))
 else none
 else
 some (.inr (.inr ()))
def slices_Index_bool_l0_r (a : (List Bool)) (b : Bool) (c : Int) (z_ : Int) := slices_Index_bool_l0_g a b c z_
def slices_Index_bool_l0 (a : (List Bool)) (b : Bool) (c : Int) (g : Int) := fix (slices_Index_bool_l0_r a b c) g
theorem T67_0 (a : (List Bool)) (b : Bool) (c : Int) : LpOk E67 0 2 (code Tryz.f189) [1, 0, 1, 0] (S67_0 a b c) (slices_Index_bool_l0_r a b c) (O67_0 a b c) := by
  intro _
  simp only [slices_Index_bool_l0_r, slices_Index_bool_l0_g, mC, mI, mN, mB, mE, mM]
  kernel_rfl
def slices_Index_bool (a : (List Bool)) (b : Bool) : Option Int :=
 (slices_Index_bool_l0 a b (a.length : Int) 0).bind (Sum.elim (fun d =>
 some d) (fun e =>
 some (-1)))
theorem U67 (R : Type) (a : (List Bool)) (b : Bool) (K : AV → List Blk → Option R) : runF E67 Tryz.f189 R [dD (.sl .bool) a, dB b] [] K = (slices_Index_bool a b).bind fun r => K (dI r) [] := by
  simp only [slices_Index_bool, bC, bI, bN, bE, bA, bS, bO, bM]
  simp (disch := refine sI ?_ <;> (repeat' refine sA ?_ ?_) <;> intro _ <;> kernel_rfl) only [slices_Index_bool_l0, lp_ok (T67_0 _ _ _) (K := finK E67 Tryz.f189 0 R K)]
  kernel_rfl
def c189 : Va.Callee := brC [.d (.sl .bool), .d .bool] [⟨[.dat [] (.sl .bool), .dat [] .bool], [], Int, fun p => slices_Index_bool p.1.1 p.1.2.1, fun r => (dI r, [])⟩]
theorem c189_snd : SoundC Tryz.prog 189 c189 := br_snd (fn := Tryz.f189) (by kernel_rfl) (by kernel_rfl) (by kernel_rfl) ⟨⟨E67, ⟨⟨tabok, fns_ok trivial⟩, mixed⟩, fun p R K => U67 R p.1.1 p.1.2.1 K⟩, trivial⟩
abbrev E68 : Env := ⟨tab, lookH [(189, c189)], { deep := true }⟩
def slices_Contains_bool (a : (List Bool)) (b : Bool) : Option Bool :=
 (slices_Index_bool a b).bind fun c =>
 some (decide (c ≥ 0))
theorem U68 (R : Type) (a : (List Bool)) (b : Bool) (K : AV → List Blk → Option R) : runF E68 Tryz.f179 R [dD (.sl .bool) a, dB b] [] K = (slices_Contains_bool a b).bind fun r => K (dB r) [] := by
  simp only [slices_Contains_bool, bC, bI, bN, bE, bA, bS, bO, bM]
  kernel_rfl
def c179 : Va.Callee := brC [.d (.sl .bool), .d .bool] [⟨[.dat [] (.sl .bool), .dat [] .bool], [], Bool, fun p => slices_Contains_bool p.1.1 p.1.2.1, fun r => (dB r, [])⟩]
theorem c179_snd : SoundC Tryz.prog 179 c179 := br_snd (fn := Tryz.f179) (by kernel_rfl) (by kernel_rfl) (by kernel_rfl) ⟨⟨E68, ⟨⟨tabok, fns_ok ⟨c189_snd, trivial⟩⟩, mixed⟩, fun p R K => U68 R p.1.1 p.1.2.1 K⟩, trivial⟩
abbrev E69 : Env := ⟨tab, lookH [(52, c52), (177, c177), (178, c178), (179, c179)], { deep := true, heads := [(6, { live := [0, 3, 6, 7, 8, 29, 30] }), (13, { live := [0, 3, 6, 7, 8, 9, 10, 11, 29, 30, 52, 53, 54] })], outs := [(6, { live := [4, 5, 6, 7, 8], frz := [(8, false, (.sl .bool))] }), (13, { live := [0, 3, 4, 5, 6, 7, 8, 9, 10, 11, 29, 30], frz := [(11, false, (.sl (.int .i64)))] })], joins := [(3, { live := [0, 3, 6, 22] }), (21, { live := [0, 3, 6, 7, 8, 29, 30, 92] })], draws := [(4, { live := [0, 3, 6, 7, 8] })], ents := [(3, [0, 3, 6]), (21, [0, 3, 6, 7, 8, 9, 10, 29, 30])], dents := [(4, [0, 3, 6])], res := [(0, .row [] 2 (.int .i64) true)] }⟩
def S69_4 (a : (List Timpl_Decl.V)) (b : Timpl_Term.V) (c : Int) (d : Int) (z_ : (Int × (List Int) × (List Bool))) : St := sT 101 [(0, dD (.sl Timpl_Decl) a), (3, .ptr 0 0 [] 0), (6, dI c), (7, .ref 1), (8, .ref 2), (29, dI d), (30, dI z_.1)] [.box (dD Timpl_Term b), .row 2 .deep (.int .i64) z_.2.1, .row 4 .deep .bool z_.2.2]
def O69_4 (a : (List Timpl_Decl.V)) (b : Timpl_Term.V) (c : Int) (d : Int) : (((List Bool) × (List Int)) ⊕ ((List Bool) × (List Int))) → Ex × St := Sum.elim (fun e => (.ret, sT 101 [(4, .zs), (5, dB false), (6, dI c), (7, .ref 0), (8, dD (.sl .bool) e.1)] [.row 2 .deep (.int .i64) e.2])) (fun g => ((.exit 0), sT 101 [(6, dI c), (7, .ref 0), (8, dD (.sl .bool) g.1)] [.row 2 .deep (.int .i64) g.2]))
def S69_3 (a : (List Timpl_Decl.V)) (c : Int) (i : Int) (d : Int) (b : Timpl_Term.V) (j : Timpl_TNode.V) (k : (List Int)) (l : (List Bool)) : St := sT 101 [(0, dD (.sl Timpl_Decl) a), (3, .ptr 0 0 [] 0), (6, dI c), (7, .ref 1), (8, .ref 2), (9, dI i), (10, .rop [] Timpl_TNode j), (29, dI d), (30, dI i)] [.box (dD Timpl_Term b), .row 2 .deep (.int .i64) k, .row 4 .deep .bool l]
def O69_3 (a : (List Timpl_Decl.V)) (c : Int) (i : Int) (d : Int) (b : Timpl_Term.V) (j : Timpl_TNode.V) (k : (List Int)) (l : (List Bool)) : Bool → Ex × St := fun n => (.normal, sT 101 [(0, dD (.sl Timpl_Decl) a), (3, .ptr 0 0 [] 0), (6, dI c), (7, .ref 1), (8, .ref 2), (29, dI d), (30, dI i), (92, dB n)] [.box (dD Timpl_Term b), .row 2 .deep (.int .i64) k, .row 4 .deep .bool l])
def impl_widths_l3 (a : (List Timpl_Decl.V)) (c : Int) (i : Int) (d : Int) (b : Timpl_Term.V) (j : Timpl_TNode.V) (k : (List Int)) (l : (List Bool)) : Option Bool :=
 bif (!(impl_TNode_plain j)) then
 some true
 else
 if (0 : Int) ≤ i ∧ i < (k.length : Int) then
 some (!(impl_inside (k.getD i.toNat (Ty.zero (.int .i64))) 1 4096))
 else none
theorem T69_3 (a : (List Timpl_Decl.V)) (c : Int) (i : Int) (d : Int) (b : Timpl_Term.V) (j : Timpl_TNode.V) (k : (List Int)) (l : (List Bool)) : JnOk E69 0 21 (sub (code Tryz.f158) [1, 1, 1, 1, 0, 1, 0, 0]) [1, 1, 0, 0, 1, 1, 1, 1, 1, 1, 0] (S69_3 a c i d b j k l) (impl_widths_l3 a c i d b j k l) (O69_3 a c i d b j k l) := by
  unfold JnOk
  simp only [impl_widths_l3, mC, mI, mN, mB, mE, mM]
  kernel_rfl
def S69_2 (a : (List Timpl_Decl.V)) (c : Int) (i : Int) (d : Int) (b : Timpl_Term.V) (o : (List Int)) (q : Timpl_TNode.V) (s : (List Int)) (t : Int) (z_ : (Int × (List Bool) × (List Int))) : St := sT 101 [(0, dD (.sl Timpl_Decl) a), (3, .ptr 0 0 [] 0), (6, dI c), (7, .ref 1), (8, .ref 2), (9, dI i), (10, .rop [] Timpl_TNode q), (11, .ref 3), (29, dI d), (30, dI i), (52, dD (.sl (.int .i64)) s), (53, dI t), (54, dI z_.1)] [.box (dD Timpl_Term b), .row 2 .deep (.int .i64) o, .row 4 .deep .bool z_.2.1, .row 2 .deep (.int .i64) z_.2.2]
def O69_2 (a : (List Timpl_Decl.V)) (c : Int) (i : Int) (d : Int) (b : Timpl_Term.V) (o : (List Int)) (q : Timpl_TNode.V) (s : (List Int)) (t : Int) : (((List Int) × (List Bool)) ⊕ ((List Int) × (List Bool))) → Ex × St := Sum.elim (fun u => (.ret, sT 101 [(0, dD (.sl Timpl_Decl) a), (3, .ptr 0 0 [] 0), (4, .zs), (5, dB false), (6, dI c), (7, .ref 1), (8, .ref 2), (9, dI i), (10, .rop [] Timpl_TNode q), (11, dD (.sl (.int .i64)) u.1), (29, dI d), (30, dI i)] [.box (dD Timpl_Term b), .row 2 .deep (.int .i64) o, .row 4 .deep .bool u.2])) (fun v => ((.exit 2), sT 101 [(0, dD (.sl Timpl_Decl) a), (3, .ptr 0 0 [] 0), (6, dI c), (7, .ref 1), (8, .ref 2), (9, dI i), (10, .rop [] Timpl_TNode q), (11, dD (.sl (.int .i64)) v.1), (29, dI d), (30, dI i)] [.box (dD Timpl_Term b), .row 2 .deep (.int .i64) o, .row 4 .deep .bool v.2]))
def impl_widths_l2_g (a : (List Timpl_Decl.V)) (c : Int) (i : Int) (d : Int) (b : Timpl_Term.V) (o : (List Int)) (q : Timpl_TNode.V) (s : (List Int)) (t : Int) (w : Int) (x : (List Bool)) (y : (List Int)) : Option ((Int × (List Bool) × (List Int)) ⊕ (((List Int) × (List Bool)) ⊕ ((List Int) × (List Bool)))) :=
 bif (decide (w < t)) then
 if (0 : Int) ≤ w ∧ w < (s.length : Int) then
 bif (!(impl_inside (s.getD w.toNat (Ty.zero (.int .i64))) 0 (IntKind.i64.wrap (i - 1)))) then
 some (.inr (.inl (y, x)))
 else
 if (0 : Int) ≤ (s.getD w.toNat (Ty.zero (.int .i64))) ∧ (s.getD w.toNat (Ty.zero (.int .i64))) < (o.length : Int) then
 if (0 : Int) ≤ (s.getD w.toNat (Ty.zero (.int .i64))) ∧ (s.getD w.toNat (Ty.zero (.int .i64))) < (x.length : Int) then
 if (0 : Int) ≤ w ∧ w < (y.length : Int) then
 some (.inl ((IntKind.i64.wrap (w + 1)), (x.set (s.getD w.toNat (Ty.zero (.int .i64))).toNat true), (y.set w.toNat (o.getD (s.getD w.toNat (Ty.zero (.int .i64))).toNat (Ty.zero (.int .i64))))))
 else none
 else none
 else none
 else none
 else
 some (.inr (.inr (y, x)))
def impl_widths_l2_r (a : (List Timpl_Decl.V)) (c : Int) (i : Int) (d : Int) (b : Timpl_Term.V) (o : (List Int)) (q : Timpl_TNode.V) (s : (List Int)) (t : Int) (z_ : (Int × (List Bool) × (List Int))) := impl_widths_l2_g a c i d b o q s t z_.1 z_.2.1 z_.2.2
def impl_widths_l2 (a : (List Timpl_Decl.V)) (c : Int) (i : Int) (d : Int) (b : Timpl_Term.V) (o : (List Int)) (q : Timpl_TNode.V) (s : (List Int)) (t : Int) (w : Int) (x : (List Bool)) (y : (List Int)) := fix (impl_widths_l2_r a c i d b o q s t) (w, x, y)
theorem T69_2 (a : (List Timpl_Decl.V)) (c : Int) (i : Int) (d : Int) (b : Timpl_Term.V) (o : (List Int)) (q : Timpl_TNode.V) (s : (List Int)) (t : Int) : LpOk E69 0 13 (sub (code Tryz.f158) [1, 1, 1, 1, 0, 1, 0, 0]) [1, 1, 0, 0, 1, 1, 1, 1, 0, 1, 0] (S69_2 a c i d b o q s t) (impl_widths_l2_r a c i d b o q s t) (O69_2 a c i d b o q s t) := by
  intro _
  simp only [impl_widths_l2_r, impl_widths_l2_g, mC, mI, mN, mB, mE, mM]
  kernel_rfl
def impl_widths_l4_g (a : (List Timpl_Decl.V)) (b : Timpl_Term.V) (c : Int) (d : Int) (i : Int) (o : (List Int)) (a1 : (List Bool)) : Option ((Int × (List Int) × (List Bool)) ⊕ (((List Bool) × (List Int)) ⊕ ((List Bool) × (List Int)))) :=
 bif (decide (i < d)) then
 if (0 : Int) ≤ i ∧ i < (b.1.length : Int) then
 bif (decide (((b.1.getD i.toNat (Ty.zero Timpl_TNode)).2.2.2.2.2.1.length : Int) > 4096)) then
 some (.inr (.inl (a1, o)))
 else
 if Ty.row (.int .i64) = true ∧ (0 : Int) ≤ ((b.1.getD i.toNat (Ty.zero Timpl_TNode)).2.2.2.2.2.1.length : Int) ∧ ((b.1.getD i.toNat (Ty.zero Timpl_TNode)).2.2.2.2.2.1.length : Int) ≤ ((b.1.getD i.toNat (Ty.zero Timpl_TNode)).2.2.2.2.2.1.length : Int) ∧ ((8 : Nat) : Int) * ((b.1.getD i.toNat (Ty.zero Timpl_TNode)).2.2.2.2.2.1.length : Int) ≤ (281474976710656 : Int) ∧ ((b.1.getD i.toNat (Ty.zero Timpl_TNode)).2.2.2.2.2.1.length : Int) ≤ (9223372036854775807 : Int) then
 (impl_widths_l2 a c i d b o (b.1.getD i.toNat (Ty.zero Timpl_TNode)) (b.1.getD i.toNat (Ty.zero Timpl_TNode)).2.2.2.2.2.1 ((b.1.getD i.toNat (Ty.zero Timpl_TNode)).2.2.2.2.2.1.length : Int) 0 a1 (List.replicate ((b.1.getD i.toNat (Ty.zero Timpl_TNode)).2.2.2.2.2.1.length : Int).toNat 0)).bind (Sum.elim (fun u =>
 some (.inr (.inl (u.2, o)))) (fun v =>
 (impl_TNode_width (b.1.getD i.toNat (Ty.zero Timpl_TNode)) a v.1).bind fun b1 =>
 if (0 : Int) ≤ i ∧ i < (o.length : Int) then
 (impl_widths_l3 a c i d b (b.1.getD i.toNat (Ty.zero Timpl_TNode)) (o.set i.toNat b1) v.2).bind fun n =>
 bif n then
 some (.inr (.inl (v.2, (o.set i.toNat b1))))
 else
 some (.inl ((IntKind.i64.wrap (i + 1)), (o.set i.toNat b1), v.2))
 else none))
 else none
 else none
 else
 some (.inr (.inr (a1, o)))
def impl_widths_l4_r (a : (List Timpl_Decl.V)) (b : Timpl_Term.V) (c : Int) (d : Int) (z_ : (Int × (List Int) × (List Bool))) := impl_widths_l4_g a b c d z_.1 z_.2.1 z_.2.2
def impl_widths_l4 (a : (List Timpl_Decl.V)) (b : Timpl_Term.V) (c : Int) (d : Int) (i : Int) (o : (List Int)) (a1 : (List Bool)) := fix (impl_widths_l4_r a b c d) (i, o, a1)
theorem T69_4 (a : (List Timpl_Decl.V)) (b : Timpl_Term.V) (c : Int) (d : Int) : LpOk E69 0 6 (code Tryz.f158) [1, 1, 1, 1, 0, 1, 0] (S69_4 a b c d) (impl_widths_l4_r a b c d) (O69_4 a b c d) := by
  intro _
  simp only [impl_widths_l4_r, impl_widths_l4_g, mC, mI, mN, mB, mE, mM]
  simp (disch := refine sI ?_ <;> (repeat' refine sA ?_ ?_) <;> intro _ <;> kernel_rfl) only [impl_widths_l2, lp_ok (T69_2 _ _ _ _ _ _ _ _ _) (K := stepK 0 (E69.hd 6) (E69.ot 6)), jn_ok (T69_3 _ _ _ _ _ _ _ _) (K := stepK 0 (E69.hd 6) (E69.ot 6))]
  kernel_rfl
def S69_1 (a : (List Timpl_Decl.V)) (b : Timpl_Term.V) (c1 : Int) : St := sT 101 [(0, dD (.sl Timpl_Decl) a), (3, .ptr 0 0 [] 0), (6, dI c1)] [.box (dD Timpl_Term b)]
def O69_1 (a : (List Timpl_Decl.V)) (b : Timpl_Term.V) (c1 : Int) : ((List Int) × (List Bool)) → St := fun d1 => sT 101 [(0, dD (.sl Timpl_Decl) a), (3, .ptr 0 0 [] 0), (6, dI c1), (7, .ref 1), (8, .ref 2)] [.box (dD Timpl_Term b), .row 2 .deep (.int .i64) d1.1, .row 4 .deep .bool d1.2]
def impl_widths_l1 (a : (List Timpl_Decl.V)) (b : Timpl_Term.V) (c1 : Int) : Option ((List Int) × (List Bool)) :=
 if Ty.row (.int .i64) = true ∧ (0 : Int) ≤ c1 ∧ c1 ≤ c1 ∧ ((8 : Nat) : Int) * c1 ≤ (281474976710656 : Int) ∧ c1 ≤ (9223372036854775807 : Int) then
 if Ty.row .bool = true ∧ (0 : Int) ≤ c1 ∧ c1 ≤ c1 ∧ ((1 : Nat) : Int) * c1 ≤ (281474976710656 : Int) ∧ c1 ≤ (9223372036854775807 : Int) then
 some ((List.replicate c1.toNat 0), (List.replicate c1.toNat false))
 else none
 else none
theorem T69_1 (a : (List Timpl_Decl.V)) (b : Timpl_Term.V) (c1 : Int) : DrOk E69 0 4 (code Tryz.f158) [1, 1, 1, 0] (S69_1 a b c1) (impl_widths_l1 a b c1) (O69_1 a b c1) := by
  unfold DrOk
  have h : drS E69 0 4 (code Tryz.f158) [1, 1, 1, 0] (S69_1 a b c1) =
 if Ty.row (.int .i64) = true ∧ (0 : Int) ≤ c1 ∧ c1 ≤ c1 ∧ ((8 : Nat) : Int) * c1 ≤ (281474976710656 : Int) ∧ c1 ≤ (9223372036854775807 : Int) then
 if Ty.row .bool = true ∧ (0 : Int) ≤ c1 ∧ c1 ≤ c1 ∧ ((1 : Nat) : Int) * c1 ≤ (281474976710656 : Int) ∧ c1 ≤ (9223372036854775807 : Int) then
 (((if Ty.row (.int .i64) = true ∧ (0 : Int) ≤ c1 ∧ c1 ≤ c1 ∧ ((8 : Nat) : Int) * c1 ≤ (281474976710656 : Int) ∧ c1 ≤ (9223372036854775807 : Int) then
 if Ty.row .bool = true ∧ (0 : Int) ≤ c1 ∧ c1 ≤ c1 ∧ ((1 : Nat) : Int) * c1 ≤ (281474976710656 : Int) ∧ c1 ≤ (9223372036854775807 : Int) then
 eqSt (O69_1 a b c1 ((List.replicate c1.toNat 0), (List.replicate c1.toNat false))) (O69_1 a b c1 ((List.replicate c1.toNat 0), (List.replicate c1.toNat false)))
 else none
 else none).bind fun _ =>
 if Ty.row .bool = true ∧ (0 : Int) ≤ c1 ∧ c1 ≤ c1 ∧ ((1 : Nat) : Int) * c1 ≤ (281474976710656 : Int) ∧ c1 ≤ (9223372036854775807 : Int) then
 if Ty.row (.int .i64) = true ∧ (0 : Int) ≤ c1 ∧ c1 ≤ c1 ∧ ((8 : Nat) : Int) * c1 ≤ (281474976710656 : Int) ∧ c1 ≤ (9223372036854775807 : Int) then
 eqSt (O69_1 a b c1 ((List.replicate c1.toNat 0), (List.replicate c1.toNat false))) (O69_1 a b c1 ((List.replicate c1.toNat 0), (List.replicate c1.toNat false)))
 else none
 else none).bind fun _ => some (O69_1 a b c1 ((List.replicate c1.toNat 0), (List.replicate c1.toNat false))))
 else none
 else none := by kernel_rfl
  rw [h]
  unfold impl_widths_l1
  simp only [mC, mI, mN, mB, mE, mM, mS, mO]
  clear h
  by_cases hc0 : Ty.row (.int .i64) = true ∧ (0 : Int) ≤ c1 ∧ c1 ≤ c1 ∧ ((8 : Nat) : Int) * c1 ≤ (281474976710656 : Int) ∧ c1 ≤ (9223372036854775807 : Int)
  · rw [if_pos hc0, if_pos hc0]
    by_cases hc1 : Ty.row .bool = true ∧ (0 : Int) ≤ c1 ∧ c1 ≤ c1 ∧ ((1 : Nat) : Int) * c1 ≤ (281474976710656 : Int) ∧ c1 ≤ (9223372036854775807 : Int)
    · rw [if_pos hc1, if_pos hc1]
      simp only [if_pos hc0, if_pos hc1, Option.bind_some, eqSt_self]
    · simp only [if_pos hc0, if_neg hc1]
  · simp only [if_neg hc0]
def S69_0 (a : (List Timpl_Decl.V)) (b : Timpl_Term.V) : St := sT 101 [(0, dD (.sl Timpl_Decl) a), (3, .ptr 0 0 [] 0), (6, dI (b.1.length : Int))] [.box (dD Timpl_Term b)]
def O69_0 (a : (List Timpl_Decl.V)) (b : Timpl_Term.V) (m0 : Bool) : Ex × St := (.normal, sT 101 [(0, dD (.sl Timpl_Decl) a), (3, .ptr 0 0 [] 0), (6, dI (b.1.length : Int)), (22, dB m0)] [.box (dD Timpl_Term b)])
theorem T69_0 (a : (List Timpl_Decl.V)) (b : Timpl_Term.V) : jnS E69 0 3 (code Tryz.f158) [1, 1, 0, 0] (S69_0 a b) = some (O69_0 a b ((decide ((b.1.length : Int) < 1)) || (decide ((b.1.length : Int) > 400)))) := by
  have h0 : jnS E69 0 3 (code Tryz.f158) [1, 1, 0, 0] (S69_0 a b) =
 bif (decide ((b.1.length : Int) < 1)) then
 some (O69_0 a b true)
 else
 some (O69_0 a b (decide ((b.1.length : Int) > 400))) := by kernel_rfl
  rw [h0]
  cases h1 : (decide ((b.1.length : Int) < 1))
  · first | rfl | kernel_rfl
  · first | rfl | kernel_rfl
def impl_widths (a : (List Timpl_Decl.V)) (b : Timpl_Term.V) : Option (Bool × (List Int)) :=
 mkr (S69_0 a b) (
 bif ((decide ((b.1.length : Int) < 1)) || (decide ((b.1.length : Int) > 400))) then
 some (false, ([] : List Int))
 else
 (impl_widths_l1 a b (b.1.length : Int)).bind fun d1 =>
 (impl_widths_l4 a b (b.1.length : Int) (b.1.length : Int) 0 d1.1 d1.2).bind (Sum.elim (fun e =>
 some (false, ([] : List Int))) (fun g =>
 if (0 : Int) ≤ (0 : Int) ∧ (0 : Int) ≤ (IntKind.i64.wrap ((b.1.length : Int) - 1)) ∧ (IntKind.i64.wrap ((b.1.length : Int) - 1)) ≤ (g.1.length : Int) then
 (slices_Contains_bool ((g.1.take (IntKind.i64.wrap ((b.1.length : Int) - 1)).toNat).drop 0) false).bind fun e1 =>
 some ((!e1), g.2)
 else none)))
theorem U69 (R : Type) (a : (List Timpl_Decl.V)) (b : Timpl_Term.V) (K : AV → List Blk → Option R) : runF E69 Tryz.f158 R [dD (.sl Timpl_Decl) a, dD Timpl_Term b] [] K = (impl_widths a b).bind fun r => K (.cons (.ref 0) (.cons (dB r.1) .nil)) [.row 2 .deep (.int .i64) r.2] := by
  simp only [impl_widths, bC, bI, bN, bE, bA, bS, bO, bM]
  simp (disch := refine sI ?_ <;> (repeat' refine sA ?_ ?_) <;> intro _ <;> kernel_rfl) only [in_ok (T69_0 _ _) (K := finK E69 Tryz.f158 0 R K), dr_ok (T69_1 _ _ _) (K := finK E69 Tryz.f158 0 R K), impl_widths_l4, lp_ok (T69_4 _ _ _ _) (K := finK E69 Tryz.f158 0 R K)]
  kernel_rfl
def c158 : Va.Callee := brC [.d (.sl Timpl_Decl), .d Timpl_Term] [⟨[.dat [] (.sl Timpl_Decl), .dat [] Timpl_Term], [], (Bool × (List Int)), fun p => impl_widths p.1.1 p.1.2.1, fun r => (.cons (.ref 0) (.cons (dB r.1) .nil), [.row 2 .deep (.int .i64) r.2])⟩]
theorem c158_snd : SoundC Tryz.prog 158 c158 := br_snd (fn := Tryz.f158) (by kernel_rfl) (by kernel_rfl) (by kernel_rfl) ⟨⟨E69, ⟨⟨tabok, fns_ok ⟨c52_snd, c177_snd, c178_snd, c179_snd, trivial⟩⟩, mixed⟩, fun p R K => U69 R p.1.1 p.1.2.1 K⟩, trivial⟩
abbrev E70 : Env := ⟨tab, lookH [(158, c158)], { deep := true }⟩
def impl_widthOf (a : (List Timpl_Decl.V)) (b : Timpl_Term.V) : Option Int :=
 (impl_widths a b).bind fun c =>
 bif (!c.1) then
 some (-1)
 else
 if (0 : Int) ≤ (IntKind.i64.wrap ((c.2.length : Int) - 1)) ∧ (IntKind.i64.wrap ((c.2.length : Int) - 1)) < (c.2.length : Int) then
 some (c.2.getD (IntKind.i64.wrap ((c.2.length : Int) - 1)).toNat (Ty.zero (.int .i64)))
 else none
theorem U70 (R : Type) (a : (List Timpl_Decl.V)) (b : Timpl_Term.V) (K : AV → List Blk → Option R) : runF E70 Tryz.f122 R [dD (.sl Timpl_Decl) a, dD Timpl_Term b] [] K = (impl_widthOf a b).bind fun r => K (dI r) [] := by
  simp only [impl_widthOf, bC, bI, bN, bE, bA, bS, bO, bM]
  kernel_rfl
def c122 : Va.Callee := brC [.d (.sl Timpl_Decl), .d Timpl_Term] [⟨[.dat [] (.sl Timpl_Decl), .dat [] Timpl_Term], [], Int, fun p => impl_widthOf p.1.1 p.1.2.1, fun r => (dI r, [])⟩]
theorem c122_snd : SoundC Tryz.prog 122 c122 := br_snd (fn := Tryz.f122) (by kernel_rfl) (by kernel_rfl) (by kernel_rfl) ⟨⟨E70, ⟨⟨tabok, fns_ok ⟨c158_snd, trivial⟩⟩, mixed⟩, fun p R K => U70 R p.1.1 p.1.2.1 K⟩, trivial⟩
abbrev E71 : Env := ⟨tab, lookH [(52, c52), (122, c122)], { deep := true, heads := [(5, { live := [0, 5, 12, 13, 14] })], outs := [(5, { live := [4] })], joins := [(9, { live := [0, 7, 12, 13, 14, 39] })], ents := [(9, [0, 5, 7, 8, 12, 13, 14])] }⟩
def S71_1 (a : (List Timpl_Decl.V)) (b : (List Timpl_Literal.V)) (c : Int) (z_ : (Int × Int)) : St := sT 43 [(0, dD (.sl Timpl_Decl) a), (5, dI z_.1), (12, dD (.sl Timpl_Literal) b), (13, dI c), (14, dI z_.2)] []
def O71_1 (a : (List Timpl_Decl.V)) (b : (List Timpl_Literal.V)) (c : Int) : (Unit ⊕ Unit) → Ex × St := Sum.elim (fun d => (.ret, sT 43 [(4, dB false)] [])) (fun e => ((.exit 0), sT 43 [] []))
def S71_0 (a : (List Timpl_Decl.V)) (g : Int) (i : Int) (b : (List Timpl_Literal.V)) (c : Int) (j : Int) (k : Timpl_Literal.V) : St := sT 43 [(0, dD (.sl Timpl_Decl) a), (5, dI g), (7, .ptr 0 0 [] 0), (8, dI i), (12, dD (.sl Timpl_Literal) b), (13, dI c), (14, dI j)] [.box (dD Timpl_Literal k)]
def O71_0 (a : (List Timpl_Decl.V)) (g : Int) (i : Int) (b : (List Timpl_Literal.V)) (c : Int) (j : Int) (k : Timpl_Literal.V) : Bool → Ex × St := fun l => (.normal, sT 43 [(0, dD (.sl Timpl_Decl) a), (7, .ptr 0 0 [] 0), (12, dD (.sl Timpl_Literal) b), (13, dI c), (14, dI j), (39, dB l)] [.box (dD Timpl_Literal k)])
def impl_literalsOk_l0 (a : (List Timpl_Decl.V)) (g : Int) (i : Int) (b : (List Timpl_Literal.V)) (c : Int) (j : Int) (k : Timpl_Literal.V) : Option Bool :=
 bif (!(impl_inside k.1 (IntKind.i64.wrap (g + 1)) 1000000)) then
 some true
 else
 bif (decide (i < 0)) then
 some true
 else
 (impl_widthOf a k.2.2.2.1).bind fun n =>
 some (i != n)
theorem T71_0 (a : (List Timpl_Decl.V)) (g : Int) (i : Int) (b : (List Timpl_Literal.V)) (c : Int) (j : Int) (k : Timpl_Literal.V) : JnOk E71 0 9 (sub (code Tryz.f117) [1, 1, 1, 0, 1, 0, 0]) [1, 1, 0, 0, 1, 1, 0, 0] (S71_0 a g i b c j k) (impl_literalsOk_l0 a g i b c j k) (O71_0 a g i b c j k) := by
  unfold JnOk
  simp only [impl_literalsOk_l0, mC, mI, mN, mB, mE, mM]
  kernel_rfl
def impl_literalsOk_l1_g (a : (List Timpl_Decl.V)) (b : (List Timpl_Literal.V)) (c : Int) (g : Int) (j : Int) : Option ((Int × Int) ⊕ (Unit ⊕ Unit)) :=
 bif (decide (j < c)) then
 if (0 : Int) ≤ j ∧ j < (b.length : Int) then
 (impl_widthOf a (b.getD j.toNat (Ty.zero Timpl_Literal)).2.2.1).bind fun i =>
 (impl_literalsOk_l0 a g i b c j (b.getD j.toNat (Ty.zero Timpl_Literal))).bind fun l =>
 bif l then
 some (.inr (.inl ()))
 else
 some (.inl ((b.getD j.toNat (Ty.zero Timpl_Literal)).1, (IntKind.i64.wrap (j + 1))))
 else none
 else
 some (.inr (.inr ()))
def impl_literalsOk_l1_r (a : (List Timpl_Decl.V)) (b : (List Timpl_Literal.V)) (c : Int) (z_ : (Int × Int)) := impl_literalsOk_l1_g a b c z_.1 z_.2
def impl_literalsOk_l1 (a : (List Timpl_Decl.V)) (b : (List Timpl_Literal.V)) (c : Int) (g : Int) (j : Int) := fix (impl_literalsOk_l1_r a b c) (g, j)
theorem T71_1 (a : (List Timpl_Decl.V)) (b : (List Timpl_Literal.V)) (c : Int) : LpOk E71 0 5 (code Tryz.f117) [1, 1, 1, 0, 1, 0] (S71_1 a b c) (impl_literalsOk_l1_r a b c) (O71_1 a b c) := by
  intro _
  simp only [impl_literalsOk_l1_r, impl_literalsOk_l1_g, mC, mI, mN, mB, mE, mM]
  simp (disch := refine sI ?_ <;> (repeat' refine sA ?_ ?_) <;> intro _ <;> kernel_rfl) only [jn_ok (T71_0 _ _ _ _ _ _ _) (K := stepK 0 (E71.hd 5) (E71.ot 5))]
  kernel_rfl
def impl_literalsOk (a : (List Timpl_Decl.V)) (b : (List Timpl_Literal.V)) : Option Bool :=
 bif (decide ((b.length : Int) > 60)) then
 some false
 else
 (impl_literalsOk_l1 a b (b.length : Int) 0 0).bind (Sum.elim (fun d =>
 some false) (fun e =>
 some true))
theorem U71 (R : Type) (a : (List Timpl_Decl.V)) (b : (List Timpl_Literal.V)) (K : AV → List Blk → Option R) : runF E71 Tryz.f117 R [dD (.sl Timpl_Decl) a, dD (.sl Timpl_Literal) b] [] K = (impl_literalsOk a b).bind fun r => K (dB r) [] := by
  simp only [impl_literalsOk, bC, bI, bN, bE, bA, bS, bO, bM]
  simp (disch := refine sI ?_ <;> (repeat' refine sA ?_ ?_) <;> intro _ <;> kernel_rfl) only [impl_literalsOk_l1, lp_ok (T71_1 _ _ _) (K := finK E71 Tryz.f117 0 R K)]
  kernel_rfl
def c117 : Va.Callee := brC [.d (.sl Timpl_Decl), .d (.sl Timpl_Literal)] [⟨[.dat [] (.sl Timpl_Decl), .dat [] (.sl Timpl_Literal)], [], Bool, fun p => impl_literalsOk p.1.1 p.1.2.1, fun r => (dB r, [])⟩]
theorem c117_snd : SoundC Tryz.prog 117 c117 := br_snd (fn := Tryz.f117) (by kernel_rfl) (by kernel_rfl) (by kernel_rfl) ⟨⟨E71, ⟨⟨tabok, fns_ok ⟨c52_snd, c122_snd, trivial⟩⟩, mixed⟩, fun p R K => U71 R p.1.1 p.1.2.1 K⟩, trivial⟩
end
end Go.Proofs.X
