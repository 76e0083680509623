import Derived.KernelRfl
import Derived.Test.YtjbdmijibelnlaaGreatK12
set_option linter.unusedVariables false
set_option linter.unusedSimpArgs false
namespace Go.Proofs.X
open Go Go.Va
set_option maxRecDepth 100000
noncomputable section
abbrev E121 : Env := ⟨tab, lookH [(83, c83)], { deep := true }⟩
def laws_eqLiteral (a : Timpl_Literal.V) (b : Timpl_Literal.V) : Option Bool :=
 bif (a.1 != b.1) then
 some false
 else
 bif (!(a.2.1 == b.2.1)) then
 some false
 else
 (laws_eqTerm a.2.2.1 b.2.2.1).bind fun c =>
 bif (!c) then
 some false
 else
 (laws_eqTerm a.2.2.2.1 b.2.2.2.1).bind fun d =>
 bif (!d) then
 some false
 else
 some true
theorem U121 (R : Type) (a : Timpl_Literal.V) (b : Timpl_Literal.V) (K : AV → List Blk → Option R) : runF E121 Tryz.f42 R [dD Timpl_Literal a, dD Timpl_Literal b] [] K = (laws_eqLiteral a b).bind fun r => K (dB r) [] := by
  simp only [laws_eqLiteral, bC, bI, bN, bE, bA, bS, bO, bM]
  kernel_rfl
def c42 : Va.Callee := brC [.d Timpl_Literal, .d Timpl_Literal] [⟨[.dat [] Timpl_Literal, .dat [] Timpl_Literal], [], Bool, fun p => laws_eqLiteral p.1.1 p.1.2.1, fun r => (dB r, [])⟩]
theorem c42_snd : SoundC Tryz.prog 42 c42 := br_snd (fn := Tryz.f42) (by kernel_rfl) (by kernel_rfl) (by kernel_rfl) ⟨⟨E121, ⟨⟨tabok, fns_ok ⟨c83_snd, trivial⟩⟩, mixed⟩, fun p R K => U121 R p.1.1 p.1.2.1 K⟩, trivial⟩
abbrev E122 : Env := ⟨tab, lookH [(42, c42)], { deep := true, heads := [(4, { live := [0, 1, 5] })], outs := [(4, { live := [4] })] }⟩
def S122_0 (a : (List Timpl_Literal.V)) (b : (List Timpl_Literal.V)) (z_ : Int) : St := sT 27 [(0, dD (.sl Timpl_Literal) a), (1, dD (.sl Timpl_Literal) b), (5, dI z_)] []
def O122_0 (a : (List Timpl_Literal.V)) (b : (List Timpl_Literal.V)) : (Unit ⊕ Unit) → Ex × St := Sum.elim (fun c => (.ret, sT 27 [(4, dB false)] [])) (fun d => ((.exit 0), sT 27 [] []))
def laws_eqLiteralS_l0_g (a : (List Timpl_Literal.V)) (b : (List Timpl_Literal.V)) (e : Int) : Option (Int ⊕ (Unit ⊕ Unit)) :=
 bif (decide (e < (a.length : Int))) then
 if (0 : Int) ≤ e ∧ e < (a.length : Int) then
 if (0 : Int) ≤ e ∧ e < (b.length : Int) then
 (laws_eqLiteral (a.getD e.toNat (Ty.zero Timpl_Literal)) (b.getD e.toNat (Ty.zero Timpl_Literal))).bind fun g =>
 bif (!g) then
 some (.inr (.inl ()))
 else
 some (.inl (IntKind.i64.wrap (e + 1)))
 else none
 else none
 else
 some (.inr (.inr ()))
def laws_eqLiteralS_l0_r (a : (List Timpl_Literal.V)) (b : (List Timpl_Literal.V)) (z_ : Int) := laws_eqLiteralS_l0_g a b z_
def laws_eqLiteralS_l0 (a : (List Timpl_Literal.V)) (b : (List Timpl_Literal.V)) (e : Int) := fix (laws_eqLiteralS_l0_r a b) e
theorem T122_0 (a : (List Timpl_Literal.V)) (b : (List Timpl_Literal.V)) : LpOk E122 0 4 (code Tryz.f15) [1, 1, 0, 1, 0] (S122_0 a b) (laws_eqLiteralS_l0_r a b) (O122_0 a b) := by
  intro _
  simp only [laws_eqLiteralS_l0_r, laws_eqLiteralS_l0_g, mC, mI, mN, mB, mE, mM]
  kernel_rfl
def laws_eqLiteralS (a : (List Timpl_Literal.V)) (b : (List Timpl_Literal.V)) : Option Bool :=
 bif ((a.length : Int) != (b.length : Int)) then
 some false
 else
 (laws_eqLiteralS_l0 a b 0).bind (Sum.elim (fun c =>
 some false) (fun d =>
 some true))
theorem U122 (R : Type) (a : (List Timpl_Literal.V)) (b : (List Timpl_Literal.V)) (K : AV → List Blk → Option R) : runF E122 Tryz.f15 R [dD (.sl Timpl_Literal) a, dD (.sl Timpl_Literal) b] [] K = (laws_eqLiteralS a b).bind fun r => K (dB r) [] := by
  simp only [laws_eqLiteralS, bC, bI, bN, bE, bA, bS, bO, bM]
  simp (disch := refine sI ?_ <;> (repeat' refine sA ?_ ?_) <;> intro _ <;> kernel_rfl) only [laws_eqLiteralS_l0, lp_ok (T122_0 _ _) (K := finK E122 Tryz.f15 0 R K)]
  kernel_rfl
def c15 : Va.Callee := brC [.d (.sl Timpl_Literal), .d (.sl Timpl_Literal)] [⟨[.dat [] (.sl Timpl_Literal), .dat [] (.sl Timpl_Literal)], [], Bool, fun p => laws_eqLiteralS p.1.1 p.1.2.1, fun r => (dB r, [])⟩]
theorem c15_snd : SoundC Tryz.prog 15 c15 := br_snd (fn := Tryz.f15) (by kernel_rfl) (by kernel_rfl) (by kernel_rfl) ⟨⟨E122, ⟨⟨tabok, fns_ok ⟨c42_snd, trivial⟩⟩, mixed⟩, fun p R K => U122 R p.1.1 p.1.2.1 K⟩, trivial⟩
abbrev E123 : Env := ⟨tab, lookH [(83, c83)], { deep := true }⟩
def laws_eqPStep (a : Timpl_PStep.V) (b : Timpl_PStep.V) : Option Bool :=
 bif (a.1 != b.1) then
 some false
 else
 bif (a.2.1 != b.2.1) then
 some false
 else
 bif (a.2.2.1 != b.2.2.1) then
 some false
 else
 bif (a.2.2.2.1 != b.2.2.2.1) then
 some false
 else
 bif (a.2.2.2.2.1 != b.2.2.2.2.1) then
 some false
 else
 (laws_eqTerm a.2.2.2.2.2.1 b.2.2.2.2.2.1).bind fun c =>
 bif (!c) then
 some false
 else
 some true
theorem U123 (R : Type) (a : Timpl_PStep.V) (b : Timpl_PStep.V) (K : AV → List Blk → Option R) : runF E123 Tryz.f43 R [dD Timpl_PStep a, dD Timpl_PStep b] [] K = (laws_eqPStep a b).bind fun r => K (dB r) [] := by
  simp only [laws_eqPStep, bC, bI, bN, bE, bA, bS, bO, bM]
  kernel_rfl
def c43 : Va.Callee := brC [.d Timpl_PStep, .d Timpl_PStep] [⟨[.dat [] Timpl_PStep, .dat [] Timpl_PStep], [], Bool, fun p => laws_eqPStep p.1.1 p.1.2.1, fun r => (dB r, [])⟩]
theorem c43_snd : SoundC Tryz.prog 43 c43 := br_snd (fn := Tryz.f43) (by kernel_rfl) (by kernel_rfl) (by kernel_rfl) ⟨⟨E123, ⟨⟨tabok, fns_ok ⟨c83_snd, trivial⟩⟩, mixed⟩, fun p R K => U123 R p.1.1 p.1.2.1 K⟩, trivial⟩
abbrev E124 : Env := ⟨tab, lookH [(43, c43)], { deep := true, heads := [(4, { live := [0, 1, 5] })], outs := [(4, { live := [4] })] }⟩
def S124_0 (a : (List Timpl_PStep.V)) (b : (List Timpl_PStep.V)) (z_ : Int) : St := sT 27 [(0, dD (.sl Timpl_PStep) a), (1, dD (.sl Timpl_PStep) b), (5, dI z_)] []
def O124_0 (a : (List Timpl_PStep.V)) (b : (List Timpl_PStep.V)) : (Unit ⊕ Unit) → Ex × St := Sum.elim (fun c => (.ret, sT 27 [(4, dB false)] [])) (fun d => ((.exit 0), sT 27 [] []))
def laws_eqPStepS_l0_g (a : (List Timpl_PStep.V)) (b : (List Timpl_PStep.V)) (e : Int) : Option (Int ⊕ (Unit ⊕ Unit)) :=
 bif (decide (e < (a.length : Int))) then
 if (0 : Int) ≤ e ∧ e < (a.length : Int) then
 if (0 : Int) ≤ e ∧ e < (b.length : Int) then
 (laws_eqPStep (a.getD e.toNat (Ty.zero Timpl_PStep)) (b.getD e.toNat (Ty.zero Timpl_PStep))).bind fun g =>
 bif (!g) then
 some (.inr (.inl ()))
 else
 some (.inl (IntKind.i64.wrap (e + 1)))
 else none
 else none
 else
 some (.inr (.inr ()))
def laws_eqPStepS_l0_r (a : (List Timpl_PStep.V)) (b : (List Timpl_PStep.V)) (z_ : Int) := laws_eqPStepS_l0_g a b z_
def laws_eqPStepS_l0 (a : (List Timpl_PStep.V)) (b : (List Timpl_PStep.V)) (e : Int) := fix (laws_eqPStepS_l0_r a b) e
theorem T124_0 (a : (List Timpl_PStep.V)) (b : (List Timpl_PStep.V)) : LpOk E124 0 4 (code Tryz.f16) [1, 1, 0, 1, 0] (S124_0 a b) (laws_eqPStepS_l0_r a b) (O124_0 a b) := by
  intro _
  simp only [laws_eqPStepS_l0_r, laws_eqPStepS_l0_g, mC, mI, mN, mB, mE, mM]
  kernel_rfl
def laws_eqPStepS (a : (List Timpl_PStep.V)) (b : (List Timpl_PStep.V)) : Option Bool :=
 bif ((a.length : Int) != (b.length : Int)) then
 some false
 else
 (laws_eqPStepS_l0 a b 0).bind (Sum.elim (fun c =>
 some false) (fun d =>
 some true))
theorem U124 (R : Type) (a : (List Timpl_PStep.V)) (b : (List Timpl_PStep.V)) (K : AV → List Blk → Option R) : runF E124 Tryz.f16 R [dD (.sl Timpl_PStep) a, dD (.sl Timpl_PStep) b] [] K = (laws_eqPStepS a b).bind fun r => K (dB r) [] := by
  simp only [laws_eqPStepS, bC, bI, bN, bE, bA, bS, bO, bM]
  simp (disch := refine sI ?_ <;> (repeat' refine sA ?_ ?_) <;> intro _ <;> kernel_rfl) only [laws_eqPStepS_l0, lp_ok (T124_0 _ _) (K := finK E124 Tryz.f16 0 R K)]
  kernel_rfl
def c16 : Va.Callee := brC [.d (.sl Timpl_PStep), .d (.sl Timpl_PStep)] [⟨[.dat [] (.sl Timpl_PStep), .dat [] (.sl Timpl_PStep)], [], Bool, fun p => laws_eqPStepS p.1.1 p.1.2.1, fun r => (dB r, [])⟩]
theorem c16_snd : SoundC Tryz.prog 16 c16 := br_snd (fn := Tryz.f16) (by kernel_rfl) (by kernel_rfl) (by kernel_rfl) ⟨⟨E124, ⟨⟨tabok, fns_ok ⟨c43_snd, trivial⟩⟩, mixed⟩, fun p R K => U124 R p.1.1 p.1.2.1 K⟩, trivial⟩
abbrev E125 : Env := ⟨tab, lookH [], { deep := true, heads := [(4, { live := [0, 3] })], outs := [(4, { live := [3] })] }⟩
def S125_0 (z_ : (Int × ByteArray)) : St := sT 20 [(0, dI z_.1), (3, dD .str z_.2)] []
def O125_0 : ByteArray → Ex × St := fun a => ((.exit 0), sT 20 [(3, dD .str a)] [])
def laws_markText_l0_g (b : Int) (c : ByteArray) : Option ((Int × ByteArray) ⊕ ByteArray) :=
 bif (decide (b > 0)) then
 if (bytesOf ([(IntKind.u8.wrap (IntKind.i64.wrap (48 + (Int.tmod b 10))))] : List Int)).size + c.size ≤ 9223372036854775807 then
 some (.inl ((IntKind.i64.wrap (Int.tdiv b 10)), ((bytesOf ([(IntKind.u8.wrap (IntKind.i64.wrap (48 + (Int.tmod b 10))))] : List Int)) ++ c)))
 else none
 else
 some (.inr c)
def laws_markText_l0_r (z_ : (Int × ByteArray)) := laws_markText_l0_g z_.1 z_.2
def laws_markText_l0 (b : Int) (c : ByteArray) := fix (laws_markText_l0_r) (b, c)
theorem T125_0 : LpOk E125 0 4 (code Tryz.f44) [1, 1, 1, 0, 0] (S125_0) (laws_markText_l0_r) (O125_0) := by
  intro _
  simp only [laws_markText_l0_r, laws_markText_l0_g, mC, mI, mN, mB, mE, mM]
  kernel_rfl
def laws_markText (d : Int) : Option ByteArray :=
 bif (decide (d ≤ 0)) then
 some (⟨#[109, 48]⟩ : ByteArray)
 else
 (laws_markText_l0 d (⟨#[]⟩ : ByteArray)).bind fun a =>
 if (⟨#[109]⟩ : ByteArray).size + a.size ≤ 9223372036854775807 then
 some ((⟨#[109]⟩ : ByteArray) ++ a)
 else none
theorem U125 (R : Type) (d : Int) (K : AV → List Blk → Option R) : runF E125 Tryz.f44 R [dI d] [] K = (laws_markText d).bind fun r => K (dD .str r) [] := by
  simp only [laws_markText, bC, bI, bN, bE, bA, bS, bO, bM]
  simp (disch := refine sI ?_ <;> (repeat' refine sA ?_ ?_) <;> intro _ <;> kernel_rfl) only [laws_markText_l0, lp_ok (T125_0) (K := finK E125 Tryz.f44 0 R K)]
  kernel_rfl
def c44 : Va.Callee := brC [.d (.int .i64)] [⟨[.dat [] (.int .i64)], [], ByteArray, fun p => laws_markText p.1.1, fun r => (dD .str r, [])⟩]
theorem c44_snd : SoundC Tryz.prog 44 c44 := br_snd (fn := Tryz.f44) (by kernel_rfl) (by kernel_rfl) (by kernel_rfl) ⟨⟨E125, ⟨⟨tabok, fns_ok trivial⟩, mixed⟩, fun p R K => U125 R p.1.1 K⟩, trivial⟩
abbrev E126 : Env := ⟨tab, lookH [(44, c44)], { deep := true, heads := [(2, { live := [0, 1, 5] })], outs := [(2, { live := [1] })] }⟩
def S126_0 (z_ : (Int × Int × (List Timpl_Decl.V))) : St := sT 28 [(0, .ref 0), (1, dI z_.1), (5, dI z_.2.1)] [.row 79 .deep Timpl_Decl z_.2.2]
def O126_0 : (Int × (List Timpl_Decl.V)) → Ex × St := fun a => ((.exit 0), sT 28 [(1, dI a.1)] [.row 79 .deep Timpl_Decl a.2])
def laws_markDeclS_l0_g (b : Int) (c : Int) (d : (List Timpl_Decl.V)) : Option ((Int × Int × (List Timpl_Decl.V)) ⊕ (Int × (List Timpl_Decl.V))) :=
 bif (decide (c < (d.length : Int))) then
 (laws_markText b).bind fun e =>
 if (0 : Int) ≤ c ∧ c < (d.length : Int) then
 if (0 : Int) ≤ c ∧ c < ((d.set c.toNat (e, (d.getD c.toNat (Ty.zero Timpl_Decl)).2)).length : Int) then
 some (.inl ((IntKind.i64.wrap ((IntKind.i64.wrap (b + 1)) + 1)), (IntKind.i64.wrap (c + 1)), ((d.set c.toNat (e, (d.getD c.toNat (Ty.zero Timpl_Decl)).2)).set c.toNat (((d.set c.toNat (e, (d.getD c.toNat (Ty.zero Timpl_Decl)).2)).getD c.toNat (Ty.zero Timpl_Decl)).1, (IntKind.i64.wrap (b + 1)), ((d.set c.toNat (e, (d.getD c.toNat (Ty.zero Timpl_Decl)).2)).getD c.toNat (Ty.zero Timpl_Decl)).2.2))))
 else none
 else none
 else
 some (.inr (b, d))
def laws_markDeclS_l0_r (z_ : (Int × Int × (List Timpl_Decl.V))) := laws_markDeclS_l0_g z_.1 z_.2.1 z_.2.2
def laws_markDeclS_l0 (b : Int) (c : Int) (d : (List Timpl_Decl.V)) := fix (laws_markDeclS_l0_r) (b, c, d)
theorem T126_0 : LpOk E126 1 2 (code Tryz.f17) [1, 0, 1, 0] (S126_0) (laws_markDeclS_l0_r) (O126_0) := by
  intro _
  simp only [laws_markDeclS_l0_r, laws_markDeclS_l0_g, mC, mI, mN, mB, mE, mM]
  kernel_rfl
def laws_markDeclS (g : Int) (i : (List Timpl_Decl.V)) : Option (Int × (List Timpl_Decl.V)) :=
 (laws_markDeclS_l0 g 0 i).bind fun a =>
 some (a.1, a.2)
theorem U126 (R : Type) (g : Int) (i : (List Timpl_Decl.V)) (K : AV → List Blk → Option R) : runF E126 Tryz.f17 R [.ref 0, dI g] [.row 79 .deep Timpl_Decl i] K = (laws_markDeclS g i).bind fun r => K (dI r.1) [.row 79 .deep Timpl_Decl r.2] := by
  simp only [laws_markDeclS, bC, bI, bN, bE, bA, bS, bO, bM]
  simp (disch := refine sI ?_ <;> (repeat' refine sA ?_ ?_) <;> intro _ <;> kernel_rfl) only [laws_markDeclS_l0, lp_ok (T126_0) (K := finK E126 Tryz.f17 1 R K)]
  kernel_rfl
def c17 : Va.Callee := brC [.raw, .d (.int .i64)] [⟨[.k (.ref 0), .dat [] (.int .i64)], [.row 79 .deep Timpl_Decl], (Int × (List Timpl_Decl.V)), fun p => laws_markDeclS p.1.2.1 p.2.1, fun r => (dI r.1, [.row 79 .deep Timpl_Decl r.2])⟩]
theorem c17_snd : SoundC Tryz.prog 17 c17 := br_snd (fn := Tryz.f17) (by kernel_rfl) (by kernel_rfl) (by kernel_rfl) ⟨⟨E126, ⟨⟨tabok, fns_ok ⟨c44_snd, trivial⟩⟩, mixed⟩, fun p R K => U126 R p.1.2.1 p.2.1 K⟩, trivial⟩
abbrev E127 : Env := ⟨tab, lookH [], { deep := true, heads := [(2, { live := [0, 1, 5] })], outs := [(2, { live := [1] })] }⟩
def S127_0 (z_ : (Int × Int × (List Int))) : St := sT 20 [(0, .ref 0), (1, dI z_.1), (5, dI z_.2.1)] [.row 0 .deep (.int .u64) z_.2.2]
def O127_0 : (Int × (List Int)) → Ex × St := fun a => ((.exit 0), sT 20 [(1, dI a.1)] [.row 0 .deep (.int .u64) a.2])
def laws_markUint64S_l0_g (b : Int) (c : Int) (d : (List Int)) : Option ((Int × Int × (List Int)) ⊕ (Int × (List Int))) :=
 bif (decide (c < (d.length : Int))) then
 if (0 : Int) ≤ c ∧ c < (d.length : Int) then
 some (.inl ((IntKind.i64.wrap (b + 1)), (IntKind.i64.wrap (c + 1)), (d.set c.toNat (IntKind.u64.wrap b))))
 else none
 else
 some (.inr (b, d))
def laws_markUint64S_l0_r (z_ : (Int × Int × (List Int))) := laws_markUint64S_l0_g z_.1 z_.2.1 z_.2.2
def laws_markUint64S_l0 (b : Int) (c : Int) (d : (List Int)) := fix (laws_markUint64S_l0_r) (b, c, d)
theorem T127_0 : LpOk E127 1 2 (code Tryz.f84) [1, 0, 1, 0] (S127_0) (laws_markUint64S_l0_r) (O127_0) := by
  intro _
  simp only [laws_markUint64S_l0_r, laws_markUint64S_l0_g, mC, mI, mN, mB, mE, mM]
  kernel_rfl
def laws_markUint64S (e : Int) (g : (List Int)) : Option (Int × (List Int)) :=
 (laws_markUint64S_l0 e 0 g).bind fun a =>
 some (a.1, a.2)
theorem U127 (R : Type) (e : Int) (g : (List Int)) (K : AV → List Blk → Option R) : runF E127 Tryz.f84 R [.ref 0, dI e] [.row 0 .deep (.int .u64) g] K = (laws_markUint64S e g).bind fun r => K (dI r.1) [.row 0 .deep (.int .u64) r.2] := by
  simp only [laws_markUint64S, bC, bI, bN, bE, bA, bS, bO, bM]
  simp (disch := refine sI ?_ <;> (repeat' refine sA ?_ ?_) <;> intro _ <;> kernel_rfl) only [laws_markUint64S_l0, lp_ok (T127_0) (K := finK E127 Tryz.f84 1 R K)]
  kernel_rfl
def c84 : Va.Callee := brC [.raw, .d (.int .i64)] [⟨[.k (.ref 0), .dat [] (.int .i64)], [.row 0 .deep (.int .u64)], (Int × (List Int)), fun p => laws_markUint64S p.1.2.1 p.2.1, fun r => (dI r.1, [.row 0 .deep (.int .u64) r.2])⟩]
theorem c84_snd : SoundC Tryz.prog 84 c84 := br_snd (fn := Tryz.f84) (by kernel_rfl) (by kernel_rfl) (by kernel_rfl) ⟨⟨E127, ⟨⟨tabok, fns_ok trivial⟩, mixed⟩, fun p R K => U127 R p.1.2.1 p.2.1 K⟩, trivial⟩
abbrev E128 : Env := ⟨tab, lookH [], { deep := true, heads := [(2, { live := [0, 1, 5] })], outs := [(2, { live := [1] })] }⟩
def S128_0 (z_ : (Int × Int × (List Int))) : St := sT 19 [(0, .ref 0), (1, dI z_.1), (5, dI z_.2.1)] [.row 0 .deep (.int .i64) z_.2.2]
def O128_0 : (Int × (List Int)) → Ex × St := fun a => ((.exit 0), sT 19 [(1, dI a.1)] [.row 0 .deep (.int .i64) a.2])
def laws_markInt64S_l0_g (b : Int) (c : Int) (d : (List Int)) : Option ((Int × Int × (List Int)) ⊕ (Int × (List Int))) :=
 bif (decide (c < (d.length : Int))) then
 if (0 : Int) ≤ c ∧ c < (d.length : Int) then
 some (.inl ((IntKind.i64.wrap (b + 1)), (IntKind.i64.wrap (c + 1)), (d.set c.toNat b)))
 else none
 else
 some (.inr (b, d))
def laws_markInt64S_l0_r (z_ : (Int × Int × (List Int))) := laws_markInt64S_l0_g z_.1 z_.2.1 z_.2.2
def laws_markInt64S_l0 (b : Int) (c : Int) (d : (List Int)) := fix (laws_markInt64S_l0_r) (b, c, d)
theorem T128_0 : LpOk E128 1 2 (code Tryz.f85) [1, 0, 1, 0] (S128_0) (laws_markInt64S_l0_r) (O128_0) := by
  intro _
  simp only [laws_markInt64S_l0_r, laws_markInt64S_l0_g, mC, mI, mN, mB, mE, mM]
  kernel_rfl
def laws_markInt64S (e : Int) (g : (List Int)) : Option (Int × (List Int)) :=
 (laws_markInt64S_l0 e 0 g).bind fun a =>
 some (a.1, a.2)
theorem U128 (R : Type) (e : Int) (g : (List Int)) (K : AV → List Blk → Option R) : runF E128 Tryz.f85 R [.ref 0, dI e] [.row 0 .deep (.int .i64) g] K = (laws_markInt64S e g).bind fun r => K (dI r.1) [.row 0 .deep (.int .i64) r.2] := by
  simp only [laws_markInt64S, bC, bI, bN, bE, bA, bS, bO, bM]
  simp (disch := refine sI ?_ <;> (repeat' refine sA ?_ ?_) <;> intro _ <;> kernel_rfl) only [laws_markInt64S_l0, lp_ok (T128_0) (K := finK E128 Tryz.f85 1 R K)]
  kernel_rfl
def c85 : Va.Callee := brC [.raw, .d (.int .i64)] [⟨[.k (.ref 0), .dat [] (.int .i64)], [.row 0 .deep (.int .i64)], (Int × (List Int)), fun p => laws_markInt64S p.1.2.1 p.2.1, fun r => (dI r.1, [.row 0 .deep (.int .i64) r.2])⟩]
theorem c85_snd : SoundC Tryz.prog 85 c85 := br_snd (fn := Tryz.f85) (by kernel_rfl) (by kernel_rfl) (by kernel_rfl) ⟨⟨E128, ⟨⟨tabok, fns_ok trivial⟩, mixed⟩, fun p R K => U128 R p.1.2.1 p.2.1 K⟩, trivial⟩
end
end Go.Proofs.X
namespace Go.Proofs.X
open Go Go.Va
set_option maxRecDepth 100000
noncomputable section
abbrev E129 : Env := ⟨tab, lookH [(84, c84), (85, c85)], { deep := true, nest := [(53, 169), (60, 2)], heads := [(2, { live := [0, 1, 5] })], outs := [(2, { live := [1] })], joins := [(3, { live := [0, 1, 5] }), (9, { live := [0, 1, 5] }), (13, { live := [0, 1, 5] })], ents := [(3, [0, 1, 5]), (9, [0, 1, 5]), (13, [0, 1, 5])] }⟩
def S129_3 (z_ : (Int × Int × (List Timpl_TNode.V))) : St := sT 64 [(0, .ref 0), (1, dI z_.1), (5, dI z_.2.1)] [.row 0 .deep Timpl_TNode z_.2.2]
def O129_3 : (Int × (List Timpl_TNode.V)) → Ex × St := fun a => ((.exit 0), sT 64 [(1, dI a.1)] [.row 0 .deep Timpl_TNode a.2])
def S129_2 (b : Int) (c : Int) (d : (List Timpl_TNode.V)) : St := sT 64 [(0, .ref 0), (1, dI b), (5, dI c)] [.row 0 .deep Timpl_TNode d]
def O129_2 (b : Int) (c : Int) (d : (List Timpl_TNode.V)) : (Int × (List Timpl_TNode.V)) → Ex × St := fun e => (.normal, sT 64 [(0, .ref 0), (1, dI e.1), (5, dI c)] [.row 0 .deep Timpl_TNode e.2])
def S129_1 (c : Int) (g : Int) (i : (List Timpl_TNode.V)) : St := sT 64 [(0, .ref 0), (1, dI g), (5, dI c)] [.row 0 .deep Timpl_TNode i]
def O129_1 (c : Int) (g : Int) (i : (List Timpl_TNode.V)) : (List Timpl_TNode.V) → Ex × St := fun j => (.normal, sT 64 [(0, .ref 0), (1, dI g), (5, dI c)] [.row 0 .deep Timpl_TNode j])
def laws_markTNodeS_l1 (c : Int) (g : Int) (i : (List Timpl_TNode.V)) : Option (List Timpl_TNode.V) :=
 if (0 : Int) ≤ c ∧ c < (i.length : Int) then
 some (i.set c.toNat ((i.getD c.toNat (Ty.zero Timpl_TNode)).1, (i.getD c.toNat (Ty.zero Timpl_TNode)).2.1, (i.getD c.toNat (Ty.zero Timpl_TNode)).2.2.1, (i.getD c.toNat (Ty.zero Timpl_TNode)).2.2.2.1, (g, (i.getD c.toNat (Ty.zero Timpl_TNode)).2.2.2.2.1.2), (i.getD c.toNat (Ty.zero Timpl_TNode)).2.2.2.2.2))
 else none
theorem T129_1 (c : Int) (g : Int) (i : (List Timpl_TNode.V)) : JnOk E129 1 13 (sub (sub (code Tryz.f45) [1, 0, 1, 0, 0]) [1, 0]) [0, 1, 1, 1, 1, 1, 1, 1, 1, 0] (S129_1 c g i) (laws_markTNodeS_l1 c g i) (O129_1 c g i) := by
  unfold JnOk
  simp only [laws_markTNodeS_l1, mC, mI, mN, mB, mE, mM]
  kernel_rfl
def S129_0 (c : Int) (k : Int) (l : (List Timpl_TNode.V)) : St := sT 64 [(0, .ref 0), (1, dI k), (5, dI c)] [.row 0 .deep Timpl_TNode l]
def O129_0 (c : Int) (k : Int) (l : (List Timpl_TNode.V)) : (List Timpl_TNode.V) → Ex × St := fun n => (.normal, sT 64 [(0, .ref 0), (1, dI k), (5, dI c)] [.row 0 .deep Timpl_TNode n])
def laws_markTNodeS_l0 (c : Int) (k : Int) (l : (List Timpl_TNode.V)) : Option (List Timpl_TNode.V) :=
 if (0 : Int) ≤ c ∧ c < (l.length : Int) then
 some (l.set c.toNat ((l.getD c.toNat (Ty.zero Timpl_TNode)).1, (l.getD c.toNat (Ty.zero Timpl_TNode)).2.1, k, (l.getD c.toNat (Ty.zero Timpl_TNode)).2.2.2))
 else none
theorem T129_0 (c : Int) (k : Int) (l : (List Timpl_TNode.V)) : JnOk E129 1 9 (sub (sub (code Tryz.f45) [1, 0, 1, 0, 0]) [1, 0]) [0, 1, 1, 1, 1, 0] (S129_0 c k l) (laws_markTNodeS_l0 c k l) (O129_0 c k l) := by
  unfold JnOk
  simp only [laws_markTNodeS_l0, mC, mI, mN, mB, mE, mM]
  kernel_rfl
def laws_markTNodeS_l2 (b : Int) (c : Int) (d : (List Timpl_TNode.V)) : Option (Int × (List Timpl_TNode.V)) :=
 if (0 : Int) ≤ c ∧ c < (d.length : Int) then
 if (0 : Int) ≤ c ∧ c < ((d.set c.toNat (b, (d.getD c.toNat (Ty.zero Timpl_TNode)).2)).length : Int) then
 (laws_markTNodeS_l0 c (IntKind.i64.wrap ((IntKind.i64.wrap (b + 1)) + 1)) ((d.set c.toNat (b, (d.getD c.toNat (Ty.zero Timpl_TNode)).2)).set c.toNat (((d.set c.toNat (b, (d.getD c.toNat (Ty.zero Timpl_TNode)).2)).getD c.toNat (Ty.zero Timpl_TNode)).1, (IntKind.i64.wrap (b + 1)), ((d.set c.toNat (b, (d.getD c.toNat (Ty.zero Timpl_TNode)).2)).getD c.toNat (Ty.zero Timpl_TNode)).2.2))).bind fun n =>
 if (0 : Int) ≤ c ∧ c < (n.length : Int) then
 (laws_markTNodeS_l1 c (IntKind.i64.wrap ((IntKind.i64.wrap ((IntKind.i64.wrap ((IntKind.i64.wrap (b + 1)) + 1)) + 1)) + 1)) (n.set c.toNat ((n.getD c.toNat (Ty.zero Timpl_TNode)).1, (n.getD c.toNat (Ty.zero Timpl_TNode)).2.1, (n.getD c.toNat (Ty.zero Timpl_TNode)).2.2.1, (IntKind.i64.wrap ((IntKind.i64.wrap ((IntKind.i64.wrap (b + 1)) + 1)) + 1)), (n.getD c.toNat (Ty.zero Timpl_TNode)).2.2.2.2))).bind fun j =>
 if (0 : Int) ≤ c ∧ c < (j.length : Int) then
 (laws_markUint64S (IntKind.i64.wrap ((IntKind.i64.wrap ((IntKind.i64.wrap ((IntKind.i64.wrap ((IntKind.i64.wrap (b + 1)) + 1)) + 1)) + 1)) + 1)) (j.getD c.toNat (Ty.zero Timpl_TNode)).2.2.2.2.1.2.1).bind fun o =>
 if (0 : Int) ≤ c ∧ c < ((j.set c.toNat ((j.getD c.toNat (Ty.zero Timpl_TNode)).1, (j.getD c.toNat (Ty.zero Timpl_TNode)).2.1, (j.getD c.toNat (Ty.zero Timpl_TNode)).2.2.1, (j.getD c.toNat (Ty.zero Timpl_TNode)).2.2.2.1, ((j.getD c.toNat (Ty.zero Timpl_TNode)).2.2.2.2.1.1, o.2, (j.getD c.toNat (Ty.zero Timpl_TNode)).2.2.2.2.1.2.2), (j.getD c.toNat (Ty.zero Timpl_TNode)).2.2.2.2.2)).length : Int) then
 (laws_markInt64S o.1 ((j.set c.toNat ((j.getD c.toNat (Ty.zero Timpl_TNode)).1, (j.getD c.toNat (Ty.zero Timpl_TNode)).2.1, (j.getD c.toNat (Ty.zero Timpl_TNode)).2.2.1, (j.getD c.toNat (Ty.zero Timpl_TNode)).2.2.2.1, ((j.getD c.toNat (Ty.zero Timpl_TNode)).2.2.2.2.1.1, o.2, (j.getD c.toNat (Ty.zero Timpl_TNode)).2.2.2.2.1.2.2), (j.getD c.toNat (Ty.zero Timpl_TNode)).2.2.2.2.2)).getD c.toNat (Ty.zero Timpl_TNode)).2.2.2.2.2.1).bind fun q =>
 some (q.1, ((j.set c.toNat ((j.getD c.toNat (Ty.zero Timpl_TNode)).1, (j.getD c.toNat (Ty.zero Timpl_TNode)).2.1, (j.getD c.toNat (Ty.zero Timpl_TNode)).2.2.1, (j.getD c.toNat (Ty.zero Timpl_TNode)).2.2.2.1, ((j.getD c.toNat (Ty.zero Timpl_TNode)).2.2.2.2.1.1, o.2, (j.getD c.toNat (Ty.zero Timpl_TNode)).2.2.2.2.1.2.2), (j.getD c.toNat (Ty.zero Timpl_TNode)).2.2.2.2.2)).set c.toNat (((j.set c.toNat ((j.getD c.toNat (Ty.zero Timpl_TNode)).1, (j.getD c.toNat (Ty.zero Timpl_TNode)).2.1, (j.getD c.toNat (Ty.zero Timpl_TNode)).2.2.1, (j.getD c.toNat (Ty.zero Timpl_TNode)).2.2.2.1, ((j.getD c.toNat (Ty.zero Timpl_TNode)).2.2.2.2.1.1, o.2, (j.getD c.toNat (Ty.zero Timpl_TNode)).2.2.2.2.1.2.2), (j.getD c.toNat (Ty.zero Timpl_TNode)).2.2.2.2.2)).getD c.toNat (Ty.zero Timpl_TNode)).1, ((j.set c.toNat ((j.getD c.toNat (Ty.zero Timpl_TNode)).1, (j.getD c.toNat (Ty.zero Timpl_TNode)).2.1, (j.getD c.toNat (Ty.zero Timpl_TNode)).2.2.1, (j.getD c.toNat (Ty.zero Timpl_TNode)).2.2.2.1, ((j.getD c.toNat (Ty.zero Timpl_TNode)).2.2.2.2.1.1, o.2, (j.getD c.toNat (Ty.zero Timpl_TNode)).2.2.2.2.1.2.2), (j.getD c.toNat (Ty.zero Timpl_TNode)).2.2.2.2.2)).getD c.toNat (Ty.zero Timpl_TNode)).2.1, ((j.set c.toNat ((j.getD c.toNat (Ty.zero Timpl_TNode)).1, (j.getD c.toNat (Ty.zero Timpl_TNode)).2.1, (j.getD c.toNat (Ty.zero Timpl_TNode)).2.2.1, (j.getD c.toNat (Ty.zero Timpl_TNode)).2.2.2.1, ((j.getD c.toNat (Ty.zero Timpl_TNode)).2.2.2.2.1.1, o.2, (j.getD c.toNat (Ty.zero Timpl_TNode)).2.2.2.2.1.2.2), (j.getD c.toNat (Ty.zero Timpl_TNode)).2.2.2.2.2)).getD c.toNat (Ty.zero Timpl_TNode)).2.2.1, ((j.set c.toNat ((j.getD c.toNat (Ty.zero Timpl_TNode)).1, (j.getD c.toNat (Ty.zero Timpl_TNode)).2.1, (j.getD c.toNat (Ty.zero Timpl_TNode)).2.2.1, (j.getD c.toNat (Ty.zero Timpl_TNode)).2.2.2.1, ((j.getD c.toNat (Ty.zero Timpl_TNode)).2.2.2.2.1.1, o.2, (j.getD c.toNat (Ty.zero Timpl_TNode)).2.2.2.2.1.2.2), (j.getD c.toNat (Ty.zero Timpl_TNode)).2.2.2.2.2)).getD c.toNat (Ty.zero Timpl_TNode)).2.2.2.1, ((j.set c.toNat ((j.getD c.toNat (Ty.zero Timpl_TNode)).1, (j.getD c.toNat (Ty.zero Timpl_TNode)).2.1, (j.getD c.toNat (Ty.zero Timpl_TNode)).2.2.1, (j.getD c.toNat (Ty.zero Timpl_TNode)).2.2.2.1, ((j.getD c.toNat (Ty.zero Timpl_TNode)).2.2.2.2.1.1, o.2, (j.getD c.toNat (Ty.zero Timpl_TNode)).2.2.2.2.1.2.2), (j.getD c.toNat (Ty.zero Timpl_TNode)).2.2.2.2.2)).getD c.toNat (Ty.zero Timpl_TNode)).2.2.2.2.1, q.2, ((j.set c.toNat ((j.getD c.toNat (Ty.zero Timpl_TNode)).1, (j.getD c.toNat (Ty.zero Timpl_TNode)).2.1, (j.getD c.toNat (Ty.zero Timpl_TNode)).2.2.1, (j.getD c.toNat (Ty.zero Timpl_TNode)).2.2.2.1, ((j.getD c.toNat (Ty.zero Timpl_TNode)).2.2.2.2.1.1, o.2, (j.getD c.toNat (Ty.zero Timpl_TNode)).2.2.2.2.1.2.2), (j.getD c.toNat (Ty.zero Timpl_TNode)).2.2.2.2.2)).getD c.toNat (Ty.zero Timpl_TNode)).2.2.2.2.2.2)))
 else none
 else none
 else none
 else none
 else none
theorem T129_2 (b : Int) (c : Int) (d : (List Timpl_TNode.V)) : JnOk E129 1 3 (sub (code Tryz.f45) [1, 0, 1, 0, 0]) [1, 0] (S129_2 b c d) (laws_markTNodeS_l2 b c d) (O129_2 b c d) := by
  unfold JnOk
  simp only [laws_markTNodeS_l2, mC, mI, mN, mB, mE, mM]
  simp (disch := refine sI ?_ <;> (repeat' refine sA ?_ ?_) <;> intro _ <;> kernel_rfl) only [jn_ok (T129_0 _ _ _) (K := joinK 1 (E129.jn 3)), jn_ok (T129_1 _ _ _) (K := joinK 1 (E129.jn 3))]
  kernel_rfl
def laws_markTNodeS_l3_g (b : Int) (c : Int) (d : (List Timpl_TNode.V)) : Option ((Int × Int × (List Timpl_TNode.V)) ⊕ (Int × (List Timpl_TNode.V))) :=
 bif (decide (c < (d.length : Int))) then
 (laws_markTNodeS_l2 b c d).bind fun e =>
 some (.inl (e.1, (IntKind.i64.wrap (c + 1)), e.2))
 else
 some (.inr (b, d))
def laws_markTNodeS_l3_r (z_ : (Int × Int × (List Timpl_TNode.V))) := laws_markTNodeS_l3_g z_.1 z_.2.1 z_.2.2
def laws_markTNodeS_l3 (b : Int) (c : Int) (d : (List Timpl_TNode.V)) := fix (laws_markTNodeS_l3_r) (b, c, d)
theorem T129_3 : LpOk E129 1 2 (code Tryz.f45) [1, 0, 1, 0] (S129_3) (laws_markTNodeS_l3_r) (O129_3) := by
  intro _
  simp only [laws_markTNodeS_l3_r, laws_markTNodeS_l3_g, mC, mI, mN, mB, mE, mM]
  simp (disch := refine sI ?_ <;> (repeat' refine sA ?_ ?_) <;> intro _ <;> kernel_rfl) only [jn_ok (T129_2 _ _ _) (K := stepK 1 (E129.hd 2) (E129.ot 2))]
  kernel_rfl
def laws_markTNodeS (s : Int) (t : (List Timpl_TNode.V)) : Option (Int × (List Timpl_TNode.V)) :=
 (laws_markTNodeS_l3 s 0 t).bind fun a =>
 some (a.1, a.2)
theorem U129 (R : Type) (s : Int) (t : (List Timpl_TNode.V)) (K : AV → List Blk → Option R) : runF E129 Tryz.f45 R [.ref 0, dI s] [.row 0 .deep Timpl_TNode t] K = (laws_markTNodeS s t).bind fun r => K (dI r.1) [.row 0 .deep Timpl_TNode r.2] := by
  simp only [laws_markTNodeS, bC, bI, bN, bE, bA, bS, bO, bM]
  simp (disch := refine sI ?_ <;> (repeat' refine sA ?_ ?_) <;> intro _ <;> kernel_rfl) only [laws_markTNodeS_l3, lp_ok (T129_3) (K := finK E129 Tryz.f45 1 R K)]
  kernel_rfl
def c45 : Va.Callee := brC [.raw, .d (.int .i64)] [⟨[.k (.ref 0), .dat [] (.int .i64)], [.row 0 .deep Timpl_TNode], (Int × (List Timpl_TNode.V)), fun p => laws_markTNodeS p.1.2.1 p.2.1, fun r => (dI r.1, [.row 0 .deep Timpl_TNode r.2])⟩]
theorem c45_snd : SoundC Tryz.prog 45 c45 := br_snd (fn := Tryz.f45) (by kernel_rfl) (by kernel_rfl) (by kernel_rfl) ⟨⟨E129, ⟨⟨tabok, fns_ok ⟨c84_snd, c85_snd, trivial⟩⟩, mixed⟩, fun p R K => U129 R p.1.2.1 p.2.1 K⟩, trivial⟩
abbrev E130 : Env := ⟨tab, lookH [(45, c45)], { deep := true, nest := [(33, 141), (41, 141)], heads := [(2, { live := [0, 1, 5] })], outs := [(2, { live := [1] })], joins := [(3, { live := [0, 1, 5] }), (7, { live := [0, 1, 5] }), (9, { live := [0, 1, 5] })], ents := [(3, [0, 1, 5]), (7, [0, 1, 5]), (9, [0, 1, 5])] }⟩
def S130_3 (z_ : (Int × Int × (List Timpl_Literal.V))) : St := sT 45 [(0, .ref 0), (1, dI z_.1), (5, dI z_.2.1)] [.row 82 .deep Timpl_Literal z_.2.2]
def O130_3 : (Int × (List Timpl_Literal.V)) → Ex × St := fun a => ((.exit 0), sT 45 [(1, dI a.1)] [.row 82 .deep Timpl_Literal a.2])
def S130_2 (b : Int) (c : Int) (d : (List Timpl_Literal.V)) : St := sT 45 [(0, .ref 0), (1, dI b), (5, dI c)] [.row 82 .deep Timpl_Literal d]
def O130_2 (b : Int) (c : Int) (d : (List Timpl_Literal.V)) : (Int × (List Timpl_Literal.V)) → Ex × St := fun e => (.normal, sT 45 [(0, .ref 0), (1, dI e.1), (5, dI c)] [.row 82 .deep Timpl_Literal e.2])
def S130_1 (c : Int) (g : (List Timpl_Literal.V)) (i : Int) : St := sT 45 [(0, .ref 0), (1, dI i), (5, dI c)] [.row 82 .deep Timpl_Literal g]
def O130_1 (c : Int) (g : (List Timpl_Literal.V)) (i : Int) : (Int × (List Timpl_Literal.V)) → Ex × St := fun j => (.normal, sT 45 [(0, .ref 0), (1, dI j.1), (5, dI c)] [.row 82 .deep Timpl_Literal j.2])
def laws_markLiteralS_l1 (c : Int) (g : (List Timpl_Literal.V)) (i : Int) : Option (Int × (List Timpl_Literal.V)) :=
 if (0 : Int) ≤ c ∧ c < (g.length : Int) then
 (laws_markTNodeS i (g.getD c.toNat (Ty.zero Timpl_Literal)).2.2.1.1).bind fun k =>
 some (k.1, (g.set c.toNat ((g.getD c.toNat (Ty.zero Timpl_Literal)).1, (g.getD c.toNat (Ty.zero Timpl_Literal)).2.1, (k.2, (g.getD c.toNat (Ty.zero Timpl_Literal)).2.2.1.2), (g.getD c.toNat (Ty.zero Timpl_Literal)).2.2.2)))
 else none
theorem T130_1 (c : Int) (g : (List Timpl_Literal.V)) (i : Int) : JnOk E130 1 9 (sub (sub (code Tryz.f18) [1, 0, 1, 0, 0]) [1, 0]) [0, 1, 1, 1, 1, 0] (S130_1 c g i) (laws_markLiteralS_l1 c g i) (O130_1 c g i) := by
  unfold JnOk
  simp only [laws_markLiteralS_l1, mC, mI, mN, mB, mE, mM]
  kernel_rfl
def S130_0 (c : Int) (l : Int) (n : (List Timpl_Literal.V)) : St := sT 45 [(0, .ref 0), (1, dI l), (5, dI c)] [.row 82 .deep Timpl_Literal n]
def O130_0 (c : Int) (l : Int) (n : (List Timpl_Literal.V)) : (List Timpl_Literal.V) → Ex × St := fun g => (.normal, sT 45 [(0, .ref 0), (1, dI l), (5, dI c)] [.row 82 .deep Timpl_Literal g])
def laws_markLiteralS_l0 (c : Int) (l : Int) (n : (List Timpl_Literal.V)) : Option (List Timpl_Literal.V) :=
 if (0 : Int) ≤ c ∧ c < (n.length : Int) then
 some (n.set c.toNat ((n.getD c.toNat (Ty.zero Timpl_Literal)).1, ((Int.tmod l 3) == 0), (n.getD c.toNat (Ty.zero Timpl_Literal)).2.2))
 else none
theorem T130_0 (c : Int) (l : Int) (n : (List Timpl_Literal.V)) : JnOk E130 1 7 (sub (sub (code Tryz.f18) [1, 0, 1, 0, 0]) [1, 0]) [0, 1, 1, 0] (S130_0 c l n) (laws_markLiteralS_l0 c l n) (O130_0 c l n) := by
  unfold JnOk
  simp only [laws_markLiteralS_l0, mC, mI, mN, mB, mE, mM]
  kernel_rfl
def laws_markLiteralS_l2 (b : Int) (c : Int) (d : (List Timpl_Literal.V)) : Option (Int × (List Timpl_Literal.V)) :=
 if (0 : Int) ≤ c ∧ c < (d.length : Int) then
 (laws_markLiteralS_l0 c (IntKind.i64.wrap (b + 1)) (d.set c.toNat (b, (d.getD c.toNat (Ty.zero Timpl_Literal)).2))).bind fun g =>
 (laws_markLiteralS_l1 c g (IntKind.i64.wrap ((IntKind.i64.wrap (b + 1)) + 1))).bind fun j =>
 if (0 : Int) ≤ c ∧ c < (j.2.length : Int) then
 (laws_markTNodeS j.1 (j.2.getD c.toNat (Ty.zero Timpl_Literal)).2.2.2.1.1).bind fun o =>
 some (o.1, (j.2.set c.toNat ((j.2.getD c.toNat (Ty.zero Timpl_Literal)).1, (j.2.getD c.toNat (Ty.zero Timpl_Literal)).2.1, (j.2.getD c.toNat (Ty.zero Timpl_Literal)).2.2.1, (o.2, (j.2.getD c.toNat (Ty.zero Timpl_Literal)).2.2.2.1.2), (j.2.getD c.toNat (Ty.zero Timpl_Literal)).2.2.2.2)))
 else none
 else none
theorem T130_2 (b : Int) (c : Int) (d : (List Timpl_Literal.V)) : JnOk E130 1 3 (sub (code Tryz.f18) [1, 0, 1, 0, 0]) [1, 0] (S130_2 b c d) (laws_markLiteralS_l2 b c d) (O130_2 b c d) := by
  unfold JnOk
  simp only [laws_markLiteralS_l2, mC, mI, mN, mB, mE, mM]
  simp (disch := refine sI ?_ <;> (repeat' refine sA ?_ ?_) <;> intro _ <;> kernel_rfl) only [jn_ok (T130_0 _ _ _) (K := joinK 1 (E130.jn 3)), jn_ok (T130_1 _ _ _) (K := joinK 1 (E130.jn 3))]
  kernel_rfl
def laws_markLiteralS_l3_g (b : Int) (c : Int) (d : (List Timpl_Literal.V)) : Option ((Int × Int × (List Timpl_Literal.V)) ⊕ (Int × (List Timpl_Literal.V))) :=
 bif (decide (c < (d.length : Int))) then
 (laws_markLiteralS_l2 b c d).bind fun e =>
 some (.inl (e.1, (IntKind.i64.wrap (c + 1)), e.2))
 else
 some (.inr (b, d))
def laws_markLiteralS_l3_r (z_ : (Int × Int × (List Timpl_Literal.V))) := laws_markLiteralS_l3_g z_.1 z_.2.1 z_.2.2
def laws_markLiteralS_l3 (b : Int) (c : Int) (d : (List Timpl_Literal.V)) := fix (laws_markLiteralS_l3_r) (b, c, d)
theorem T130_3 : LpOk E130 1 2 (code Tryz.f18) [1, 0, 1, 0] (S130_3) (laws_markLiteralS_l3_r) (O130_3) := by
  intro _
  simp only [laws_markLiteralS_l3_r, laws_markLiteralS_l3_g, mC, mI, mN, mB, mE, mM]
  simp (disch := refine sI ?_ <;> (repeat' refine sA ?_ ?_) <;> intro _ <;> kernel_rfl) only [jn_ok (T130_2 _ _ _) (K := stepK 1 (E130.hd 2) (E130.ot 2))]
  kernel_rfl
def laws_markLiteralS (q : Int) (s : (List Timpl_Literal.V)) : Option (Int × (List Timpl_Literal.V)) :=
 (laws_markLiteralS_l3 q 0 s).bind fun a =>
 some (a.1, a.2)
theorem U130 (R : Type) (q : Int) (s : (List Timpl_Literal.V)) (K : AV → List Blk → Option R) : runF E130 Tryz.f18 R [.ref 0, dI q] [.row 82 .deep Timpl_Literal s] K = (laws_markLiteralS q s).bind fun r => K (dI r.1) [.row 82 .deep Timpl_Literal r.2] := by
  simp only [laws_markLiteralS, bC, bI, bN, bE, bA, bS, bO, bM]
  simp (disch := refine sI ?_ <;> (repeat' refine sA ?_ ?_) <;> intro _ <;> kernel_rfl) only [laws_markLiteralS_l3, lp_ok (T130_3) (K := finK E130 Tryz.f18 1 R K)]
  kernel_rfl
def c18 : Va.Callee := brC [.raw, .d (.int .i64)] [⟨[.k (.ref 0), .dat [] (.int .i64)], [.row 82 .deep Timpl_Literal], (Int × (List Timpl_Literal.V)), fun p => laws_markLiteralS p.1.2.1 p.2.1, fun r => (dI r.1, [.row 82 .deep Timpl_Literal r.2])⟩]
theorem c18_snd : SoundC Tryz.prog 18 c18 := br_snd (fn := Tryz.f18) (by kernel_rfl) (by kernel_rfl) (by kernel_rfl) ⟨⟨E130, ⟨⟨tabok, fns_ok ⟨c45_snd, trivial⟩⟩, mixed⟩, fun p R K => U130 R p.1.2.1 p.2.1 K⟩, trivial⟩
abbrev E131 : Env := ⟨tab, lookH [(45, c45)], { deep := true, nest := [(52, 141)], heads := [(2, { live := [0, 1, 5] })], outs := [(2, { live := [1] })], joins := [(3, { live := [0, 1, 5] }), (7, { live := [0, 1, 5] }), (9, { live := [0, 1, 5] }), (13, { live := [0, 1, 5] })], ents := [(3, [0, 1, 5]), (7, [0, 1, 5]), (9, [0, 1, 5]), (13, [0, 1, 5])] }⟩
def S131_4 (z_ : (Int × Int × (List Timpl_PStep.V))) : St := sT 56 [(0, .ref 0), (1, dI z_.1), (5, dI z_.2.1)] [.row 78 .deep Timpl_PStep z_.2.2]
def O131_4 : (Int × (List Timpl_PStep.V)) → Ex × St := fun a => ((.exit 0), sT 56 [(1, dI a.1)] [.row 78 .deep Timpl_PStep a.2])
def S131_3 (b : Int) (c : Int) (d : (List Timpl_PStep.V)) : St := sT 56 [(0, .ref 0), (1, dI b), (5, dI c)] [.row 78 .deep Timpl_PStep d]
def O131_3 (b : Int) (c : Int) (d : (List Timpl_PStep.V)) : (Int × (List Timpl_PStep.V)) → Ex × St := fun e => (.normal, sT 56 [(0, .ref 0), (1, dI e.1), (5, dI c)] [.row 78 .deep Timpl_PStep e.2])
def S131_2 (c : Int) (g : Int) (i : (List Timpl_PStep.V)) : St := sT 56 [(0, .ref 0), (1, dI g), (5, dI c)] [.row 78 .deep Timpl_PStep i]
def O131_2 (c : Int) (g : Int) (i : (List Timpl_PStep.V)) : (List Timpl_PStep.V) → Ex × St := fun j => (.normal, sT 56 [(0, .ref 0), (1, dI g), (5, dI c)] [.row 78 .deep Timpl_PStep j])
def laws_markPStepS_l2 (c : Int) (g : Int) (i : (List Timpl_PStep.V)) : Option (List Timpl_PStep.V) :=
 if (0 : Int) ≤ c ∧ c < (i.length : Int) then
 some (i.set c.toNat ((i.getD c.toNat (Ty.zero Timpl_PStep)).1, (i.getD c.toNat (Ty.zero Timpl_PStep)).2.1, (i.getD c.toNat (Ty.zero Timpl_PStep)).2.2.1, (i.getD c.toNat (Ty.zero Timpl_PStep)).2.2.2.1, g, (i.getD c.toNat (Ty.zero Timpl_PStep)).2.2.2.2.2))
 else none
theorem T131_2 (c : Int) (g : Int) (i : (List Timpl_PStep.V)) : JnOk E131 1 13 (sub (sub (code Tryz.f19) [1, 0, 1, 0, 0]) [1, 0]) [0, 1, 1, 1, 1, 1, 1, 1, 1, 0] (S131_2 c g i) (laws_markPStepS_l2 c g i) (O131_2 c g i) := by
  unfold JnOk
  simp only [laws_markPStepS_l2, mC, mI, mN, mB, mE, mM]
  kernel_rfl
def S131_1 (c : Int) (k : (List Timpl_PStep.V)) (l : Int) : St := sT 56 [(0, .ref 0), (1, dI l), (5, dI c)] [.row 78 .deep Timpl_PStep k]
def O131_1 (c : Int) (k : (List Timpl_PStep.V)) (l : Int) : (List Timpl_PStep.V) → Ex × St := fun n => (.normal, sT 56 [(0, .ref 0), (1, dI l), (5, dI c)] [.row 78 .deep Timpl_PStep n])
def laws_markPStepS_l1 (c : Int) (k : (List Timpl_PStep.V)) (l : Int) : Option (List Timpl_PStep.V) :=
 if (0 : Int) ≤ c ∧ c < (k.length : Int) then
 some (k.set c.toNat ((k.getD c.toNat (Ty.zero Timpl_PStep)).1, (k.getD c.toNat (Ty.zero Timpl_PStep)).2.1, l, (k.getD c.toNat (Ty.zero Timpl_PStep)).2.2.2))
 else none
theorem T131_1 (c : Int) (k : (List Timpl_PStep.V)) (l : Int) : JnOk E131 1 9 (sub (sub (code Tryz.f19) [1, 0, 1, 0, 0]) [1, 0]) [0, 1, 1, 1, 1, 0] (S131_1 c k l) (laws_markPStepS_l1 c k l) (O131_1 c k l) := by
  unfold JnOk
  simp only [laws_markPStepS_l1, mC, mI, mN, mB, mE, mM]
  kernel_rfl
def S131_0 (c : Int) (o : Int) (q : (List Timpl_PStep.V)) : St := sT 56 [(0, .ref 0), (1, dI o), (5, dI c)] [.row 78 .deep Timpl_PStep q]
def O131_0 (c : Int) (o : Int) (q : (List Timpl_PStep.V)) : (List Timpl_PStep.V) → Ex × St := fun k => (.normal, sT 56 [(0, .ref 0), (1, dI o), (5, dI c)] [.row 78 .deep Timpl_PStep k])
def laws_markPStepS_l0 (c : Int) (o : Int) (q : (List Timpl_PStep.V)) : Option (List Timpl_PStep.V) :=
 if (0 : Int) ≤ c ∧ c < (q.length : Int) then
 some (q.set c.toNat ((q.getD c.toNat (Ty.zero Timpl_PStep)).1, o, (q.getD c.toNat (Ty.zero Timpl_PStep)).2.2))
 else none
theorem T131_0 (c : Int) (o : Int) (q : (List Timpl_PStep.V)) : JnOk E131 1 7 (sub (sub (code Tryz.f19) [1, 0, 1, 0, 0]) [1, 0]) [0, 1, 1, 0] (S131_0 c o q) (laws_markPStepS_l0 c o q) (O131_0 c o q) := by
  unfold JnOk
  simp only [laws_markPStepS_l0, mC, mI, mN, mB, mE, mM]
  kernel_rfl
def laws_markPStepS_l3 (b : Int) (c : Int) (d : (List Timpl_PStep.V)) : Option (Int × (List Timpl_PStep.V)) :=
 if (0 : Int) ≤ c ∧ c < (d.length : Int) then
 (laws_markPStepS_l0 c (IntKind.i64.wrap (b + 1)) (d.set c.toNat (b, (d.getD c.toNat (Ty.zero Timpl_PStep)).2))).bind fun k =>
 (laws_markPStepS_l1 c k (IntKind.i64.wrap ((IntKind.i64.wrap (b + 1)) + 1))).bind fun n =>
 if (0 : Int) ≤ c ∧ c < (n.length : Int) then
 (laws_markPStepS_l2 c (IntKind.i64.wrap ((IntKind.i64.wrap ((IntKind.i64.wrap ((IntKind.i64.wrap (b + 1)) + 1)) + 1)) + 1)) (n.set c.toNat ((n.getD c.toNat (Ty.zero Timpl_PStep)).1, (n.getD c.toNat (Ty.zero Timpl_PStep)).2.1, (n.getD c.toNat (Ty.zero Timpl_PStep)).2.2.1, (IntKind.i64.wrap ((IntKind.i64.wrap ((IntKind.i64.wrap (b + 1)) + 1)) + 1)), (n.getD c.toNat (Ty.zero Timpl_PStep)).2.2.2.2))).bind fun j =>
 if (0 : Int) ≤ c ∧ c < (j.length : Int) then
 (laws_markTNodeS (IntKind.i64.wrap ((IntKind.i64.wrap ((IntKind.i64.wrap ((IntKind.i64.wrap ((IntKind.i64.wrap (b + 1)) + 1)) + 1)) + 1)) + 1)) (j.getD c.toNat (Ty.zero Timpl_PStep)).2.2.2.2.2.1.1).bind fun s =>
 some (s.1, (j.set c.toNat ((j.getD c.toNat (Ty.zero Timpl_PStep)).1, (j.getD c.toNat (Ty.zero Timpl_PStep)).2.1, (j.getD c.toNat (Ty.zero Timpl_PStep)).2.2.1, (j.getD c.toNat (Ty.zero Timpl_PStep)).2.2.2.1, (j.getD c.toNat (Ty.zero Timpl_PStep)).2.2.2.2.1, (s.2, (j.getD c.toNat (Ty.zero Timpl_PStep)).2.2.2.2.2.1.2), (j.getD c.toNat (Ty.zero Timpl_PStep)).2.2.2.2.2.2)))
 else none
 else none
 else none
theorem T131_3 (b : Int) (c : Int) (d : (List Timpl_PStep.V)) : JnOk E131 1 3 (sub (code Tryz.f19) [1, 0, 1, 0, 0]) [1, 0] (S131_3 b c d) (laws_markPStepS_l3 b c d) (O131_3 b c d) := by
  unfold JnOk
  simp only [laws_markPStepS_l3, mC, mI, mN, mB, mE, mM]
  simp (disch := refine sI ?_ <;> (repeat' refine sA ?_ ?_) <;> intro _ <;> kernel_rfl) only [jn_ok (T131_0 _ _ _) (K := joinK 1 (E131.jn 3)), jn_ok (T131_1 _ _ _) (K := joinK 1 (E131.jn 3)), jn_ok (T131_2 _ _ _) (K := joinK 1 (E131.jn 3))]
  kernel_rfl
def laws_markPStepS_l4_g (b : Int) (c : Int) (d : (List Timpl_PStep.V)) : Option ((Int × Int × (List Timpl_PStep.V)) ⊕ (Int × (List Timpl_PStep.V))) :=
 bif (decide (c < (d.length : Int))) then
 (laws_markPStepS_l3 b c d).bind fun e =>
 some (.inl (e.1, (IntKind.i64.wrap (c + 1)), e.2))
 else
 some (.inr (b, d))
def laws_markPStepS_l4_r (z_ : (Int × Int × (List Timpl_PStep.V))) := laws_markPStepS_l4_g z_.1 z_.2.1 z_.2.2
def laws_markPStepS_l4 (b : Int) (c : Int) (d : (List Timpl_PStep.V)) := fix (laws_markPStepS_l4_r) (b, c, d)
theorem T131_4 : LpOk E131 1 2 (code Tryz.f19) [1, 0, 1, 0] (S131_4) (laws_markPStepS_l4_r) (O131_4) := by
  intro _
  simp only [laws_markPStepS_l4_r, laws_markPStepS_l4_g, mC, mI, mN, mB, mE, mM]
  simp (disch := refine sI ?_ <;> (repeat' refine sA ?_ ?_) <;> intro _ <;> kernel_rfl) only [jn_ok (T131_3 _ _ _) (K := stepK 1 (E131.hd 2) (E131.ot 2))]
  kernel_rfl
def laws_markPStepS (t : Int) (u : (List Timpl_PStep.V)) : Option (Int × (List Timpl_PStep.V)) :=
 (laws_markPStepS_l4 t 0 u).bind fun a =>
 some (a.1, a.2)
theorem U131 (R : Type) (t : Int) (u : (List Timpl_PStep.V)) (K : AV → List Blk → Option R) : runF E131 Tryz.f19 R [.ref 0, dI t] [.row 78 .deep Timpl_PStep u] K = (laws_markPStepS t u).bind fun r => K (dI r.1) [.row 78 .deep Timpl_PStep r.2] := by
  simp only [laws_markPStepS, bC, bI, bN, bE, bA, bS, bO, bM]
  simp (disch := refine sI ?_ <;> (repeat' refine sA ?_ ?_) <;> intro _ <;> kernel_rfl) only [laws_markPStepS_l4, lp_ok (T131_4) (K := finK E131 Tryz.f19 1 R K)]
  kernel_rfl
def c19 : Va.Callee := brC [.raw, .d (.int .i64)] [⟨[.k (.ref 0), .dat [] (.int .i64)], [.row 78 .deep Timpl_PStep], (Int × (List Timpl_PStep.V)), fun p => laws_markPStepS p.1.2.1 p.2.1, fun r => (dI r.1, [.row 78 .deep Timpl_PStep r.2])⟩]
theorem c19_snd : SoundC Tryz.prog 19 c19 := br_snd (fn := Tryz.f19) (by kernel_rfl) (by kernel_rfl) (by kernel_rfl) ⟨⟨E131, ⟨⟨tabok, fns_ok ⟨c45_snd, trivial⟩⟩, mixed⟩, fun p R K => U131 R p.1.2.1 p.2.1 K⟩, trivial⟩
abbrev E132 : Env := ⟨tab, lookH [(84, c84)], { deep := true, nest := [(46, 169)], heads := [(2, { live := [0, 1, 5] })], outs := [(2, { live := [1] })], joins := [(3, { live := [0, 1, 5] }), (9, { live := [0, 1, 5] })], ents := [(3, [0, 1, 5]), (9, [0, 1, 5])] }⟩
def S132_2 (z_ : (Int × Int × (List Timpl_Seg.V))) : St := sT 50 [(0, .ref 0), (1, dI z_.1), (5, dI z_.2.1)] [.row 0 .deep Timpl_Seg z_.2.2]
def O132_2 : (Int × (List Timpl_Seg.V)) → Ex × St := fun a => ((.exit 0), sT 50 [(1, dI a.1)] [.row 0 .deep Timpl_Seg a.2])
def S132_1 (b : Int) (c : Int) (d : (List Timpl_Seg.V)) : St := sT 50 [(0, .ref 0), (1, dI b), (5, dI c)] [.row 0 .deep Timpl_Seg d]
def O132_1 (b : Int) (c : Int) (d : (List Timpl_Seg.V)) : (Int × (List Timpl_Seg.V)) → Ex × St := fun e => (.normal, sT 50 [(0, .ref 0), (1, dI e.1), (5, dI c)] [.row 0 .deep Timpl_Seg e.2])
def S132_0 (c : Int) (g : Int) (i : (List Timpl_Seg.V)) : St := sT 50 [(0, .ref 0), (1, dI g), (5, dI c)] [.row 0 .deep Timpl_Seg i]
def O132_0 (c : Int) (g : Int) (i : (List Timpl_Seg.V)) : (List Timpl_Seg.V) → Ex × St := fun j => (.normal, sT 50 [(0, .ref 0), (1, dI g), (5, dI c)] [.row 0 .deep Timpl_Seg j])
def laws_markSegS_l0 (c : Int) (g : Int) (i : (List Timpl_Seg.V)) : Option (List Timpl_Seg.V) :=
 if (0 : Int) ≤ c ∧ c < (i.length : Int) then
 some (i.set c.toNat ((i.getD c.toNat (Ty.zero Timpl_Seg)).1, (i.getD c.toNat (Ty.zero Timpl_Seg)).2.1, g, (i.getD c.toNat (Ty.zero Timpl_Seg)).2.2.2))
 else none
theorem T132_0 (c : Int) (g : Int) (i : (List Timpl_Seg.V)) : JnOk E132 1 9 (sub (sub (code Tryz.f46) [1, 0, 1, 0, 0]) [1, 0]) [0, 1, 1, 1, 1, 0] (S132_0 c g i) (laws_markSegS_l0 c g i) (O132_0 c g i) := by
  unfold JnOk
  simp only [laws_markSegS_l0, mC, mI, mN, mB, mE, mM]
  kernel_rfl
def laws_markSegS_l1 (b : Int) (c : Int) (d : (List Timpl_Seg.V)) : Option (Int × (List Timpl_Seg.V)) :=
 if (0 : Int) ≤ c ∧ c < (d.length : Int) then
 if (0 : Int) ≤ c ∧ c < ((d.set c.toNat (b, (d.getD c.toNat (Ty.zero Timpl_Seg)).2)).length : Int) then
 (laws_markSegS_l0 c (IntKind.i64.wrap ((IntKind.i64.wrap (b + 1)) + 1)) ((d.set c.toNat (b, (d.getD c.toNat (Ty.zero Timpl_Seg)).2)).set c.toNat (((d.set c.toNat (b, (d.getD c.toNat (Ty.zero Timpl_Seg)).2)).getD c.toNat (Ty.zero Timpl_Seg)).1, (IntKind.i64.wrap (b + 1)), ((d.set c.toNat (b, (d.getD c.toNat (Ty.zero Timpl_Seg)).2)).getD c.toNat (Ty.zero Timpl_Seg)).2.2))).bind fun j =>
 if (0 : Int) ≤ c ∧ c < (j.length : Int) then
 if (0 : Int) ≤ c ∧ c < ((j.set c.toNat ((j.getD c.toNat (Ty.zero Timpl_Seg)).1, (j.getD c.toNat (Ty.zero Timpl_Seg)).2.1, (j.getD c.toNat (Ty.zero Timpl_Seg)).2.2.1, ((IntKind.i64.wrap ((IntKind.i64.wrap ((IntKind.i64.wrap (b + 1)) + 1)) + 1)), (j.getD c.toNat (Ty.zero Timpl_Seg)).2.2.2.1.2), (j.getD c.toNat (Ty.zero Timpl_Seg)).2.2.2.2)).length : Int) then
 (laws_markUint64S (IntKind.i64.wrap ((IntKind.i64.wrap ((IntKind.i64.wrap ((IntKind.i64.wrap (b + 1)) + 1)) + 1)) + 1)) ((j.set c.toNat ((j.getD c.toNat (Ty.zero Timpl_Seg)).1, (j.getD c.toNat (Ty.zero Timpl_Seg)).2.1, (j.getD c.toNat (Ty.zero Timpl_Seg)).2.2.1, ((IntKind.i64.wrap ((IntKind.i64.wrap ((IntKind.i64.wrap (b + 1)) + 1)) + 1)), (j.getD c.toNat (Ty.zero Timpl_Seg)).2.2.2.1.2), (j.getD c.toNat (Ty.zero Timpl_Seg)).2.2.2.2)).getD c.toNat (Ty.zero Timpl_Seg)).2.2.2.1.2.1).bind fun k =>
 some (k.1, ((j.set c.toNat ((j.getD c.toNat (Ty.zero Timpl_Seg)).1, (j.getD c.toNat (Ty.zero Timpl_Seg)).2.1, (j.getD c.toNat (Ty.zero Timpl_Seg)).2.2.1, ((IntKind.i64.wrap ((IntKind.i64.wrap ((IntKind.i64.wrap (b + 1)) + 1)) + 1)), (j.getD c.toNat (Ty.zero Timpl_Seg)).2.2.2.1.2), (j.getD c.toNat (Ty.zero Timpl_Seg)).2.2.2.2)).set c.toNat (((j.set c.toNat ((j.getD c.toNat (Ty.zero Timpl_Seg)).1, (j.getD c.toNat (Ty.zero Timpl_Seg)).2.1, (j.getD c.toNat (Ty.zero Timpl_Seg)).2.2.1, ((IntKind.i64.wrap ((IntKind.i64.wrap ((IntKind.i64.wrap (b + 1)) + 1)) + 1)), (j.getD c.toNat (Ty.zero Timpl_Seg)).2.2.2.1.2), (j.getD c.toNat (Ty.zero Timpl_Seg)).2.2.2.2)).getD c.toNat (Ty.zero Timpl_Seg)).1, ((j.set c.toNat ((j.getD c.toNat (Ty.zero Timpl_Seg)).1, (j.getD c.toNat (Ty.zero Timpl_Seg)).2.1, (j.getD c.toNat (Ty.zero Timpl_Seg)).2.2.1, ((IntKind.i64.wrap ((IntKind.i64.wrap ((IntKind.i64.wrap (b + 1)) + 1)) + 1)), (j.getD c.toNat (Ty.zero Timpl_Seg)).2.2.2.1.2), (j.getD c.toNat (Ty.zero Timpl_Seg)).2.2.2.2)).getD c.toNat (Ty.zero Timpl_Seg)).2.1, ((j.set c.toNat ((j.getD c.toNat (Ty.zero Timpl_Seg)).1, (j.getD c.toNat (Ty.zero Timpl_Seg)).2.1, (j.getD c.toNat (Ty.zero Timpl_Seg)).2.2.1, ((IntKind.i64.wrap ((IntKind.i64.wrap ((IntKind.i64.wrap (b + 1)) + 1)) + 1)), (j.getD c.toNat (Ty.zero Timpl_Seg)).2.2.2.1.2), (j.getD c.toNat (Ty.zero Timpl_Seg)).2.2.2.2)).getD c.toNat (Ty.zero Timpl_Seg)).2.2.1, (((j.set c.toNat ((j.getD c.toNat (Ty.zero Timpl_Seg)).1, (j.getD c.toNat (Ty.zero Timpl_Seg)).2.1, (j.getD c.toNat (Ty.zero Timpl_Seg)).2.2.1, ((IntKind.i64.wrap ((IntKind.i64.wrap ((IntKind.i64.wrap (b + 1)) + 1)) + 1)), (j.getD c.toNat (Ty.zero Timpl_Seg)).2.2.2.1.2), (j.getD c.toNat (Ty.zero Timpl_Seg)).2.2.2.2)).getD c.toNat (Ty.zero Timpl_Seg)).2.2.2.1.1, k.2, ((j.set c.toNat ((j.getD c.toNat (Ty.zero Timpl_Seg)).1, (j.getD c.toNat (Ty.zero Timpl_Seg)).2.1, (j.getD c.toNat (Ty.zero Timpl_Seg)).2.2.1, ((IntKind.i64.wrap ((IntKind.i64.wrap ((IntKind.i64.wrap (b + 1)) + 1)) + 1)), (j.getD c.toNat (Ty.zero Timpl_Seg)).2.2.2.1.2), (j.getD c.toNat (Ty.zero Timpl_Seg)).2.2.2.2)).getD c.toNat (Ty.zero Timpl_Seg)).2.2.2.1.2.2), ((j.set c.toNat ((j.getD c.toNat (Ty.zero Timpl_Seg)).1, (j.getD c.toNat (Ty.zero Timpl_Seg)).2.1, (j.getD c.toNat (Ty.zero Timpl_Seg)).2.2.1, ((IntKind.i64.wrap ((IntKind.i64.wrap ((IntKind.i64.wrap (b + 1)) + 1)) + 1)), (j.getD c.toNat (Ty.zero Timpl_Seg)).2.2.2.1.2), (j.getD c.toNat (Ty.zero Timpl_Seg)).2.2.2.2)).getD c.toNat (Ty.zero Timpl_Seg)).2.2.2.2)))
 else none
 else none
 else none
 else none
theorem T132_1 (b : Int) (c : Int) (d : (List Timpl_Seg.V)) : JnOk E132 1 3 (sub (code Tryz.f46) [1, 0, 1, 0, 0]) [1, 0] (S132_1 b c d) (laws_markSegS_l1 b c d) (O132_1 b c d) := by
  unfold JnOk
  simp only [laws_markSegS_l1, mC, mI, mN, mB, mE, mM]
  simp (disch := refine sI ?_ <;> (repeat' refine sA ?_ ?_) <;> intro _ <;> kernel_rfl) only [jn_ok (T132_0 _ _ _) (K := joinK 1 (E132.jn 3))]
  kernel_rfl
def laws_markSegS_l2_g (b : Int) (c : Int) (d : (List Timpl_Seg.V)) : Option ((Int × Int × (List Timpl_Seg.V)) ⊕ (Int × (List Timpl_Seg.V))) :=
 bif (decide (c < (d.length : Int))) then
 (laws_markSegS_l1 b c d).bind fun e =>
 some (.inl (e.1, (IntKind.i64.wrap (c + 1)), e.2))
 else
 some (.inr (b, d))
def laws_markSegS_l2_r (z_ : (Int × Int × (List Timpl_Seg.V))) := laws_markSegS_l2_g z_.1 z_.2.1 z_.2.2
def laws_markSegS_l2 (b : Int) (c : Int) (d : (List Timpl_Seg.V)) := fix (laws_markSegS_l2_r) (b, c, d)
theorem T132_2 : LpOk E132 1 2 (code Tryz.f46) [1, 0, 1, 0] (S132_2) (laws_markSegS_l2_r) (O132_2) := by
  intro _
  simp only [laws_markSegS_l2_r, laws_markSegS_l2_g, mC, mI, mN, mB, mE, mM]
  simp (disch := refine sI ?_ <;> (repeat' refine sA ?_ ?_) <;> intro _ <;> kernel_rfl) only [jn_ok (T132_1 _ _ _) (K := stepK 1 (E132.hd 2) (E132.ot 2))]
  kernel_rfl
def laws_markSegS (l : Int) (n : (List Timpl_Seg.V)) : Option (Int × (List Timpl_Seg.V)) :=
 (laws_markSegS_l2 l 0 n).bind fun a =>
 some (a.1, a.2)
theorem U132 (R : Type) (l : Int) (n : (List Timpl_Seg.V)) (K : AV → List Blk → Option R) : runF E132 Tryz.f46 R [.ref 0, dI l] [.row 0 .deep Timpl_Seg n] K = (laws_markSegS l n).bind fun r => K (dI r.1) [.row 0 .deep Timpl_Seg r.2] := by
  simp only [laws_markSegS, bC, bI, bN, bE, bA, bS, bO, bM]
  simp (disch := refine sI ?_ <;> (repeat' refine sA ?_ ?_) <;> intro _ <;> kernel_rfl) only [laws_markSegS_l2, lp_ok (T132_2) (K := finK E132 Tryz.f46 1 R K)]
  kernel_rfl
def c46 : Va.Callee := brC [.raw, .d (.int .i64)] [⟨[.k (.ref 0), .dat [] (.int .i64)], [.row 0 .deep Timpl_Seg], (Int × (List Timpl_Seg.V)), fun p => laws_markSegS p.1.2.1 p.2.1, fun r => (dI r.1, [.row 0 .deep Timpl_Seg r.2])⟩]
theorem c46_snd : SoundC Tryz.prog 46 c46 := br_snd (fn := Tryz.f46) (by kernel_rfl) (by kernel_rfl) (by kernel_rfl) ⟨⟨E132, ⟨⟨tabok, fns_ok ⟨c84_snd, trivial⟩⟩, mixed⟩, fun p R K => U132 R p.1.2.1 p.2.1 K⟩, trivial⟩
abbrev E133 : Env := ⟨tab, lookH [(46, c46)], { deep := true, nest := [(16, 135), (23, 135)], heads := [(2, { live := [0, 1, 5] })], outs := [(2, { live := [1] })], joins := [(3, { live := [0, 1, 5] })], ents := [(3, [0, 1, 5])] }⟩
def S133_1 (z_ : (Int × Int × (List Timpl_Claim.V))) : St := sT 27 [(0, .ref 0), (1, dI z_.1), (5, dI z_.2.1)] [.row 71 .deep Timpl_Claim z_.2.2]
def O133_1 : (Int × (List Timpl_Claim.V)) → Ex × St := fun a => ((.exit 0), sT 27 [(1, dI a.1)] [.row 71 .deep Timpl_Claim a.2])
def S133_0 (b : Int) (c : Int) (d : (List Timpl_Claim.V)) : St := sT 27 [(0, .ref 0), (1, dI b), (5, dI c)] [.row 71 .deep Timpl_Claim d]
def O133_0 (b : Int) (c : Int) (d : (List Timpl_Claim.V)) : (Int × (List Timpl_Claim.V)) → Ex × St := fun e => (.normal, sT 27 [(0, .ref 0), (1, dI e.1), (5, dI c)] [.row 71 .deep Timpl_Claim e.2])
def laws_markClaimS_l0 (b : Int) (c : Int) (d : (List Timpl_Claim.V)) : Option (Int × (List Timpl_Claim.V)) :=
 if (0 : Int) ≤ c ∧ c < (d.length : Int) then
 (laws_markSegS b (d.getD c.toNat (Ty.zero Timpl_Claim)).1).bind fun g =>
 if (0 : Int) ≤ c ∧ c < ((d.set c.toNat (g.2, (d.getD c.toNat (Ty.zero Timpl_Claim)).2)).length : Int) then
 (laws_markSegS g.1 ((d.set c.toNat (g.2, (d.getD c.toNat (Ty.zero Timpl_Claim)).2)).getD c.toNat (Ty.zero Timpl_Claim)).2.1).bind fun i =>
 some (i.1, ((d.set c.toNat (g.2, (d.getD c.toNat (Ty.zero Timpl_Claim)).2)).set c.toNat (((d.set c.toNat (g.2, (d.getD c.toNat (Ty.zero Timpl_Claim)).2)).getD c.toNat (Ty.zero Timpl_Claim)).1, i.2, ((d.set c.toNat (g.2, (d.getD c.toNat (Ty.zero Timpl_Claim)).2)).getD c.toNat (Ty.zero Timpl_Claim)).2.2)))
 else none
 else none
theorem T133_0 (b : Int) (c : Int) (d : (List Timpl_Claim.V)) : JnOk E133 1 3 (sub (code Tryz.f20) [1, 0, 1, 0, 0]) [1, 0] (S133_0 b c d) (laws_markClaimS_l0 b c d) (O133_0 b c d) := by
  unfold JnOk
  simp only [laws_markClaimS_l0, mC, mI, mN, mB, mE, mM]
  kernel_rfl
def laws_markClaimS_l1_g (b : Int) (c : Int) (d : (List Timpl_Claim.V)) : Option ((Int × Int × (List Timpl_Claim.V)) ⊕ (Int × (List Timpl_Claim.V))) :=
 bif (decide (c < (d.length : Int))) then
 (laws_markClaimS_l0 b c d).bind fun e =>
 some (.inl (e.1, (IntKind.i64.wrap (c + 1)), e.2))
 else
 some (.inr (b, d))
def laws_markClaimS_l1_r (z_ : (Int × Int × (List Timpl_Claim.V))) := laws_markClaimS_l1_g z_.1 z_.2.1 z_.2.2
def laws_markClaimS_l1 (b : Int) (c : Int) (d : (List Timpl_Claim.V)) := fix (laws_markClaimS_l1_r) (b, c, d)
theorem T133_1 : LpOk E133 1 2 (code Tryz.f20) [1, 0, 1, 0] (S133_1) (laws_markClaimS_l1_r) (O133_1) := by
  intro _
  simp only [laws_markClaimS_l1_r, laws_markClaimS_l1_g, mC, mI, mN, mB, mE, mM]
  simp (disch := refine sI ?_ <;> (repeat' refine sA ?_ ?_) <;> intro _ <;> kernel_rfl) only [jn_ok (T133_0 _ _ _) (K := stepK 1 (E133.hd 2) (E133.ot 2))]
  kernel_rfl
def laws_markClaimS (j : Int) (k : (List Timpl_Claim.V)) : Option (Int × (List Timpl_Claim.V)) :=
 (laws_markClaimS_l1 j 0 k).bind fun a =>
 some (a.1, a.2)
theorem U133 (R : Type) (j : Int) (k : (List Timpl_Claim.V)) (K : AV → List Blk → Option R) : runF E133 Tryz.f20 R [.ref 0, dI j] [.row 71 .deep Timpl_Claim k] K = (laws_markClaimS j k).bind fun r => K (dI r.1) [.row 71 .deep Timpl_Claim r.2] := by
  simp only [laws_markClaimS, bC, bI, bN, bE, bA, bS, bO, bM]
  simp (disch := refine sI ?_ <;> (repeat' refine sA ?_ ?_) <;> intro _ <;> kernel_rfl) only [laws_markClaimS_l1, lp_ok (T133_1) (K := finK E133 Tryz.f20 1 R K)]
  kernel_rfl
def c20 : Va.Callee := brC [.raw, .d (.int .i64)] [⟨[.k (.ref 0), .dat [] (.int .i64)], [.row 71 .deep Timpl_Claim], (Int × (List Timpl_Claim.V)), fun p => laws_markClaimS p.1.2.1 p.2.1, fun r => (dI r.1, [.row 71 .deep Timpl_Claim r.2])⟩]
theorem c20_snd : SoundC Tryz.prog 20 c20 := br_snd (fn := Tryz.f20) (by kernel_rfl) (by kernel_rfl) (by kernel_rfl) ⟨⟨E133, ⟨⟨tabok, fns_ok ⟨c46_snd, trivial⟩⟩, mixed⟩, fun p R K => U133 R p.1.2.1 p.2.1 K⟩, trivial⟩
abbrev E134 : Env := ⟨tab, lookH [], { deep := true, heads := [(2, { live := [0, 1, 5] })], outs := [(2, { live := [1, 4] })] }⟩
def S134_0 (a : (List Int)) (z_ : (Int × Int)) : St := sT 22 [(0, dD (.sl (.int .u64)) a), (1, dI z_.1), (5, dI z_.2)] []
def O134_0 (a : (List Int)) : (Int ⊕ Int) → Ex × St := Sum.elim (fun b => (.ret, sT 22 [(1, dI b), (4, dI (-1))] [])) (fun c => ((.exit 0), sT 22 [(1, dI c)] []))
def laws_heldUint64S_l0_g (a : (List Int)) (d : Int) (e : Int) : Option ((Int × Int) ⊕ (Int ⊕ Int)) :=
 bif (decide (e < (a.length : Int))) then
 if (0 : Int) ≤ e ∧ e < (a.length : Int) then
 bif ((a.getD e.toNat (Ty.zero (.int .u64))) != (IntKind.u64.wrap d)) then
 some (.inr (.inl d))
 else
 some (.inl ((IntKind.i64.wrap (d + 1)), (IntKind.i64.wrap (e + 1))))
 else none
 else
 some (.inr (.inr d))
def laws_heldUint64S_l0_r (a : (List Int)) (z_ : (Int × Int)) := laws_heldUint64S_l0_g a z_.1 z_.2
def laws_heldUint64S_l0 (a : (List Int)) (d : Int) (e : Int) := fix (laws_heldUint64S_l0_r a) (d, e)
theorem T134_0 (a : (List Int)) : LpOk E134 0 2 (code Tryz.f86) [1, 0, 1, 0] (S134_0 a) (laws_heldUint64S_l0_r a) (O134_0 a) := by
  intro _
  simp only [laws_heldUint64S_l0_r, laws_heldUint64S_l0_g, mC, mI, mN, mB, mE, mM]
  kernel_rfl
def laws_heldUint64S (a : (List Int)) (g : Int) : Option Int :=
 (laws_heldUint64S_l0 a g 0).bind (Sum.elim (fun b =>
 some (-1)) (fun c =>
 some c))
theorem U134 (R : Type) (a : (List Int)) (g : Int) (K : AV → List Blk → Option R) : runF E134 Tryz.f86 R [dD (.sl (.int .u64)) a, dI g] [] K = (laws_heldUint64S a g).bind fun r => K (dI r) [] := by
  simp only [laws_heldUint64S, bC, bI, bN, bE, bA, bS, bO, bM]
  simp (disch := refine sI ?_ <;> (repeat' refine sA ?_ ?_) <;> intro _ <;> kernel_rfl) only [laws_heldUint64S_l0, lp_ok (T134_0 _) (K := finK E134 Tryz.f86 0 R K)]
  kernel_rfl
def c86 : Va.Callee := brC [.d (.sl (.int .u64)), .d (.int .i64)] [⟨[.dat [] (.sl (.int .u64)), .dat [] (.int .i64)], [], Int, fun p => laws_heldUint64S p.1.1 p.1.2.1, fun r => (dI r, [])⟩]
theorem c86_snd : SoundC Tryz.prog 86 c86 := br_snd (fn := Tryz.f86) (by kernel_rfl) (by kernel_rfl) (by kernel_rfl) ⟨⟨E134, ⟨⟨tabok, fns_ok trivial⟩, mixed⟩, fun p R K => U134 R p.1.1 p.1.2.1 K⟩, trivial⟩
abbrev E135 : Env := ⟨tab, lookH [(86, c86)], { deep := true, heads := [(2, { live := [0, 1, 5] })], outs := [(2, { live := [1, 4] })] }⟩
def S135_0 (a : (List Timpl_Seg.V)) (z_ : (Int × Int)) : St := sT 60 [(0, dD (.sl Timpl_Seg) a), (1, dI z_.1), (5, dI z_.2)] []
def O135_0 (a : (List Timpl_Seg.V)) : (Int ⊕ Int) → Ex × St := Sum.elim (fun b => (.ret, sT 60 [(1, dI b), (4, dI (-1))] [])) (fun c => ((.exit 0), sT 60 [(1, dI c)] []))
def laws_heldSegS_l0_g (a : (List Timpl_Seg.V)) (d : Int) (e : Int) : Option ((Int × Int) ⊕ (Int ⊕ Int)) :=
 bif (decide (e < (a.length : Int))) then
 if (0 : Int) ≤ e ∧ e < (a.length : Int) then
 bif ((a.getD e.toNat (Ty.zero Timpl_Seg)).1 != d) then
 some (.inr (.inl d))
 else
 if (0 : Int) ≤ e ∧ e < (a.length : Int) then
 bif ((a.getD e.toNat (Ty.zero Timpl_Seg)).2.1 != (IntKind.i64.wrap (d + 1))) then
 some (.inr (.inl (IntKind.i64.wrap (d + 1))))
 else
 if (0 : Int) ≤ e ∧ e < (a.length : Int) then
 bif ((a.getD e.toNat (Ty.zero Timpl_Seg)).2.2.1 != (IntKind.i64.wrap ((IntKind.i64.wrap (d + 1)) + 1))) then
 some (.inr (.inl (IntKind.i64.wrap ((IntKind.i64.wrap (d + 1)) + 1))))
 else
 if (0 : Int) ≤ e ∧ e < (a.length : Int) then
 bif ((a.getD e.toNat (Ty.zero Timpl_Seg)).2.2.2.1.1 != (IntKind.i64.wrap ((IntKind.i64.wrap ((IntKind.i64.wrap (d + 1)) + 1)) + 1))) then
 some (.inr (.inl (IntKind.i64.wrap ((IntKind.i64.wrap ((IntKind.i64.wrap (d + 1)) + 1)) + 1))))
 else
 if (0 : Int) ≤ e ∧ e < (a.length : Int) then
 (laws_heldUint64S (a.getD e.toNat (Ty.zero Timpl_Seg)).2.2.2.1.2.1 (IntKind.i64.wrap ((IntKind.i64.wrap ((IntKind.i64.wrap ((IntKind.i64.wrap (d + 1)) + 1)) + 1)) + 1))).bind fun g =>
 bif (decide (g < 0)) then
 some (.inr (.inl g))
 else
 some (.inl (g, (IntKind.i64.wrap (e + 1))))
 else none
 else none
 else none
 else none
 else none
 else
 some (.inr (.inr d))
def laws_heldSegS_l0_r (a : (List Timpl_Seg.V)) (z_ : (Int × Int)) := laws_heldSegS_l0_g a z_.1 z_.2
def laws_heldSegS_l0 (a : (List Timpl_Seg.V)) (d : Int) (e : Int) := fix (laws_heldSegS_l0_r a) (d, e)
theorem T135_0 (a : (List Timpl_Seg.V)) : LpOk E135 0 2 (code Tryz.f47) [1, 0, 1, 0] (S135_0 a) (laws_heldSegS_l0_r a) (O135_0 a) := by
  intro _
  simp only [laws_heldSegS_l0_r, laws_heldSegS_l0_g, mC, mI, mN, mB, mE, mM]
  kernel_rfl
def laws_heldSegS (a : (List Timpl_Seg.V)) (i : Int) : Option Int :=
 (laws_heldSegS_l0 a i 0).bind (Sum.elim (fun b =>
 some (-1)) (fun c =>
 some c))
theorem U135 (R : Type) (a : (List Timpl_Seg.V)) (i : Int) (K : AV → List Blk → Option R) : runF E135 Tryz.f47 R [dD (.sl Timpl_Seg) a, dI i] [] K = (laws_heldSegS a i).bind fun r => K (dI r) [] := by
  simp only [laws_heldSegS, bC, bI, bN, bE, bA, bS, bO, bM]
  simp (disch := refine sI ?_ <;> (repeat' refine sA ?_ ?_) <;> intro _ <;> kernel_rfl) only [laws_heldSegS_l0, lp_ok (T135_0 _) (K := finK E135 Tryz.f47 0 R K)]
  kernel_rfl
def c47 : Va.Callee := brC [.d (.sl Timpl_Seg), .d (.int .i64)] [⟨[.dat [] (.sl Timpl_Seg), .dat [] (.int .i64)], [], Int, fun p => laws_heldSegS p.1.1 p.1.2.1, fun r => (dI r, [])⟩]
theorem c47_snd : SoundC Tryz.prog 47 c47 := br_snd (fn := Tryz.f47) (by kernel_rfl) (by kernel_rfl) (by kernel_rfl) ⟨⟨E135, ⟨⟨tabok, fns_ok ⟨c86_snd, trivial⟩⟩, mixed⟩, fun p R K => U135 R p.1.1 p.1.2.1 K⟩, trivial⟩
abbrev E136 : Env := ⟨tab, lookH [(47, c47)], { deep := true, heads := [(2, { live := [0, 1, 5] })], outs := [(2, { live := [1, 4] })] }⟩
def S136_0 (a : (List Timpl_Claim.V)) (z_ : (Int × Int)) : St := sT 31 [(0, dD (.sl Timpl_Claim) a), (1, dI z_.1), (5, dI z_.2)] []
def O136_0 (a : (List Timpl_Claim.V)) : (Int ⊕ Int) → Ex × St := Sum.elim (fun b => (.ret, sT 31 [(1, dI b), (4, dI (-1))] [])) (fun c => ((.exit 0), sT 31 [(1, dI c)] []))
def laws_heldClaimS_l0_g (a : (List Timpl_Claim.V)) (d : Int) (e : Int) : Option ((Int × Int) ⊕ (Int ⊕ Int)) :=
 bif (decide (e < (a.length : Int))) then
 if (0 : Int) ≤ e ∧ e < (a.length : Int) then
 (laws_heldSegS (a.getD e.toNat (Ty.zero Timpl_Claim)).1 d).bind fun g =>
 bif (decide (g < 0)) then
 some (.inr (.inl g))
 else
 if (0 : Int) ≤ e ∧ e < (a.length : Int) then
 (laws_heldSegS (a.getD e.toNat (Ty.zero Timpl_Claim)).2.1 g).bind fun i =>
 bif (decide (i < 0)) then
 some (.inr (.inl i))
 else
 some (.inl (i, (IntKind.i64.wrap (e + 1))))
 else none
 else none
 else
 some (.inr (.inr d))
def laws_heldClaimS_l0_r (a : (List Timpl_Claim.V)) (z_ : (Int × Int)) := laws_heldClaimS_l0_g a z_.1 z_.2
def laws_heldClaimS_l0 (a : (List Timpl_Claim.V)) (d : Int) (e : Int) := fix (laws_heldClaimS_l0_r a) (d, e)
theorem T136_0 (a : (List Timpl_Claim.V)) : LpOk E136 0 2 (code Tryz.f21) [1, 0, 1, 0] (S136_0 a) (laws_heldClaimS_l0_r a) (O136_0 a) := by
  intro _
  simp only [laws_heldClaimS_l0_r, laws_heldClaimS_l0_g, mC, mI, mN, mB, mE, mM]
  kernel_rfl
def laws_heldClaimS (a : (List Timpl_Claim.V)) (j : Int) : Option Int :=
 (laws_heldClaimS_l0 a j 0).bind (Sum.elim (fun b =>
 some (-1)) (fun c =>
 some c))
theorem U136 (R : Type) (a : (List Timpl_Claim.V)) (j : Int) (K : AV → List Blk → Option R) : runF E136 Tryz.f21 R [dD (.sl Timpl_Claim) a, dI j] [] K = (laws_heldClaimS a j).bind fun r => K (dI r) [] := by
  simp only [laws_heldClaimS, bC, bI, bN, bE, bA, bS, bO, bM]
  simp (disch := refine sI ?_ <;> (repeat' refine sA ?_ ?_) <;> intro _ <;> kernel_rfl) only [laws_heldClaimS_l0, lp_ok (T136_0 _) (K := finK E136 Tryz.f21 0 R K)]
  kernel_rfl
def c21 : Va.Callee := brC [.d (.sl Timpl_Claim), .d (.int .i64)] [⟨[.dat [] (.sl Timpl_Claim), .dat [] (.int .i64)], [], Int, fun p => laws_heldClaimS p.1.1 p.1.2.1, fun r => (dI r, [])⟩]
theorem c21_snd : SoundC Tryz.prog 21 c21 := br_snd (fn := Tryz.f21) (by kernel_rfl) (by kernel_rfl) (by kernel_rfl) ⟨⟨E136, ⟨⟨tabok, fns_ok ⟨c47_snd, trivial⟩⟩, mixed⟩, fun p R K => U136 R p.1.1 p.1.2.1 K⟩, trivial⟩
end
end Go.Proofs.X
namespace Go.Proofs.X
open Go Go.Va
set_option maxRecDepth 100000
noncomputable section
abbrev E137 : Env := ⟨tab, lookH [(5, c5), (6, c6), (7, c7), (8, c8), (9, c9), (10, c10), (11, c11), (12, c12), (13, c13), (14, c14), (15, c15), (16, c16), (17, c17), (18, c18), (19, c19), (20, c20), (21, c21)], { deep := true, joins := [(17, { live := [0, 1, 2, 8, 9, 10, 11, 12, 13, 14, 15, 16, 76], frz := [(8, false, (.sl Timpl_Claim))] }), (29, { live := [0, 1, 2, 8, 9, 10, 14, 118] }), (40, { live := [14, 18, 154], frz := [(14, false, (.sl Timpl_Claim))] })], ents := [(17, [0, 1, 2, 8, 9, 10, 11, 12, 13, 14, 15, 16]), (29, [0, 1, 2, 8, 9, 10, 14, 15, 16, 17]), (40, [8, 9, 10, 14, 18, 20, 21, 22])], frzd := [(40, (.sl Timpl_Decl)), (42, (.sl Timpl_Literal)), (44, (.sl Timpl_PStep)), (79, (.sl Timpl_Decl)), (84, (.sl Timpl_Literal)), (89, (.sl Timpl_PStep)), (132, (.sl Timpl_Decl)), (134, (.sl Timpl_Literal)), (136, (.sl Timpl_PStep))] }⟩
def S137_2 (a : (List Timpl_Claim.V)) (b : Int) (c : Int) (d : Int) (e : Int) (g : Int) (i : (List Timpl_Claim.V)) (j : (List Timpl_Claim.V)) : St := sT 163 [(8, dD (.sl Timpl_Claim) a), (9, dI b), (10, dI c), (14, .ref 0), (18, dI d), (20, .ref 1), (21, dI e), (22, dI g)] [.row 71 .deep Timpl_Claim i, .row 71 .deep Timpl_Claim j]
def O137_2 (a : (List Timpl_Claim.V)) (b : Int) (c : Int) (d : Int) (e : Int) (g : Int) (i : (List Timpl_Claim.V)) (j : (List Timpl_Claim.V)) : Bool → Ex × St := fun k => (.normal, sT 163 [(14, dD (.sl Timpl_Claim) i), (18, dI d), (154, dB k)] [])
def laws_FnExactConclude_l2 (a : (List Timpl_Claim.V)) (b : Int) (c : Int) (d : Int) (e : Int) (g : Int) (i : (List Timpl_Claim.V)) (j : (List Timpl_Claim.V)) : Option Bool :=
 (laws_eqClaimS j a).bind fun l =>
 bif (!l) then
 some true
 else
 bif (e != b) then
 some true
 else
 some (g != c)
theorem T137_2 (a : (List Timpl_Claim.V)) (b : Int) (c : Int) (d : Int) (e : Int) (g : Int) (i : (List Timpl_Claim.V)) (j : (List Timpl_Claim.V)) : JnOk E137 0 40 (code Tryz.f3) [1, 1, 1, 1, 1, 1, 1, 1, 1, 1, 1, 1, 1, 1, 1, 1, 1, 1, 1, 1, 1, 1, 1, 1, 1, 1, 1, 1, 1, 0, 0] (S137_2 a b c d e g i j) (laws_FnExactConclude_l2 a b c d e g i j) (O137_2 a b c d e g i j) := by
  unfold JnOk
  simp only [laws_FnExactConclude_l2, mC, mI, mN, mB, mE, mM]
  kernel_rfl
def S137_1 (n : (List Timpl_Decl.V)) (o : (List Timpl_Literal.V)) (q : (List Timpl_PStep.V)) (s : (List Timpl_Claim.V)) (t : Int) (u : Int) (v : Int) (w : Int) (x : Int) (y : (List Timpl_Claim.V)) : St := sT 163 [(0, dD (.sl Timpl_Decl) n), (1, dD (.sl Timpl_Literal) o), (2, dD (.sl Timpl_PStep) q), (8, dD (.sl Timpl_Claim) s), (9, dI t), (10, dI u), (14, .ref 0), (15, dI v), (16, dI w), (17, dI x)] [.row 71 .deep Timpl_Claim y]
def O137_1 (n : (List Timpl_Decl.V)) (o : (List Timpl_Literal.V)) (q : (List Timpl_PStep.V)) (s : (List Timpl_Claim.V)) (t : Int) (u : Int) (v : Int) (w : Int) (x : Int) (y : (List Timpl_Claim.V)) : Bool → Ex × St := fun a1 => (.normal, sT 163 [(0, dD (.sl Timpl_Decl) n), (1, dD (.sl Timpl_Literal) o), (2, dD (.sl Timpl_PStep) q), (8, dD (.sl Timpl_Claim) s), (9, dI t), (10, dI u), (14, .ref 0), (118, dB a1)] [.row 71 .deep Timpl_Claim y])
def laws_FnExactConclude_l1 (n : (List Timpl_Decl.V)) (o : (List Timpl_Literal.V)) (q : (List Timpl_PStep.V)) (s : (List Timpl_Claim.V)) (t : Int) (u : Int) (v : Int) (w : Int) (x : Int) (y : (List Timpl_Claim.V)) : Option Bool :=
 bif (decide (x < 0)) then
 some true
 else
 (laws_eqClaimS y s).bind fun b1 =>
 bif (!b1) then
 some true
 else
 bif (v != t) then
 some true
 else
 some (w != u)
theorem T137_1 (n : (List Timpl_Decl.V)) (o : (List Timpl_Literal.V)) (q : (List Timpl_PStep.V)) (s : (List Timpl_Claim.V)) (t : Int) (u : Int) (v : Int) (w : Int) (x : Int) (y : (List Timpl_Claim.V)) : JnOk E137 0 29 (code Tryz.f3) [1, 1, 1, 1, 1, 1, 1, 1, 1, 1, 1, 1, 1, 1, 1, 1, 1, 1, 1, 1, 1, 0, 0] (S137_1 n o q s t u v w x y) (laws_FnExactConclude_l1 n o q s t u v w x y) (O137_1 n o q s t u v w x y) := by
  unfold JnOk
  simp only [laws_FnExactConclude_l1, mC, mI, mN, mB, mE, mM]
  kernel_rfl
def S137_0 (n : (List Timpl_Decl.V)) (o : (List Timpl_Literal.V)) (q : (List Timpl_PStep.V)) (c1 : (List Timpl_Decl.V)) (d1 : (List Timpl_Literal.V)) (e1 : (List Timpl_PStep.V)) (g1 : Int) (i1 : Int) (j1 : Int) (k1 : Int) (l1 : (List Timpl_Claim.V)) (n1 : (List Timpl_Claim.V)) : St := sT 163 [(0, dD (.sl Timpl_Decl) n), (1, dD (.sl Timpl_Literal) o), (2, dD (.sl Timpl_PStep) q), (8, .ref 0), (9, dI g1), (10, dI i1), (11, .ref 1), (12, .ref 2), (13, .ref 3), (14, .ref 4), (15, dI j1), (16, dI k1)] [.row 71 .deep Timpl_Claim l1, .row 79 .deep Timpl_Decl c1, .row 82 .deep Timpl_Literal d1, .row 78 .deep Timpl_PStep e1, .row 71 .deep Timpl_Claim n1]
def O137_0 (n : (List Timpl_Decl.V)) (o : (List Timpl_Literal.V)) (q : (List Timpl_PStep.V)) (c1 : (List Timpl_Decl.V)) (d1 : (List Timpl_Literal.V)) (e1 : (List Timpl_PStep.V)) (g1 : Int) (i1 : Int) (j1 : Int) (k1 : Int) (l1 : (List Timpl_Claim.V)) (n1 : (List Timpl_Claim.V)) : Bool → Ex × St := fun o1 => (.normal, sT 163 [(0, dD (.sl Timpl_Decl) n), (1, dD (.sl Timpl_Literal) o), (2, dD (.sl Timpl_PStep) q), (8, dD (.sl Timpl_Claim) l1), (9, dI g1), (10, dI i1), (11, .ref 0), (12, .ref 1), (13, .ref 2), (14, .ref 3), (15, dI j1), (16, dI k1), (76, dB o1)] [.row 79 .deep Timpl_Decl c1, .row 82 .deep Timpl_Literal d1, .row 78 .deep Timpl_PStep e1, .row 71 .deep Timpl_Claim n1])
def laws_FnExactConclude_l0 (n : (List Timpl_Decl.V)) (o : (List Timpl_Literal.V)) (q : (List Timpl_PStep.V)) (c1 : (List Timpl_Decl.V)) (d1 : (List Timpl_Literal.V)) (e1 : (List Timpl_PStep.V)) (g1 : Int) (i1 : Int) (j1 : Int) (k1 : Int) (l1 : (List Timpl_Claim.V)) (n1 : (List Timpl_Claim.V)) : Option Bool :=
 (laws_eqClaimS n1 l1).bind fun q1 =>
 bif (!q1) then
 some true
 else
 bif (j1 != g1) then
 some true
 else
 some (k1 != i1)
theorem T137_0 (n : (List Timpl_Decl.V)) (o : (List Timpl_Literal.V)) (q : (List Timpl_PStep.V)) (c1 : (List Timpl_Decl.V)) (d1 : (List Timpl_Literal.V)) (e1 : (List Timpl_PStep.V)) (g1 : Int) (i1 : Int) (j1 : Int) (k1 : Int) (l1 : (List Timpl_Claim.V)) (n1 : (List Timpl_Claim.V)) : JnOk E137 0 17 (code Tryz.f3) [1, 1, 1, 1, 1, 1, 1, 1, 1, 1, 1, 1, 1, 0, 0] (S137_0 n o q c1 d1 e1 g1 i1 j1 k1 l1 n1) (laws_FnExactConclude_l0 n o q c1 d1 e1 g1 i1 j1 k1 l1 n1) (O137_0 n o q c1 d1 e1 g1 i1 j1 k1 l1 n1) := by
  unfold JnOk
  simp only [laws_FnExactConclude_l0, mC, mI, mN, mB, mE, mM]
  kernel_rfl
def laws_FnExactConclude (n : (List Timpl_Decl.V)) (o : (List Timpl_Literal.V)) (q : (List Timpl_PStep.V)) : Option Bool :=
 (laws_szDeclS n 1048576).bind fun s1 =>
 bif (decide (s1 < 0)) then
 some true
 else
 (laws_szLiteralS o s1).bind fun t1 =>
 bif (decide (t1 < 0)) then
 some true
 else
 (laws_szPStepS q t1).bind fun u1 =>
 bif (decide (u1 < 0)) then
 some true
 else
 (laws_toDeclS n).bind fun v1 =>
 (laws_toLiteralS o).bind fun w1 =>
 (laws_toPStepS q).bind fun x1 =>
 (spec_Conclude v1 w1 x1).bind fun y1 =>
 (laws_toDeclS n).bind fun c1 =>
 (laws_toLiteralS o).bind fun d1 =>
 (laws_toPStepS q).bind fun e1 =>
 (impl_Conclude c1 d1 e1).bind fun a2 =>
 (laws_FnExactConclude_l0 n o q c1 d1 e1 y1.1 y1.2.1 a2.1 a2.2.1 y1.2.2 a2.2.2).bind fun o1 =>
 bif o1 then
 some false
 else
 (laws_toDeclS n).bind fun b2 =>
 (laws_eqDeclS c1 b2).bind fun c2 =>
 bif (!c2) then
 some false
 else
 (laws_toLiteralS o).bind fun d2 =>
 (laws_eqLiteralS d1 d2).bind fun e2 =>
 bif (!e2) then
 some false
 else
 (laws_toPStepS q).bind fun g2 =>
 (laws_eqPStepS e1 g2).bind fun i2 =>
 bif (!i2) then
 some false
 else
 (laws_markDeclS 1 c1).bind fun j2 =>
 (laws_markLiteralS j2.1 d1).bind fun k2 =>
 (laws_markPStepS k2.1 e1).bind fun l2 =>
 (laws_FnExactConclude_l1 n o q y1.2.2 y1.1 y1.2.1 a2.1 a2.2.1 l2.1 a2.2.2).bind fun a1 =>
 bif a1 then
 some false
 else
 (laws_markClaimS 1 a2.2.2).bind fun n2 =>
 (laws_heldClaimS n2.2 1).bind fun o2 =>
 bif (decide (o2 < 0)) then
 some false
 else
 bif (o2 != n2.1) then
 some false
 else
 (laws_toDeclS n).bind fun q2 =>
 (laws_toLiteralS o).bind fun s2 =>
 (laws_toPStepS q).bind fun t2 =>
 (impl_Conclude q2 s2 t2).bind fun u2 =>
 (laws_FnExactConclude_l2 y1.2.2 y1.1 y1.2.1 n2.1 u2.1 u2.2.1 n2.2 u2.2.2).bind fun k =>
 bif k then
 some false
 else
 (laws_heldClaimS n2.2 1).bind fun v2 =>
 bif (decide (v2 < 0)) then
 some false
 else
 bif (v2 != n2.1) then
 some false
 else
 some true
theorem laws_FnExactConclude_run (R : Type) (n : (List Timpl_Decl.V)) (o : (List Timpl_Literal.V)) (q : (List Timpl_PStep.V)) (K : AV → List Blk → Option R) : runF E137 Tryz.f3 R [dD (.sl Timpl_Decl) n, dD (.sl Timpl_Literal) o, dD (.sl Timpl_PStep) q] [] K = (laws_FnExactConclude n o q).bind fun r => K (dB r) [] := by
  simp only [laws_FnExactConclude, bC, bI, bN, bE, bA, bS, bO, bM]
  simp (disch := refine sI ?_ <;> (repeat' refine sA ?_ ?_) <;> intro _ <;> kernel_rfl) only [jn_ok (T137_0 _ _ _ _ _ _ _ _ _ _ _ _) (K := finK E137 Tryz.f3 0 R K), jn_ok (T137_1 _ _ _ _ _ _ _ _ _ _) (K := finK E137 Tryz.f3 0 R K), jn_ok (T137_2 _ _ _ _ _ _ _ _) (K := finK E137 Tryz.f3 0 R K)]
  kernel_rfl
theorem laws_FnExactConclude_ok : ProgOk Tryz.prog E137 := ⟨⟨tabok, fns_ok ⟨c5_snd, c6_snd, c7_snd, c8_snd, c9_snd, c10_snd, c11_snd, c12_snd, c13_snd, c14_snd, c15_snd, c16_snd, c17_snd, c18_snd, c19_snd, c20_snd, c21_snd, trivial⟩⟩, mixed⟩
end
end Go.Proofs.X
namespace Go.Va
def Ret {A : Type} (x : Option A) (Q : A → Prop) : Prop := ∃ a, x = some a ∧ Q a
section
variable {A B S T : Type} {x y : Option A} {P Q : A → Prop}
theorem Ret.mk {a : A} (h : Q a) : Ret (some a) Q := ⟨a, rfl, h⟩
theorem Ret.of {a : A} (h : x = some a) (hq : Q a) : Ret x Q := ⟨a, h, hq⟩
theorem Ret.eq_ {a : A} (h : Ret x (· = a)) : x = some a := by obtain ⟨b, h1, h2⟩ := h; rw [h1, h2]
theorem Ret.mono (h : Ret x P) (hq : ∀ a, P a → Q a) : Ret x Q := by obtain ⟨a, h1, h2⟩ := h; exact ⟨a, h1, hq a h2⟩
theorem Ret.bind {R : B → Prop} {f : A → Option B} (h : Ret x P) (k : ∀ a, P a → Ret (f a) R) : Ret (x.bind f) R := by
  obtain ⟨a, h1, h2⟩ := h
  rw [h1]; exact k a h2
theorem Ret.cond {c : Bool} (h1 : c = true → Ret x Q) (h2 : c = false → Ret y Q) : Ret (bif c then x else y) Q := by
  cases c
  · exact h2 rfl
  · exact h1 rfl
theorem Ret.ite {c : Prop} [Decidable c] (hc : c) (h : Ret x Q) : Ret (if c then x else none) Q := by rw [if_pos hc]; exact h
theorem Ret.iteN {c : Prop} [Decidable c] (hc : ¬ c) (h : Ret x Q) : Ret (if c then none else x) Q := by rw [if_neg hc]; exact h
theorem Ret.elim {R : B → Prop} {C D : Type} {f : C → Option B} {g : D → Option B} {z : C ⊕ D} (h1 : ∀ c, z = .inl c → Ret (f c) R) (h2 : ∀ d, z = .inr d → Ret (g d) R) : Ret (Sum.elim f g z) R := by
  cases z with
  | inl c => exact h1 c rfl
  | inr d => exact h2 d rfl
theorem fix_rule {f : S → Option (S ⊕ T)} (I : Nat → S → Prop) {Q : T → Prop} (step : ∀ n s, I n s → Ret (f s) fun r => match r with | .inl s' => ∃ m, m < n ∧ I m s' | .inr t => Q t) : ∀ n s, I n s → Ret (fix f s) Q := by
  intro n
  induction n using Nat.strongRecOn with
  | _ n ih =>
    intro s hI
    obtain ⟨r, h1, h2⟩ := step n s hI
    cases r with
    | inl s' =>
      obtain ⟨m, hm, hI'⟩ := h2
      rw [fix_more h1]
      exact ih m hm s' hI'
    | inr t => exact ⟨t, fix_done h1, h2⟩
theorem fix_seq {f : S → Option (S ⊕ T)} (st : Nat → S) {t : T} : ∀ (n k : Nat), (∀ i, k ≤ i → i < k + n → f (st i) = some (.inl (st (i + 1)))) → f (st (k + n)) = some (.inr t) → fix f (st k) = some t
  | 0, k, _, he => fix_done he
  | n + 1, k, hs, he => by
    rw [fix_more (hs k (Nat.le_refl _) (by omega))]
    exact fix_seq st n (k + 1) (fun i h1 h2 => hs i (by omega) (by omega)) (by rw [show k + 1 + n = k + (n + 1) by omega]; exact he)
theorem fix_seq0 {f : S → Option (S ⊕ T)} (st : Nat → S) {t : T} (n : Nat) (hs : ∀ i, i < n → f (st i) = some (.inl (st (i + 1)))) (he : f (st n) = some (.inr t)) : fix f (st 0) = some t :=
  fix_seq st n 0 (fun i _ h => hs i (by omega)) (by rw [Nat.zero_add]; exact he)
end
theorem wrap64 {x : Int} (h1 : -9223372036854775808 ≤ x) (h2 : x < 9223372036854775808) : IntKind.i64.wrap x = x := by
  simp only [IntKind.wrap, IntKind.bits, IntKind.signed]
  simp
  omega
theorem wrapU64 {x : Int} (h1 : 0 ≤ x) (h2 : x < 18446744073709551616) : IntKind.u64.wrap x = x := by
  simp only [IntKind.wrap, IntKind.bits, IntKind.signed]
  simp
  omega
theorem wrapU8 {x : Int} (h1 : 0 ≤ x) (h2 : x < 256) : IntKind.u8.wrap x = x := by
  simp only [IntKind.wrap, IntKind.bits, IntKind.signed]
  simp
  omega
theorem wrap_succ {k : Nat} {n : Nat} (hk : k < n) (hn : n ≤ maxLen) : IntKind.i64.wrap ((k : Int) + 1) = ((k + 1 : Nat) : Int) := by
  unfold maxLen at hn
  rw [wrap64 (by omega) (by omega)]; omega
def EqOk {A : Type} (F : A → A → Option Bool) (a : A) : Prop := ∀ b, Ret (F a b) fun r => r = true ↔ a = b
theorem fix_eqs {A : Type} {F : A → A → Option Bool} {z : A} {a b : List A} (hl : a.length = b.length) (hn : a.length ≤ maxLen) (hF : ∀ x ∈ a, EqOk F x) {f : Int → Option (Int ⊕ (Unit ⊕ Unit))}
    (hs : ∀ k : Nat, k < a.length → f (k : Int) = (F (a.getD k z) (b.getD k z)).bind fun r => bif !r then some (.inr (.inl ())) else some (.inl (IntKind.i64.wrap ((k : Int) + 1)))) (he : f (a.length : Int) = some (.inr (.inr ()))) :
    Ret (fix f 0) fun t => (t = .inr () ∧ a = b) ∨ (t = .inl () ∧ a ≠ b) := by
  refine fix_rule (fun m (i : Int) => ∃ k : Nat, i = (k : Int) ∧ k ≤ a.length ∧ m = a.length - k ∧ a.take k = b.take k) (fun m i hI => ?_) (a.length) 0 ⟨0, rfl, Nat.zero_le _, rfl, rfl⟩
  obtain ⟨k, rfl, hk, rfl, ht⟩ := hI
  rcases Nat.lt_or_ge k a.length with h | h
  · rw [hs k h]
    have ha : a.getD k z = a[k] := by simp [List.getD, h]
    have hb : b.getD k z = b[k]'(by omega) := by simp [List.getD, show k < b.length by omega]
    refine Ret.bind (hF (a.getD k z) (by rw [ha]; exact List.getElem_mem h) (b.getD k z)) fun r hr => ?_
    cases r with
    | false =>
      refine Ret.mk (.inr ⟨rfl, fun e => ?_⟩)
      have : a.getD k z = b.getD k z := by rw [e]
      have := hr.2 this
      cases this
    | true =>
      have e := hr.1 rfl
      refine Ret.mk ⟨a.length - (k + 1), by omega, k + 1, wrap_succ h hn, h, rfl, ?_⟩
      rw [List.take_succ_eq_append_getElem h, List.take_succ_eq_append_getElem (show k < b.length by omega), ht, ← ha, ← hb, e]
  · have hk' : k = a.length := by omega
    subst hk'
    rw [he]
    refine Ret.mk (.inl ⟨rfl, ?_⟩)
    rw [List.take_of_length_le (Nat.le_refl _), List.take_of_length_le (by omega)] at ht
    exact ht
end Go.Va
namespace Go.Va
theorem dlt {k n : Nat} (h : k < n) : decide ((k : Int) < (n : Int)) = true := by simp; exact h
theorem dge (n : Nat) : decide ((n : Int) < (n : Int)) = false := by simp
theorem rng {k n : Nat} (h : k < n) : (0 : Int) ≤ (k : Int) ∧ (k : Int) < (n : Int) := ⟨by omega, by omega⟩
theorem eqS_ok {A : Type} {F : A → A → Option Bool} {z : A} {G : List A → List A → Option Bool} {r : List A → List A → Int → Option (Int ⊕ (Unit ⊕ Unit))}
    (hG : ∀ a b, G a b = bif ((a.length : Int) != (b.length : Int)) then some false else (fix (r a b) 0).bind (Sum.elim (fun _ => some false) fun _ => some true))
    (hr : ∀ a b i, r a b i = bif decide (i < (a.length : Int)) then (if (0 : Int) ≤ i ∧ i < (a.length : Int) then (if (0 : Int) ≤ i ∧ i < (b.length : Int) then
      (F (a.getD i.toNat z) (b.getD i.toNat z)).bind fun q => bif !q then some (.inr (.inl ())) else some (.inl (IntKind.i64.wrap (i + 1))) else none) else none) else some (.inr (.inr ())))
    {a : List A} (hn : a.length ≤ maxLen) (hF : ∀ x ∈ a, EqOk F x) : EqOk G a := by
  intro b
  rw [hG]
  refine Ret.cond (fun h => Ret.mk ⟨fun h => by (cases h), fun e => ?_⟩) fun h => ?_
  · subst e; simp at h
  · have hl : a.length = b.length := by
      have : (a.length : Int) = (b.length : Int) := by simpa using h
      omega
    refine Ret.bind (fix_eqs (z := z) hl hn hF (fun k hk => ?_) ?_) fun t ht => ?_
    · rw [hr, dlt hk, cond_true, if_pos (rng hk), if_pos (rng (by omega))]
      rfl
    · rw [hr, dge, cond_false]
    · rcases ht with ⟨rfl, e⟩ | ⟨rfl, e⟩
      · exact Ret.mk ⟨fun _ => e, fun _ => rfl⟩
      · exact Ret.mk ⟨fun h => by (cases h), fun h => (e h).elim⟩
end Go.Va
namespace Go.Proofs.X
open Go Go.Va
set_option maxRecDepth 100000
theorem strEq_iff (s t : ByteArray) : strEq s t = true ↔ s = t := by
  unfold strEq
  rw [ByteArray.toList_eq, ByteArray.toList_eq, beq_iff_eq]
  constructor
  · intro h
    cases s with
    | mk a => cases t with
      | mk b => simp at h; rw [h]
  · rintro rfl; rfl
theorem eqUint64S_ok {a : List Int} (hn : a.length ≤ maxLen) : EqOk laws_eqUint64S a :=
  eqS_ok (F := fun x y => some (x == y)) (z := Ty.zero (.int .u64)) (r := laws_eqUint64S_l0_r) (fun _ _ => rfl) (fun _ _ _ => rfl) hn fun x _ y => Ret.mk (by simp)
theorem eqInt64S_ok {a : List Int} (hn : a.length ≤ maxLen) : EqOk laws_eqInt64S a :=
  eqS_ok (F := fun x y => some (x == y)) (z := Ty.zero (.int .i64)) (r := laws_eqInt64S_l0_r) (fun _ _ => rfl) (fun _ _ _ => rfl) hn fun x _ y => Ret.mk (by simp)
theorem eqBits_ok {a : Timpl_Bits.V} (h : Ty.Wf Timpl_Bits a) : EqOk laws_eqBits a := by
  intro b
  obtain ⟨w, ws, _⟩ := a
  obtain ⟨w', ws', _⟩ := b
  unfold laws_eqBits
  refine Ret.cond (fun h1 => Ret.mk (by simp at h1; simp [h1])) fun h1 => Ret.bind (eqUint64S_ok h.2.1.1 ws') fun r hr => Ret.cond (fun h2 => Ret.mk (by simp at h1 h2; simp_all)) fun h2 => Ret.mk (by simp at h1 h2; simp_all)
theorem eqSeg_ok {a : Timpl_Seg.V} (h : Ty.Wf Timpl_Seg a) : EqOk laws_eqSeg a := by
  intro b
  obtain ⟨v, l, w, x, _⟩ := a
  obtain ⟨v', l', w', x', _⟩ := b
  unfold laws_eqSeg
  refine Ret.cond (fun h1 => Ret.mk (by simp at h1; simp [h1])) fun h1 => Ret.cond (fun h2 => Ret.mk (by simp at h1 h2; simp [h2])) fun h2 => Ret.cond (fun h3 => Ret.mk (by simp at h1 h3; simp [h3])) fun h3 =>
    Ret.bind (eqBits_ok h.2.2.2.1 x') fun r hr => Ret.cond (fun h4 => Ret.mk (by simp at h1 h2 h3 h4; simp_all)) fun h4 => Ret.mk (by simp at h1 h2 h3 h4; simp_all)
theorem eqSegS_ok {a : List Timpl_Seg.V} (h : Ty.Wf (.sl Timpl_Seg) a) : EqOk laws_eqSegS a :=
  eqS_ok (F := laws_eqSeg) (z := Ty.zero Timpl_Seg) (r := laws_eqSegS_l0_r) (fun _ _ => rfl) (fun _ _ _ => rfl) h.1 fun x hx => eqSeg_ok (h.2 x hx)
theorem eqClaim_ok {a : Timpl_Claim.V} (h : Ty.Wf Timpl_Claim a) : EqOk laws_eqClaim a := by
  intro b
  obtain ⟨v, l, _⟩ := a
  obtain ⟨v', l', _⟩ := b
  unfold laws_eqClaim
  refine Ret.bind (eqSegS_ok h.1 v') fun r1 hr1 => Ret.cond (fun h1 => Ret.mk (by simp at h1; simp_all)) fun h1 => Ret.bind (eqSegS_ok h.2.1 l') fun r hr => Ret.cond (fun h4 => Ret.mk (by simp at h1 h4; simp_all)) fun h4 => Ret.mk (by simp at h1 h4; simp_all)
theorem eqClaimS_ok {a : List Timpl_Claim.V} (h : Ty.Wf (.sl Timpl_Claim) a) : EqOk laws_eqClaimS a :=
  eqS_ok (F := laws_eqClaim) (z := Ty.zero Timpl_Claim) (r := laws_eqClaimS_l0_r) (fun _ _ => rfl) (fun _ _ _ => rfl) h.1 fun x hx => eqClaim_ok (h.2 x hx)
theorem eqDecl_ok (a : Timpl_Decl.V) : EqOk (fun x y => some (laws_eqDecl x y)) a := by
  intro b
  obtain ⟨n, w, _⟩ := a
  obtain ⟨n', w', _⟩ := b
  refine Ret.mk ?_
  simp [laws_eqDecl, strEq_iff]
theorem eqDeclS_ok {a : List Timpl_Decl.V} (h : Ty.Wf (.sl Timpl_Decl) a) : EqOk laws_eqDeclS a :=
  eqS_ok (F := fun x y => some (laws_eqDecl x y)) (z := Ty.zero Timpl_Decl) (r := laws_eqDeclS_l0_r) (fun _ _ => rfl) (fun _ _ _ => rfl) h.1 fun x hx => eqDecl_ok x
theorem eqTNode_ok {a : Timpl_TNode.V} (h : Ty.Wf Timpl_TNode a) : EqOk laws_eqTNode a := by
  intro b
  obtain ⟨o, v, A, B, x, k, _⟩ := a
  obtain ⟨o', v', A', B', x', k', _⟩ := b
  unfold laws_eqTNode
  refine Ret.cond (fun h1 => Ret.mk (by simp at h1; simp [h1])) fun h1 => Ret.cond (fun h2 => Ret.mk (by simp at h1 h2; simp [h2])) fun h2 => Ret.cond (fun h3 => Ret.mk (by simp at h1 h3; simp [h3])) fun h3 => Ret.cond (fun h3 => Ret.mk (by simp at h1 h3; simp [h3])) fun h5 =>
    Ret.bind (eqBits_ok h.2.2.2.2.1 x') fun r hr => Ret.cond (fun h4 => Ret.mk (by simp at h1 h2 h3 h4; simp_all)) fun h4 => Ret.bind (eqInt64S_ok h.2.2.2.2.2.1.1 k') fun r2 hr2 => Ret.cond (fun h6 => Ret.mk (by simp at h1 h2 h3 h4 h6; simp_all)) fun h6 => Ret.mk (by simp at h1 h2 h3 h4 h5 h6; simp_all)
theorem eqTNodeS_ok {a : List Timpl_TNode.V} (h : Ty.Wf (.sl Timpl_TNode) a) : EqOk laws_eqTNodeS a :=
  eqS_ok (F := laws_eqTNode) (z := Ty.zero Timpl_TNode) (r := laws_eqTNodeS_l0_r) (fun _ _ => rfl) (fun _ _ _ => rfl) h.1 fun x hx => eqTNode_ok (h.2 x hx)
theorem eqTerm_ok {a : Timpl_Term.V} (h : Ty.Wf Timpl_Term a) : EqOk laws_eqTerm a := by
  intro b
  obtain ⟨n, _⟩ := a
  obtain ⟨n', _⟩ := b
  unfold laws_eqTerm
  refine Ret.bind (eqTNodeS_ok h.1 n') fun r1 hr1 => Ret.cond (fun h1 => Ret.mk (by simp at h1; simp_all)) fun h1 => Ret.mk (by simp at h1; simp_all)
theorem eqLiteral_ok {a : Timpl_Literal.V} (h : Ty.Wf Timpl_Literal a) : EqOk laws_eqLiteral a := by
  intro b
  obtain ⟨i, e, s, t, _⟩ := a
  obtain ⟨i', e', s', t', _⟩ := b
  unfold laws_eqLiteral
  refine Ret.cond (fun h1 => Ret.mk (by simp at h1; simp [h1])) fun h1 => Ret.cond (fun h2 => Ret.mk (by simp at h1 h2; simp [h2])) fun h2 =>
    Ret.bind (eqTerm_ok h.2.2.1 s') fun r hr => Ret.cond (fun h4 => Ret.mk (by simp at h1 h2 h4; simp_all)) fun h4 => Ret.bind (eqTerm_ok h.2.2.2.1 t') fun r2 hr2 => Ret.cond (fun h6 => Ret.mk (by simp at h1 h2 h4 h6; simp_all)) fun h6 => Ret.mk (by simp at h1 h2 h4 h6; simp_all)
theorem eqLiteralS_ok {a : List Timpl_Literal.V} (h : Ty.Wf (.sl Timpl_Literal) a) : EqOk laws_eqLiteralS a :=
  eqS_ok (F := laws_eqLiteral) (z := Ty.zero Timpl_Literal) (r := laws_eqLiteralS_l0_r) (fun _ _ => rfl) (fun _ _ _ => rfl) h.1 fun x hx => eqLiteral_ok (h.2 x hx)
theorem eqPStep_ok {a : Timpl_PStep.V} (h : Ty.Wf Timpl_PStep a) : EqOk laws_eqPStep a := by
  intro b
  obtain ⟨o, v, A, B, x, k, _⟩ := a
  obtain ⟨o', v', A', B', x', k', _⟩ := b
  unfold laws_eqPStep
  refine Ret.cond (fun h1 => Ret.mk (by simp at h1; simp [h1])) fun h1 => Ret.cond (fun h2 => Ret.mk (by simp at h1 h2; simp [h2])) fun h2 => Ret.cond (fun h3 => Ret.mk (by simp at h1 h3; simp [h3])) fun h3 => Ret.cond (fun h3 => Ret.mk (by simp at h1 h3; simp [h3])) fun h5 => Ret.cond (fun h3 => Ret.mk (by simp at h1 h3; simp [h3])) fun h7 =>
    Ret.bind (eqTerm_ok h.2.2.2.2.2.1 k') fun r hr => Ret.cond (fun h4 => Ret.mk (by simp at h1 h2 h3 h4; simp_all)) fun h4 => Ret.mk (by simp at h1 h2 h3 h4 h5 h7; simp_all)
theorem eqPStepS_ok {a : List Timpl_PStep.V} (h : Ty.Wf (.sl Timpl_PStep) a) : EqOk laws_eqPStepS a :=
  eqS_ok (F := laws_eqPStep) (z := Ty.zero Timpl_PStep) (r := laws_eqPStepS_l0_r) (fun _ _ => rfl) (fun _ _ _ => rfl) h.1 fun x hx => eqPStep_ok (h.2 x hx)
end Go.Proofs.X
