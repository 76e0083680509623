import Derived.KernelRfl
import Derived.Test.YtgdiapoacpahdaaGreatK12
set_option linter.unusedVariables false
set_option linter.unusedSimpArgs false
namespace Go.Proofs.X
open Go Go.Va
set_option maxRecDepth 100000
noncomputable section
abbrev E128 : Env := ⟨tab, lookH [(52, c52)], { deep := true, heads := [(2, { live := [0, 1, 5] })], outs := [(2, { live := [1] })] }⟩
def AcM (z_ : (Int × Int × (List Ae.V))) : St := sT 28 [(0, .ref 0), (1, dI z_.1), (5, dI z_.2.1)] [.row 95 .deep Ae z_.2.2]
def Acg : (Int × (List Ae.V)) → Ex × St := fun a => ((.exit 0), sT 28 [(1, dI a.1)] [.row 95 .deep Ae a.2])
def DP (b : Int) (c : Int) (d : (List Ae.V)) : Option ((Int × Int × (List Ae.V)) ⊕ (Int × (List Ae.V))) :=
 bif (decide (c < (d.length : Int))) then
 (Fu b).bind fun e =>
 if (0 : Int) ≤ c ∧ c < (d.length : Int) then
 if (0 : Int) ≤ c ∧ c < ((d.set c.toNat (e, (d.getD c.toNat (Ty.zero Ae)).2)).length : Int) then
 some (.inl ((IntKind.i64.wrap ((IntKind.i64.wrap (b + 1)) + 1)), (IntKind.i64.wrap (c + 1)), ((d.set c.toNat (e, (d.getD c.toNat (Ty.zero Ae)).2)).set c.toNat (((d.set c.toNat (e, (d.getD c.toNat (Ty.zero Ae)).2)).getD c.toNat (Ty.zero Ae)).1, (IntKind.i64.wrap (b + 1)), ((d.set c.toNat (e, (d.getD c.toNat (Ty.zero Ae)).2)).getD c.toNat (Ty.zero Ae)).2.2))))
 else none
 else none
 else
 some (.inr (b, d))
def BD (z_ : (Int × Int × (List Ae.V))) := DP z_.1 z_.2.1 z_.2.2
def HH (b : Int) (c : Int) (d : (List Ae.V)) := fix (BD) (b, c, d)
theorem Z6 : LpOk E128 1 2 (code Tryz.f17) [1, 0, 1, 0] (AcM) (BD) (Acg) := by
  intro _
  simp only [BD, DP, mC, mI, mN, mB, mE, mM]
  kernel_rfl
def Ei (g : Int) (i : (List Ae.V)) : Option (Int × (List Ae.V)) :=
 (HH g 0 i).bind fun a =>
 some (a.1, a.2)
theorem U128 (R : Type) (g : Int) (i : (List Ae.V)) (K : AV → List Blk → Option R) : runF E128 Tryz.f17 R [.ref 0, dI g] [.row 95 .deep Ae i] K = (Ei g i).bind fun r => K (dI r.1) [.row 95 .deep Ae r.2] := by
  simp only [Ei, bC, bI, bN, bE, bA, bS, bO, bM]
  simp (disch := refine sI ?_ <;> (repeat' refine sA ?_ ?_) <;> intro _ <;> kernel_rfl) only [HH, AC (Z6) (K := finK E128 Tryz.f17 1 R K)]
  kernel_rfl
def c17 : Va.Callee := brC [.raw, .d (.int .i64)] [⟨[.k (.ref 0), .dat [] (.int .i64)], [.row 95 .deep Ae], (Int × (List Ae.V)), fun p => Ei p.1.2.1 p.2.1, fun r => (dI r.1, [.row 95 .deep Ae r.2])⟩]
theorem Yt : SoundC Tryz.prog 17 c17 := Ao (fn := Tryz.f17) (by kernel_rfl) (by kernel_rfl) (by kernel_rfl) ⟨⟨E128, ⟨⟨tabok, Am ⟨Xw, trivial⟩⟩, mixed⟩, fun p R K => U128 R p.1.2.1 p.2.1 K⟩, trivial⟩
abbrev E129 : Env := ⟨tab, lookH [], { deep := true, heads := [(2, { live := [0, 1, 5] })], outs := [(2, { live := [1] })] }⟩
def ZH (z_ : (Int × Int × (List Int))) : St := sT 20 [(0, .ref 0), (1, dI z_.1), (5, dI z_.2.1)] [.row 0 .deep (.int .u64) z_.2.2]
def AcD : (Int × (List Int)) → Ex × St := fun a => ((.exit 0), sT 20 [(1, dI a.1)] [.row 0 .deep (.int .u64) a.2])
def CL (b : Int) (c : Int) (d : (List Int)) : Option ((Int × Int × (List Int)) ⊕ (Int × (List Int))) :=
 bif (decide (c < (d.length : Int))) then
 if (0 : Int) ≤ c ∧ c < (d.length : Int) then
 some (.inl ((IntKind.i64.wrap (b + 1)), (IntKind.i64.wrap (c + 1)), (d.set c.toNat (IntKind.u64.wrap b))))
 else none
 else
 some (.inr (b, d))
def Be (z_ : (Int × Int × (List Int))) := CL z_.1 z_.2.1 z_.2.2
def GH (b : Int) (c : Int) (d : (List Int)) := fix (Be) (b, c, d)
theorem AbY : LpOk E129 1 2 (code Tryz.f81) [1, 0, 1, 0] (ZH) (Be) (AcD) := by
  intro _
  simp only [Be, CL, mC, mI, mN, mB, mE, mM]
  kernel_rfl
def CF (e : Int) (g : (List Int)) : Option (Int × (List Int)) :=
 (GH e 0 g).bind fun a =>
 some (a.1, a.2)
theorem U129 (R : Type) (e : Int) (g : (List Int)) (K : AV → List Blk → Option R) : runF E129 Tryz.f81 R [.ref 0, dI e] [.row 0 .deep (.int .u64) g] K = (CF e g).bind fun r => K (dI r.1) [.row 0 .deep (.int .u64) r.2] := by
  simp only [CF, bC, bI, bN, bE, bA, bS, bO, bM]
  simp (disch := refine sI ?_ <;> (repeat' refine sA ?_ ?_) <;> intro _ <;> kernel_rfl) only [GH, AC (AbY) (K := finK E129 Tryz.f81 1 R K)]
  kernel_rfl
def c81 : Va.Callee := brC [.raw, .d (.int .i64)] [⟨[.k (.ref 0), .dat [] (.int .i64)], [.row 0 .deep (.int .u64)], (Int × (List Int)), fun p => CF p.1.2.1 p.2.1, fun r => (dI r.1, [.row 0 .deep (.int .u64) r.2])⟩]
theorem Ym : SoundC Tryz.prog 81 c81 := Ao (fn := Tryz.f81) (by kernel_rfl) (by kernel_rfl) (by kernel_rfl) ⟨⟨E129, ⟨⟨tabok, Am trivial⟩, mixed⟩, fun p R K => U129 R p.1.2.1 p.2.1 K⟩, trivial⟩
abbrev E130 : Env := ⟨tab, lookH [], { deep := true, heads := [(2, { live := [0, 1, 5] })], outs := [(2, { live := [1] })] }⟩
def ZQ (z_ : (Int × Int × (List Int))) : St := sT 19 [(0, .ref 0), (1, dI z_.1), (5, dI z_.2.1)] [.row 0 .deep (.int .i64) z_.2.2]
def AaO : (Int × (List Int)) → Ex × St := fun a => ((.exit 0), sT 19 [(1, dI a.1)] [.row 0 .deep (.int .i64) a.2])
def Dd (b : Int) (c : Int) (d : (List Int)) : Option ((Int × Int × (List Int)) ⊕ (Int × (List Int))) :=
 bif (decide (c < (d.length : Int))) then
 if (0 : Int) ≤ c ∧ c < (d.length : Int) then
 some (.inl ((IntKind.i64.wrap (b + 1)), (IntKind.i64.wrap (c + 1)), (d.set c.toNat b)))
 else none
 else
 some (.inr (b, d))
def Bn (z_ : (Int × Int × (List Int))) := Dd z_.1 z_.2.1 z_.2.2
def GY (b : Int) (c : Int) (d : (List Int)) := fix (Bn) (b, c, d)
theorem Abk : LpOk E130 1 2 (code Tryz.f92) [1, 0, 1, 0] (ZQ) (Bn) (AaO) := by
  intro _
  simp only [Bn, Dd, mC, mI, mN, mB, mE, mM]
  kernel_rfl
def Dr (e : Int) (g : (List Int)) : Option (Int × (List Int)) :=
 (GY e 0 g).bind fun a =>
 some (a.1, a.2)
theorem U130 (R : Type) (e : Int) (g : (List Int)) (K : AV → List Blk → Option R) : runF E130 Tryz.f92 R [.ref 0, dI e] [.row 0 .deep (.int .i64) g] K = (Dr e g).bind fun r => K (dI r.1) [.row 0 .deep (.int .i64) r.2] := by
  simp only [Dr, bC, bI, bN, bE, bA, bS, bO, bM]
  simp (disch := refine sI ?_ <;> (repeat' refine sA ?_ ?_) <;> intro _ <;> kernel_rfl) only [GY, AC (Abk) (K := finK E130 Tryz.f92 1 R K)]
  kernel_rfl
def c92 : Va.Callee := brC [.raw, .d (.int .i64)] [⟨[.k (.ref 0), .dat [] (.int .i64)], [.row 0 .deep (.int .i64)], (Int × (List Int)), fun p => Dr p.1.2.1 p.2.1, fun r => (dI r.1, [.row 0 .deep (.int .i64) r.2])⟩]
theorem YA : SoundC Tryz.prog 92 c92 := Ao (fn := Tryz.f92) (by kernel_rfl) (by kernel_rfl) (by kernel_rfl) ⟨⟨E130, ⟨⟨tabok, Am trivial⟩, mixed⟩, fun p R K => U130 R p.1.2.1 p.2.1 K⟩, trivial⟩
abbrev E131 : Env := ⟨tab, lookH [(81, c81), (92, c92)], { deep := true, nest := [(53, 221), (60, 2)], heads := [(2, { live := [0, 1, 5] })], outs := [(2, { live := [1] })], joins := [(3, { live := [0, 1, 5] }), (9, { live := [0, 1, 5] }), (13, { live := [0, 1, 5] })], ents := [(3, [0, 1, 5]), (9, [0, 1, 5]), (13, [0, 1, 5])] }⟩
def ZW (z_ : (Int × Int × (List Ad.V))) : St := sT 64 [(0, .ref 0), (1, dI z_.1), (5, dI z_.2.1)] [.row 0 .deep Ad z_.2.2]
def Ace : (Int × (List Ad.V)) → Ex × St := fun a => ((.exit 0), sT 64 [(1, dI a.1)] [.row 0 .deep Ad a.2])
def Aag (b : Int) (c : Int) (d : (List Ad.V)) : St := sT 64 [(0, .ref 0), (1, dI b), (5, dI c)] [.row 0 .deep Ad d]
def Abw (b : Int) (c : Int) (d : (List Ad.V)) : (Int × (List Ad.V)) → Ex × St := fun e => (.normal, sT 64 [(0, .ref 0), (1, dI e.1), (5, dI c)] [.row 0 .deep Ad e.2])
def Acc (c : Int) (g : Int) (i : (List Ad.V)) : St := sT 64 [(0, .ref 0), (1, dI g), (5, dI c)] [.row 0 .deep Ad i]
def Z5 (c : Int) (g : Int) (i : (List Ad.V)) : (List Ad.V) → Ex × St := fun j => (.normal, sT 64 [(0, .ref 0), (1, dI g), (5, dI c)] [.row 0 .deep Ad j])
def En (c : Int) (g : Int) (i : (List Ad.V)) : Option (List Ad.V) :=
 if (0 : Int) ≤ c ∧ c < (i.length : Int) then
 some (i.set c.toNat ((i.getD c.toNat (Ty.zero Ad)).1, (i.getD c.toNat (Ty.zero Ad)).2.1, (i.getD c.toNat (Ty.zero Ad)).2.2.1, (i.getD c.toNat (Ty.zero Ad)).2.2.2.1, (g, (i.getD c.toNat (Ty.zero Ad)).2.2.2.2.1.2), (i.getD c.toNat (Ty.zero Ad)).2.2.2.2.2))
 else none
theorem AaE (c : Int) (g : Int) (i : (List Ad.V)) : JnOk E131 1 13 (sub (sub (code Tryz.f53) [1, 0, 1, 0, 0]) [1, 0]) [0, 1, 1, 1, 1, 1, 1, 1, 1, 0] (Acc c g i) (En c g i) (Z5 c g i) := by
  unfold JnOk
  simp only [En, mC, mI, mN, mB, mE, mM]
  kernel_rfl
def AcQ (c : Int) (k : Int) (l : (List Ad.V)) : St := sT 64 [(0, .ref 0), (1, dI k), (5, dI c)] [.row 0 .deep Ad l]
def Aaf (c : Int) (k : Int) (l : (List Ad.V)) : (List Ad.V) → Ex × St := fun n => (.normal, sT 64 [(0, .ref 0), (1, dI k), (5, dI c)] [.row 0 .deep Ad n])
def Ew (c : Int) (k : Int) (l : (List Ad.V)) : Option (List Ad.V) :=
 if (0 : Int) ≤ c ∧ c < (l.length : Int) then
 some (l.set c.toNat ((l.getD c.toNat (Ty.zero Ad)).1, (l.getD c.toNat (Ty.zero Ad)).2.1, k, (l.getD c.toNat (Ty.zero Ad)).2.2.2))
 else none
theorem ZF (c : Int) (k : Int) (l : (List Ad.V)) : JnOk E131 1 9 (sub (sub (code Tryz.f53) [1, 0, 1, 0, 0]) [1, 0]) [0, 1, 1, 1, 1, 0] (AcQ c k l) (Ew c k l) (Aaf c k l) := by
  unfold JnOk
  simp only [Ew, mC, mI, mN, mB, mE, mM]
  kernel_rfl
def Es (b : Int) (c : Int) (d : (List Ad.V)) : Option (Int × (List Ad.V)) :=
 if (0 : Int) ≤ c ∧ c < (d.length : Int) then
 if (0 : Int) ≤ c ∧ c < ((d.set c.toNat (b, (d.getD c.toNat (Ty.zero Ad)).2)).length : Int) then
 (Ew c (IntKind.i64.wrap ((IntKind.i64.wrap (b + 1)) + 1)) ((d.set c.toNat (b, (d.getD c.toNat (Ty.zero Ad)).2)).set c.toNat (((d.set c.toNat (b, (d.getD c.toNat (Ty.zero Ad)).2)).getD c.toNat (Ty.zero Ad)).1, (IntKind.i64.wrap (b + 1)), ((d.set c.toNat (b, (d.getD c.toNat (Ty.zero Ad)).2)).getD c.toNat (Ty.zero Ad)).2.2))).bind fun n =>
 if (0 : Int) ≤ c ∧ c < (n.length : Int) then
 (En c (IntKind.i64.wrap ((IntKind.i64.wrap ((IntKind.i64.wrap ((IntKind.i64.wrap (b + 1)) + 1)) + 1)) + 1)) (n.set c.toNat ((n.getD c.toNat (Ty.zero Ad)).1, (n.getD c.toNat (Ty.zero Ad)).2.1, (n.getD c.toNat (Ty.zero Ad)).2.2.1, (IntKind.i64.wrap ((IntKind.i64.wrap ((IntKind.i64.wrap (b + 1)) + 1)) + 1)), (n.getD c.toNat (Ty.zero Ad)).2.2.2.2))).bind fun j =>
 if (0 : Int) ≤ c ∧ c < (j.length : Int) then
 (CF (IntKind.i64.wrap ((IntKind.i64.wrap ((IntKind.i64.wrap ((IntKind.i64.wrap ((IntKind.i64.wrap (b + 1)) + 1)) + 1)) + 1)) + 1)) (j.getD c.toNat (Ty.zero Ad)).2.2.2.2.1.2.1).bind fun o =>
 if (0 : Int) ≤ c ∧ c < ((j.set c.toNat ((j.getD c.toNat (Ty.zero Ad)).1, (j.getD c.toNat (Ty.zero Ad)).2.1, (j.getD c.toNat (Ty.zero Ad)).2.2.1, (j.getD c.toNat (Ty.zero Ad)).2.2.2.1, ((j.getD c.toNat (Ty.zero Ad)).2.2.2.2.1.1, o.2, (j.getD c.toNat (Ty.zero Ad)).2.2.2.2.1.2.2), (j.getD c.toNat (Ty.zero Ad)).2.2.2.2.2)).length : Int) then
 (Dr o.1 ((j.set c.toNat ((j.getD c.toNat (Ty.zero Ad)).1, (j.getD c.toNat (Ty.zero Ad)).2.1, (j.getD c.toNat (Ty.zero Ad)).2.2.1, (j.getD c.toNat (Ty.zero Ad)).2.2.2.1, ((j.getD c.toNat (Ty.zero Ad)).2.2.2.2.1.1, o.2, (j.getD c.toNat (Ty.zero Ad)).2.2.2.2.1.2.2), (j.getD c.toNat (Ty.zero Ad)).2.2.2.2.2)).getD c.toNat (Ty.zero Ad)).2.2.2.2.2.1).bind fun q =>
 some (q.1, ((j.set c.toNat ((j.getD c.toNat (Ty.zero Ad)).1, (j.getD c.toNat (Ty.zero Ad)).2.1, (j.getD c.toNat (Ty.zero Ad)).2.2.1, (j.getD c.toNat (Ty.zero Ad)).2.2.2.1, ((j.getD c.toNat (Ty.zero Ad)).2.2.2.2.1.1, o.2, (j.getD c.toNat (Ty.zero Ad)).2.2.2.2.1.2.2), (j.getD c.toNat (Ty.zero Ad)).2.2.2.2.2)).set c.toNat (((j.set c.toNat ((j.getD c.toNat (Ty.zero Ad)).1, (j.getD c.toNat (Ty.zero Ad)).2.1, (j.getD c.toNat (Ty.zero Ad)).2.2.1, (j.getD c.toNat (Ty.zero Ad)).2.2.2.1, ((j.getD c.toNat (Ty.zero Ad)).2.2.2.2.1.1, o.2, (j.getD c.toNat (Ty.zero Ad)).2.2.2.2.1.2.2), (j.getD c.toNat (Ty.zero Ad)).2.2.2.2.2)).getD c.toNat (Ty.zero Ad)).1, ((j.set c.toNat ((j.getD c.toNat (Ty.zero Ad)).1, (j.getD c.toNat (Ty.zero Ad)).2.1, (j.getD c.toNat (Ty.zero Ad)).2.2.1, (j.getD c.toNat (Ty.zero Ad)).2.2.2.1, ((j.getD c.toNat (Ty.zero Ad)).2.2.2.2.1.1, o.2, (j.getD c.toNat (Ty.zero Ad)).2.2.2.2.1.2.2), (j.getD c.toNat (Ty.zero Ad)).2.2.2.2.2)).getD c.toNat (Ty.zero Ad)).2.1, ((j.set c.toNat ((j.getD c.toNat (Ty.zero Ad)).1, (j.getD c.toNat (Ty.zero Ad)).2.1, (j.getD c.toNat (Ty.zero Ad)).2.2.1, (j.getD c.toNat (Ty.zero Ad)).2.2.2.1, ((j.getD c.toNat (Ty.zero Ad)).2.2.2.2.1.1, o.2, (j.getD c.toNat (Ty.zero Ad)).2.2.2.2.1.2.2), (j.getD c.toNat (Ty.zero Ad)).2.2.2.2.2)).getD c.toNat (Ty.zero Ad)).2.2.1, ((j.set c.toNat ((j.getD c.toNat (Ty.zero Ad)).1, (j.getD c.toNat (Ty.zero Ad)).2.1, (j.getD c.toNat (Ty.zero Ad)).2.2.1, (j.getD c.toNat (Ty.zero Ad)).2.2.2.1, ((j.getD c.toNat (Ty.zero Ad)).2.2.2.2.1.1, o.2, (j.getD c.toNat (Ty.zero Ad)).2.2.2.2.1.2.2), (j.getD c.toNat (Ty.zero Ad)).2.2.2.2.2)).getD c.toNat (Ty.zero Ad)).2.2.2.1, ((j.set c.toNat ((j.getD c.toNat (Ty.zero Ad)).1, (j.getD c.toNat (Ty.zero Ad)).2.1, (j.getD c.toNat (Ty.zero Ad)).2.2.1, (j.getD c.toNat (Ty.zero Ad)).2.2.2.1, ((j.getD c.toNat (Ty.zero Ad)).2.2.2.2.1.1, o.2, (j.getD c.toNat (Ty.zero Ad)).2.2.2.2.1.2.2), (j.getD c.toNat (Ty.zero Ad)).2.2.2.2.2)).getD c.toNat (Ty.zero Ad)).2.2.2.2.1, q.2, ((j.set c.toNat ((j.getD c.toNat (Ty.zero Ad)).1, (j.getD c.toNat (Ty.zero Ad)).2.1, (j.getD c.toNat (Ty.zero Ad)).2.2.1, (j.getD c.toNat (Ty.zero Ad)).2.2.2.1, ((j.getD c.toNat (Ty.zero Ad)).2.2.2.2.1.1, o.2, (j.getD c.toNat (Ty.zero Ad)).2.2.2.2.1.2.2), (j.getD c.toNat (Ty.zero Ad)).2.2.2.2.2)).getD c.toNat (Ty.zero Ad)).2.2.2.2.2.2)))
 else none
 else none
 else none
 else none
 else none
theorem Acw (b : Int) (c : Int) (d : (List Ad.V)) : JnOk E131 1 3 (sub (code Tryz.f53) [1, 0, 1, 0, 0]) [1, 0] (Aag b c d) (Es b c d) (Abw b c d) := by
  unfold JnOk
  simp only [Es, mC, mI, mN, mB, mE, mM]
  simp (disch := refine sI ?_ <;> (repeat' refine sA ?_ ?_) <;> intro _ <;> kernel_rfl) only [AX (ZF _ _ _) (K := joinK 1 (E131.jn 3)), AX (AaE _ _ _) (K := joinK 1 (E131.jn 3))]
  kernel_rfl
def Di (b : Int) (c : Int) (d : (List Ad.V)) : Option ((Int × Int × (List Ad.V)) ⊕ (Int × (List Ad.V))) :=
 bif (decide (c < (d.length : Int))) then
 (Es b c d).bind fun e =>
 some (.inl (e.1, (IntKind.i64.wrap (c + 1)), e.2))
 else
 some (.inr (b, d))
def Bo (z_ : (Int × Int × (List Ad.V))) := Di z_.1 z_.2.1 z_.2.2
def Hd (b : Int) (c : Int) (d : (List Ad.V)) := fix (Bo) (b, c, d)
theorem Z8 : LpOk E131 1 2 (code Tryz.f53) [1, 0, 1, 0] (ZW) (Bo) (Ace) := by
  intro _
  simp only [Bo, Di, mC, mI, mN, mB, mE, mM]
  simp (disch := refine sI ?_ <;> (repeat' refine sA ?_ ?_) <;> intro _ <;> kernel_rfl) only [AX (Acw _ _ _) (K := stepK 1 (E131.hd 2) (E131.ot 2))]
  kernel_rfl
def BT (s : Int) (t : (List Ad.V)) : Option (Int × (List Ad.V)) :=
 (Hd s 0 t).bind fun a =>
 some (a.1, a.2)
theorem U131 (R : Type) (s : Int) (t : (List Ad.V)) (K : AV → List Blk → Option R) : runF E131 Tryz.f53 R [.ref 0, dI s] [.row 0 .deep Ad t] K = (BT s t).bind fun r => K (dI r.1) [.row 0 .deep Ad r.2] := by
  simp only [BT, bC, bI, bN, bE, bA, bS, bO, bM]
  simp (disch := refine sI ?_ <;> (repeat' refine sA ?_ ?_) <;> intro _ <;> kernel_rfl) only [Hd, AC (Z8) (K := finK E131 Tryz.f53 1 R K)]
  kernel_rfl
def c53 : Va.Callee := brC [.raw, .d (.int .i64)] [⟨[.k (.ref 0), .dat [] (.int .i64)], [.row 0 .deep Ad], (Int × (List Ad.V)), fun p => BT p.1.2.1 p.2.1, fun r => (dI r.1, [.row 0 .deep Ad r.2])⟩]
theorem SN : SoundC Tryz.prog 53 c53 := Ao (fn := Tryz.f53) (by kernel_rfl) (by kernel_rfl) (by kernel_rfl) ⟨⟨E131, ⟨⟨tabok, Am ⟨Ym, YA, trivial⟩⟩, mixed⟩, fun p R K => U131 R p.1.2.1 p.2.1 K⟩, trivial⟩
abbrev E132 : Env := ⟨tab, lookH [(53, c53)], { deep := true, nest := [(33, 177), (41, 177)], heads := [(2, { live := [0, 1, 5] })], outs := [(2, { live := [1] })], joins := [(3, { live := [0, 1, 5] }), (7, { live := [0, 1, 5] }), (9, { live := [0, 1, 5] })], ents := [(3, [0, 1, 5]), (7, [0, 1, 5]), (9, [0, 1, 5])] }⟩
def AcR (z_ : (Int × Int × (List Af.V))) : St := sT 45 [(0, .ref 0), (1, dI z_.1), (5, dI z_.2.1)] [.row 60 .deep Af z_.2.2]
def ZV : (Int × (List Af.V)) → Ex × St := fun a => ((.exit 0), sT 45 [(1, dI a.1)] [.row 60 .deep Af a.2])
def Abf (b : Int) (c : Int) (d : (List Af.V)) : St := sT 45 [(0, .ref 0), (1, dI b), (5, dI c)] [.row 60 .deep Af d]
def AcF (b : Int) (c : Int) (d : (List Af.V)) : (Int × (List Af.V)) → Ex × St := fun e => (.normal, sT 45 [(0, .ref 0), (1, dI e.1), (5, dI c)] [.row 60 .deep Af e.2])
def AbV (c : Int) (g : (List Af.V)) (i : Int) : St := sT 45 [(0, .ref 0), (1, dI i), (5, dI c)] [.row 60 .deep Af g]
def Z4 (c : Int) (g : (List Af.V)) (i : Int) : (Int × (List Af.V)) → Ex × St := fun j => (.normal, sT 45 [(0, .ref 0), (1, dI j.1), (5, dI c)] [.row 60 .deep Af j.2])
def Dl (c : Int) (g : (List Af.V)) (i : Int) : Option (Int × (List Af.V)) :=
 if (0 : Int) ≤ c ∧ c < (g.length : Int) then
 (BT i (g.getD c.toNat (Ty.zero Af)).2.2.1.1).bind fun k =>
 some (k.1, (g.set c.toNat ((g.getD c.toNat (Ty.zero Af)).1, (g.getD c.toNat (Ty.zero Af)).2.1, (k.2, (g.getD c.toNat (Ty.zero Af)).2.2.1.2), (g.getD c.toNat (Ty.zero Af)).2.2.2)))
 else none
theorem Acr (c : Int) (g : (List Af.V)) (i : Int) : JnOk E132 1 9 (sub (sub (code Tryz.f18) [1, 0, 1, 0, 0]) [1, 0]) [0, 1, 1, 1, 1, 0] (AbV c g i) (Dl c g i) (Z4 c g i) := by
  unfold JnOk
  simp only [Dl, mC, mI, mN, mB, mE, mM]
  kernel_rfl
def AbQ (c : Int) (l : Int) (n : (List Af.V)) : St := sT 45 [(0, .ref 0), (1, dI l), (5, dI c)] [.row 60 .deep Af n]
def ZD (c : Int) (l : Int) (n : (List Af.V)) : (List Af.V) → Ex × St := fun g => (.normal, sT 45 [(0, .ref 0), (1, dI l), (5, dI c)] [.row 60 .deep Af g])
def Dn (c : Int) (l : Int) (n : (List Af.V)) : Option (List Af.V) :=
 if (0 : Int) ≤ c ∧ c < (n.length : Int) then
 some (n.set c.toNat ((n.getD c.toNat (Ty.zero Af)).1, ((Int.tmod l 3) == 0), (n.getD c.toNat (Ty.zero Af)).2.2))
 else none
theorem Acd (c : Int) (l : Int) (n : (List Af.V)) : JnOk E132 1 7 (sub (sub (code Tryz.f18) [1, 0, 1, 0, 0]) [1, 0]) [0, 1, 1, 0] (AbQ c l n) (Dn c l n) (ZD c l n) := by
  unfold JnOk
  simp only [Dn, mC, mI, mN, mB, mE, mM]
  kernel_rfl
def Dm (b : Int) (c : Int) (d : (List Af.V)) : Option (Int × (List Af.V)) :=
 if (0 : Int) ≤ c ∧ c < (d.length : Int) then
 (Dn c (IntKind.i64.wrap (b + 1)) (d.set c.toNat (b, (d.getD c.toNat (Ty.zero Af)).2))).bind fun g =>
 (Dl c g (IntKind.i64.wrap ((IntKind.i64.wrap (b + 1)) + 1))).bind fun j =>
 if (0 : Int) ≤ c ∧ c < (j.2.length : Int) then
 (BT j.1 (j.2.getD c.toNat (Ty.zero Af)).2.2.2.1.1).bind fun o =>
 some (o.1, (j.2.set c.toNat ((j.2.getD c.toNat (Ty.zero Af)).1, (j.2.getD c.toNat (Ty.zero Af)).2.1, (j.2.getD c.toNat (Ty.zero Af)).2.2.1, (o.2, (j.2.getD c.toNat (Ty.zero Af)).2.2.2.1.2), (j.2.getD c.toNat (Ty.zero Af)).2.2.2.2)))
 else none
 else none
theorem AbW (b : Int) (c : Int) (d : (List Af.V)) : JnOk E132 1 3 (sub (code Tryz.f18) [1, 0, 1, 0, 0]) [1, 0] (Abf b c d) (Dm b c d) (AcF b c d) := by
  unfold JnOk
  simp only [Dm, mC, mI, mN, mB, mE, mM]
  simp (disch := refine sI ?_ <;> (repeat' refine sA ?_ ?_) <;> intro _ <;> kernel_rfl) only [AX (Acd _ _ _) (K := joinK 1 (E132.jn 3)), AX (Acr _ _ _) (K := joinK 1 (E132.jn 3))]
  kernel_rfl
def CA (b : Int) (c : Int) (d : (List Af.V)) : Option ((Int × Int × (List Af.V)) ⊕ (Int × (List Af.V))) :=
 bif (decide (c < (d.length : Int))) then
 (Dm b c d).bind fun e =>
 some (.inl (e.1, (IntKind.i64.wrap (c + 1)), e.2))
 else
 some (.inr (b, d))
def A2 (z_ : (Int × Int × (List Af.V))) := CA z_.1 z_.2.1 z_.2.2
def FO (b : Int) (c : Int) (d : (List Af.V)) := fix (A2) (b, c, d)
theorem Ab3 : LpOk E132 1 2 (code Tryz.f18) [1, 0, 1, 0] (AcR) (A2) (ZV) := by
  intro _
  simp only [A2, CA, mC, mI, mN, mB, mE, mM]
  simp (disch := refine sI ?_ <;> (repeat' refine sA ?_ ?_) <;> intro _ <;> kernel_rfl) only [AX (AbW _ _ _) (K := stepK 1 (E132.hd 2) (E132.ot 2))]
  kernel_rfl
def Cp (q : Int) (s : (List Af.V)) : Option (Int × (List Af.V)) :=
 (FO q 0 s).bind fun a =>
 some (a.1, a.2)
theorem U132 (R : Type) (q : Int) (s : (List Af.V)) (K : AV → List Blk → Option R) : runF E132 Tryz.f18 R [.ref 0, dI q] [.row 60 .deep Af s] K = (Cp q s).bind fun r => K (dI r.1) [.row 60 .deep Af r.2] := by
  simp only [Cp, bC, bI, bN, bE, bA, bS, bO, bM]
  simp (disch := refine sI ?_ <;> (repeat' refine sA ?_ ?_) <;> intro _ <;> kernel_rfl) only [FO, AC (Ab3) (K := finK E132 Tryz.f18 1 R K)]
  kernel_rfl
def c18 : Va.Callee := brC [.raw, .d (.int .i64)] [⟨[.k (.ref 0), .dat [] (.int .i64)], [.row 60 .deep Af], (Int × (List Af.V)), fun p => Cp p.1.2.1 p.2.1, fun r => (dI r.1, [.row 60 .deep Af r.2])⟩]
theorem Ys : SoundC Tryz.prog 18 c18 := Ao (fn := Tryz.f18) (by kernel_rfl) (by kernel_rfl) (by kernel_rfl) ⟨⟨E132, ⟨⟨tabok, Am ⟨SN, trivial⟩⟩, mixed⟩, fun p R K => U132 R p.1.2.1 p.2.1 K⟩, trivial⟩
abbrev E133 : Env := ⟨tab, lookH [(53, c53)], { deep := true, nest := [(52, 177)], heads := [(2, { live := [0, 1, 5] })], outs := [(2, { live := [1] })], joins := [(3, { live := [0, 1, 5] }), (7, { live := [0, 1, 5] }), (9, { live := [0, 1, 5] }), (13, { live := [0, 1, 5] })], ents := [(3, [0, 1, 5]), (7, [0, 1, 5]), (9, [0, 1, 5]), (13, [0, 1, 5])] }⟩
def AcJ (z_ : (Int × Int × (List Aa.V))) : St := sT 56 [(0, .ref 0), (1, dI z_.1), (5, dI z_.2.1)] [.row 92 .deep Aa z_.2.2]
def Acj : (Int × (List Aa.V)) → Ex × St := fun a => ((.exit 0), sT 56 [(1, dI a.1)] [.row 92 .deep Aa a.2])
def Z9 (b : Int) (c : Int) (d : (List Aa.V)) : St := sT 56 [(0, .ref 0), (1, dI b), (5, dI c)] [.row 92 .deep Aa d]
def AaG (b : Int) (c : Int) (d : (List Aa.V)) : (Int × (List Aa.V)) → Ex × St := fun e => (.normal, sT 56 [(0, .ref 0), (1, dI e.1), (5, dI c)] [.row 92 .deep Aa e.2])
def ZM (c : Int) (g : Int) (i : (List Aa.V)) : St := sT 56 [(0, .ref 0), (1, dI g), (5, dI c)] [.row 92 .deep Aa i]
def ZU (c : Int) (g : Int) (i : (List Aa.V)) : (List Aa.V) → Ex × St := fun j => (.normal, sT 56 [(0, .ref 0), (1, dI g), (5, dI c)] [.row 92 .deep Aa j])
def Eo (c : Int) (g : Int) (i : (List Aa.V)) : Option (List Aa.V) :=
 if (0 : Int) ≤ c ∧ c < (i.length : Int) then
 some (i.set c.toNat ((i.getD c.toNat (Ty.zero Aa)).1, (i.getD c.toNat (Ty.zero Aa)).2.1, (i.getD c.toNat (Ty.zero Aa)).2.2.1, (i.getD c.toNat (Ty.zero Aa)).2.2.2.1, g, (i.getD c.toNat (Ty.zero Aa)).2.2.2.2.2))
 else none
theorem Abp (c : Int) (g : Int) (i : (List Aa.V)) : JnOk E133 1 13 (sub (sub (code Tryz.f19) [1, 0, 1, 0, 0]) [1, 0]) [0, 1, 1, 1, 1, 1, 1, 1, 1, 0] (ZM c g i) (Eo c g i) (ZU c g i) := by
  unfold JnOk
  simp only [Eo, mC, mI, mN, mB, mE, mM]
  kernel_rfl
def Abg (c : Int) (k : (List Aa.V)) (l : Int) : St := sT 56 [(0, .ref 0), (1, dI l), (5, dI c)] [.row 92 .deep Aa k]
def Aa9 (c : Int) (k : (List Aa.V)) (l : Int) : (List Aa.V) → Ex × St := fun n => (.normal, sT 56 [(0, .ref 0), (1, dI l), (5, dI c)] [.row 92 .deep Aa n])
def Ez (c : Int) (k : (List Aa.V)) (l : Int) : Option (List Aa.V) :=
 if (0 : Int) ≤ c ∧ c < (k.length : Int) then
 some (k.set c.toNat ((k.getD c.toNat (Ty.zero Aa)).1, (k.getD c.toNat (Ty.zero Aa)).2.1, l, (k.getD c.toNat (Ty.zero Aa)).2.2.2))
 else none
theorem Abe (c : Int) (k : (List Aa.V)) (l : Int) : JnOk E133 1 9 (sub (sub (code Tryz.f19) [1, 0, 1, 0, 0]) [1, 0]) [0, 1, 1, 1, 1, 0] (Abg c k l) (Ez c k l) (Aa9 c k l) := by
  unfold JnOk
  simp only [Ez, mC, mI, mN, mB, mE, mM]
  kernel_rfl
def Abv (c : Int) (o : Int) (q : (List Aa.V)) : St := sT 56 [(0, .ref 0), (1, dI o), (5, dI c)] [.row 92 .deep Aa q]
def ZG (c : Int) (o : Int) (q : (List Aa.V)) : (List Aa.V) → Ex × St := fun k => (.normal, sT 56 [(0, .ref 0), (1, dI o), (5, dI c)] [.row 92 .deep Aa k])
def EK (c : Int) (o : Int) (q : (List Aa.V)) : Option (List Aa.V) :=
 if (0 : Int) ≤ c ∧ c < (q.length : Int) then
 some (q.set c.toNat ((q.getD c.toNat (Ty.zero Aa)).1, o, (q.getD c.toNat (Ty.zero Aa)).2.2))
 else none
theorem AbH (c : Int) (o : Int) (q : (List Aa.V)) : JnOk E133 1 7 (sub (sub (code Tryz.f19) [1, 0, 1, 0, 0]) [1, 0]) [0, 1, 1, 0] (Abv c o q) (EK c o q) (ZG c o q) := by
  unfold JnOk
  simp only [EK, mC, mI, mN, mB, mE, mM]
  kernel_rfl
def EE (b : Int) (c : Int) (d : (List Aa.V)) : Option (Int × (List Aa.V)) :=
 if (0 : Int) ≤ c ∧ c < (d.length : Int) then
 (EK c (IntKind.i64.wrap (b + 1)) (d.set c.toNat (b, (d.getD c.toNat (Ty.zero Aa)).2))).bind fun k =>
 (Ez c k (IntKind.i64.wrap ((IntKind.i64.wrap (b + 1)) + 1))).bind fun n =>
 if (0 : Int) ≤ c ∧ c < (n.length : Int) then
 (Eo c (IntKind.i64.wrap ((IntKind.i64.wrap ((IntKind.i64.wrap ((IntKind.i64.wrap (b + 1)) + 1)) + 1)) + 1)) (n.set c.toNat ((n.getD c.toNat (Ty.zero Aa)).1, (n.getD c.toNat (Ty.zero Aa)).2.1, (n.getD c.toNat (Ty.zero Aa)).2.2.1, (IntKind.i64.wrap ((IntKind.i64.wrap ((IntKind.i64.wrap (b + 1)) + 1)) + 1)), (n.getD c.toNat (Ty.zero Aa)).2.2.2.2))).bind fun j =>
 if (0 : Int) ≤ c ∧ c < (j.length : Int) then
 (BT (IntKind.i64.wrap ((IntKind.i64.wrap ((IntKind.i64.wrap ((IntKind.i64.wrap ((IntKind.i64.wrap (b + 1)) + 1)) + 1)) + 1)) + 1)) (j.getD c.toNat (Ty.zero Aa)).2.2.2.2.2.1.1).bind fun s =>
 some (s.1, (j.set c.toNat ((j.getD c.toNat (Ty.zero Aa)).1, (j.getD c.toNat (Ty.zero Aa)).2.1, (j.getD c.toNat (Ty.zero Aa)).2.2.1, (j.getD c.toNat (Ty.zero Aa)).2.2.2.1, (j.getD c.toNat (Ty.zero Aa)).2.2.2.2.1, (s.2, (j.getD c.toNat (Ty.zero Aa)).2.2.2.2.2.1.2), (j.getD c.toNat (Ty.zero Aa)).2.2.2.2.2.2)))
 else none
 else none
 else none
theorem Ab7 (b : Int) (c : Int) (d : (List Aa.V)) : JnOk E133 1 3 (sub (code Tryz.f19) [1, 0, 1, 0, 0]) [1, 0] (Z9 b c d) (EE b c d) (AaG b c d) := by
  unfold JnOk
  simp only [EE, mC, mI, mN, mB, mE, mM]
  simp (disch := refine sI ?_ <;> (repeat' refine sA ?_ ?_) <;> intro _ <;> kernel_rfl) only [AX (AbH _ _ _) (K := joinK 1 (E133.jn 3)), AX (Abe _ _ _) (K := joinK 1 (E133.jn 3)), AX (Abp _ _ _) (K := joinK 1 (E133.jn 3))]
  kernel_rfl
def Da (b : Int) (c : Int) (d : (List Aa.V)) : Option ((Int × Int × (List Aa.V)) ⊕ (Int × (List Aa.V))) :=
 bif (decide (c < (d.length : Int))) then
 (EE b c d).bind fun e =>
 some (.inl (e.1, (IntKind.i64.wrap (c + 1)), e.2))
 else
 some (.inr (b, d))
def Bq (z_ : (Int × Int × (List Aa.V))) := Da z_.1 z_.2.1 z_.2.2
def Hx (b : Int) (c : Int) (d : (List Aa.V)) := fix (Bq) (b, c, d)
theorem AaJ : LpOk E133 1 2 (code Tryz.f19) [1, 0, 1, 0] (AcJ) (Bq) (Acj) := by
  intro _
  simp only [Bq, Da, mC, mI, mN, mB, mE, mM]
  simp (disch := refine sI ?_ <;> (repeat' refine sA ?_ ?_) <;> intro _ <;> kernel_rfl) only [AX (Ab7 _ _ _) (K := stepK 1 (E133.hd 2) (E133.ot 2))]
  kernel_rfl
def Ct (t : Int) (u : (List Aa.V)) : Option (Int × (List Aa.V)) :=
 (Hx t 0 u).bind fun a =>
 some (a.1, a.2)
theorem U133 (R : Type) (t : Int) (u : (List Aa.V)) (K : AV → List Blk → Option R) : runF E133 Tryz.f19 R [.ref 0, dI t] [.row 92 .deep Aa u] K = (Ct t u).bind fun r => K (dI r.1) [.row 92 .deep Aa r.2] := by
  simp only [Ct, bC, bI, bN, bE, bA, bS, bO, bM]
  simp (disch := refine sI ?_ <;> (repeat' refine sA ?_ ?_) <;> intro _ <;> kernel_rfl) only [Hx, AC (AaJ) (K := finK E133 Tryz.f19 1 R K)]
  kernel_rfl
def c19 : Va.Callee := brC [.raw, .d (.int .i64)] [⟨[.k (.ref 0), .dat [] (.int .i64)], [.row 92 .deep Aa], (Int × (List Aa.V)), fun p => Ct p.1.2.1 p.2.1, fun r => (dI r.1, [.row 92 .deep Aa r.2])⟩]
theorem XB : SoundC Tryz.prog 19 c19 := Ao (fn := Tryz.f19) (by kernel_rfl) (by kernel_rfl) (by kernel_rfl) ⟨⟨E133, ⟨⟨tabok, Am ⟨SN, trivial⟩⟩, mixed⟩, fun p R K => U133 R p.1.2.1 p.2.1 K⟩, trivial⟩
abbrev E134 : Env := ⟨tab, lookH [], { deep := true, heads := [(2, { live := [0, 1, 5] })], outs := [(2, { live := [1, 4] })] }⟩
def AcO (a : (List Int)) (z_ : (Int × Int)) : St := sT 22 [(0, dD (.sl (.int .u64)) a), (1, dI z_.1), (5, dI z_.2)] []
def AbO (a : (List Int)) : (Int ⊕ Int) → Ex × St := Sum.elim (fun b => (.ret, sT 22 [(1, dI b), (4, dI (-1))] [])) (fun c => ((.exit 0), sT 22 [(1, dI c)] []))
def C2 (a : (List Int)) (d : Int) (e : Int) : Option ((Int × Int) ⊕ (Int ⊕ Int)) :=
 bif (decide (e < (a.length : Int))) then
 if (0 : Int) ≤ e ∧ e < (a.length : Int) then
 bif ((a.getD e.toNat (Ty.zero (.int .u64))) != (IntKind.u64.wrap d)) then
 some (.inr (.inl d))
 else
 some (.inl ((IntKind.i64.wrap (d + 1)), (IntKind.i64.wrap (e + 1))))
 else none
 else
 some (.inr (.inr d))
def Bb (a : (List Int)) (z_ : (Int × Int)) := C2 a z_.1 z_.2
def GF (a : (List Int)) (d : Int) (e : Int) := fix (Bb a) (d, e)
theorem Zt (a : (List Int)) : LpOk E134 0 2 (code Tryz.f82) [1, 0, 1, 0] (AcO a) (Bb a) (AbO a) := by
  intro _
  simp only [Bb, C2, mC, mI, mN, mB, mE, mM]
  kernel_rfl
def BZ (a : (List Int)) (g : Int) : Option Int :=
 (GF a g 0).bind (Sum.elim (fun b =>
 some (-1)) (fun c =>
 some c))
theorem U134 (R : Type) (a : (List Int)) (g : Int) (K : AV → List Blk → Option R) : runF E134 Tryz.f82 R [dD (.sl (.int .u64)) a, dI g] [] K = (BZ a g).bind fun r => K (dI r) [] := by
  simp only [BZ, bC, bI, bN, bE, bA, bS, bO, bM]
  simp (disch := refine sI ?_ <;> (repeat' refine sA ?_ ?_) <;> intro _ <;> kernel_rfl) only [GF, AC (Zt _) (K := finK E134 Tryz.f82 0 R K)]
  kernel_rfl
def c82 : Va.Callee := brC [.d (.sl (.int .u64)), .d (.int .i64)] [⟨[.dat [] (.sl (.int .u64)), .dat [] (.int .i64)], [], Int, fun p => BZ p.1.1 p.1.2.1, fun r => (dI r, [])⟩]
theorem Y6 : SoundC Tryz.prog 82 c82 := Ao (fn := Tryz.f82) (by kernel_rfl) (by kernel_rfl) (by kernel_rfl) ⟨⟨E134, ⟨⟨tabok, Am trivial⟩, mixed⟩, fun p R K => U134 R p.1.1 p.1.2.1 K⟩, trivial⟩
abbrev E135 : Env := ⟨tab, lookH [], { deep := true, heads := [(2, { live := [0, 1, 5] })], outs := [(2, { live := [1, 4] })] }⟩
def Aa4 (a : (List Int)) (z_ : (Int × Int)) : St := sT 21 [(0, dD (.sl (.int .i64)) a), (1, dI z_.1), (5, dI z_.2)] []
def Aak (a : (List Int)) : (Int ⊕ Int) → Ex × St := Sum.elim (fun b => (.ret, sT 21 [(1, dI b), (4, dI (-1))] [])) (fun c => ((.exit 0), sT 21 [(1, dI c)] []))
def Db (a : (List Int)) (d : Int) (e : Int) : Option ((Int × Int) ⊕ (Int ⊕ Int)) :=
 bif (decide (e < (a.length : Int))) then
 if (0 : Int) ≤ e ∧ e < (a.length : Int) then
 bif ((a.getD e.toNat (Ty.zero (.int .i64))) != d) then
 some (.inr (.inl d))
 else
 some (.inl ((IntKind.i64.wrap (d + 1)), (IntKind.i64.wrap (e + 1))))
 else none
 else
 some (.inr (.inr d))
def Bs (a : (List Int)) (z_ : (Int × Int)) := Db a z_.1 z_.2
def Hm (a : (List Int)) (d : Int) (e : Int) := fix (Bs a) (d, e)
theorem Zy (a : (List Int)) : LpOk E135 0 2 (code Tryz.f95) [1, 0, 1, 0] (Aa4 a) (Bs a) (Aak a) := by
  intro _
  simp only [Bs, Db, mC, mI, mN, mB, mE, mM]
  kernel_rfl
def Cy (a : (List Int)) (g : Int) : Option Int :=
 (Hm a g 0).bind (Sum.elim (fun b =>
 some (-1)) (fun c =>
 some c))
theorem U135 (R : Type) (a : (List Int)) (g : Int) (K : AV → List Blk → Option R) : runF E135 Tryz.f95 R [dD (.sl (.int .i64)) a, dI g] [] K = (Cy a g).bind fun r => K (dI r) [] := by
  simp only [Cy, bC, bI, bN, bE, bA, bS, bO, bM]
  simp (disch := refine sI ?_ <;> (repeat' refine sA ?_ ?_) <;> intro _ <;> kernel_rfl) only [Hm, AC (Zy _) (K := finK E135 Tryz.f95 0 R K)]
  kernel_rfl
def c95 : Va.Callee := brC [.d (.sl (.int .i64)), .d (.int .i64)] [⟨[.dat [] (.sl (.int .i64)), .dat [] (.int .i64)], [], Int, fun p => Cy p.1.1 p.1.2.1, fun r => (dI r, [])⟩]
theorem Zi : SoundC Tryz.prog 95 c95 := Ao (fn := Tryz.f95) (by kernel_rfl) (by kernel_rfl) (by kernel_rfl) ⟨⟨E135, ⟨⟨tabok, Am trivial⟩, mixed⟩, fun p R K => U135 R p.1.1 p.1.2.1 K⟩, trivial⟩
end
end Go.Proofs.X
namespace Go.Proofs.X
open Go Go.Va
set_option maxRecDepth 100000
noncomputable section
abbrev E136 : Env := ⟨tab, lookH [(82, c82), (95, c95)], { deep := true, heads := [(2, { live := [0, 1, 5] })], outs := [(2, { live := [1, 4] })] }⟩
def Abn (a : (List Ad.V)) (z_ : (Int × Int)) : St := sT 78 [(0, dD (.sl Ad) a), (1, dI z_.1), (5, dI z_.2)] []
def ZS (a : (List Ad.V)) : (Int ⊕ Int) → Ex × St := Sum.elim (fun b => (.ret, sT 78 [(1, dI b), (4, dI (-1))] [])) (fun c => ((.exit 0), sT 78 [(1, dI c)] []))
def Do (a : (List Ad.V)) (d : Int) (e : Int) : Option ((Int × Int) ⊕ (Int ⊕ Int)) :=
 bif (decide (e < (a.length : Int))) then
 if (0 : Int) ≤ e ∧ e < (a.length : Int) then
 bif ((a.getD e.toNat (Ty.zero Ad)).1 != d) then
 some (.inr (.inl d))
 else
 if (0 : Int) ≤ e ∧ e < (a.length : Int) then
 bif ((a.getD e.toNat (Ty.zero Ad)).2.1 != (IntKind.i64.wrap (d + 1))) then
 some (.inr (.inl (IntKind.i64.wrap (d + 1))))
 else
 if (0 : Int) ≤ e ∧ e < (a.length : Int) then
 bif ((a.getD e.toNat (Ty.zero Ad)).2.2.1 != (IntKind.i64.wrap ((IntKind.i64.wrap (d + 1)) + 1))) then
 some (.inr (.inl (IntKind.i64.wrap ((IntKind.i64.wrap (d + 1)) + 1))))
 else
 if (0 : Int) ≤ e ∧ e < (a.length : Int) then
 bif ((a.getD e.toNat (Ty.zero Ad)).2.2.2.1 != (IntKind.i64.wrap ((IntKind.i64.wrap ((IntKind.i64.wrap (d + 1)) + 1)) + 1))) then
 some (.inr (.inl (IntKind.i64.wrap ((IntKind.i64.wrap ((IntKind.i64.wrap (d + 1)) + 1)) + 1))))
 else
 if (0 : Int) ≤ e ∧ e < (a.length : Int) then
 bif ((a.getD e.toNat (Ty.zero Ad)).2.2.2.2.1.1 != (IntKind.i64.wrap ((IntKind.i64.wrap ((IntKind.i64.wrap ((IntKind.i64.wrap (d + 1)) + 1)) + 1)) + 1))) then
 some (.inr (.inl (IntKind.i64.wrap ((IntKind.i64.wrap ((IntKind.i64.wrap ((IntKind.i64.wrap (d + 1)) + 1)) + 1)) + 1))))
 else
 if (0 : Int) ≤ e ∧ e < (a.length : Int) then
 (BZ (a.getD e.toNat (Ty.zero Ad)).2.2.2.2.1.2.1 (IntKind.i64.wrap ((IntKind.i64.wrap ((IntKind.i64.wrap ((IntKind.i64.wrap ((IntKind.i64.wrap (d + 1)) + 1)) + 1)) + 1)) + 1))).bind fun g =>
 bif (decide (g < 0)) then
 some (.inr (.inl g))
 else
 if (0 : Int) ≤ e ∧ e < (a.length : Int) then
 (Cy (a.getD e.toNat (Ty.zero Ad)).2.2.2.2.2.1 g).bind fun i =>
 bif (decide (i < 0)) then
 some (.inr (.inl i))
 else
 some (.inl (i, (IntKind.i64.wrap (e + 1))))
 else none
 else none
 else none
 else none
 else none
 else none
 else none
 else
 some (.inr (.inr d))
def Bu (a : (List Ad.V)) (z_ : (Int × Int)) := Do a z_.1 z_.2
def G8 (a : (List Ad.V)) (d : Int) (e : Int) := fix (Bu a) (d, e)
theorem AaR (a : (List Ad.V)) : LpOk E136 0 2 (code Tryz.f54) [1, 0, 1, 0] (Abn a) (Bu a) (ZS a) := by
  intro _
  simp only [Bu, Do, mC, mI, mN, mB, mE, mM]
  kernel_rfl
def Dp (a : (List Ad.V)) (j : Int) : Option Int :=
 (G8 a j 0).bind (Sum.elim (fun b =>
 some (-1)) (fun c =>
 some c))
theorem U136 (R : Type) (a : (List Ad.V)) (j : Int) (K : AV → List Blk → Option R) : runF E136 Tryz.f54 R [dD (.sl Ad) a, dI j] [] K = (Dp a j).bind fun r => K (dI r) [] := by
  simp only [Dp, bC, bI, bN, bE, bA, bS, bO, bM]
  simp (disch := refine sI ?_ <;> (repeat' refine sA ?_ ?_) <;> intro _ <;> kernel_rfl) only [G8, AC (AaR _) (K := finK E136 Tryz.f54 0 R K)]
  kernel_rfl
def c54 : Va.Callee := brC [.d (.sl Ad), .d (.int .i64)] [⟨[.dat [] (.sl Ad), .dat [] (.int .i64)], [], Int, fun p => Dp p.1.1 p.1.2.1, fun r => (dI r, [])⟩]
theorem Yw : SoundC Tryz.prog 54 c54 := Ao (fn := Tryz.f54) (by kernel_rfl) (by kernel_rfl) (by kernel_rfl) ⟨⟨E136, ⟨⟨tabok, Am ⟨Y6, Zi, trivial⟩⟩, mixed⟩, fun p R K => U136 R p.1.1 p.1.2.1 K⟩, trivial⟩
abbrev E137 : Env := ⟨tab, lookH [(54, c54)], { deep := true, heads := [(2, { live := [0, 1, 5] })], outs := [(2, { live := [1, 4] })] }⟩
def AbT (a : (List Aa.V)) (z_ : (Int × Int)) : St := sT 68 [(0, dD (.sl Aa) a), (1, dI z_.1), (5, dI z_.2)] []
def Acq (a : (List Aa.V)) : (Int ⊕ Int) → Ex × St := Sum.elim (fun b => (.ret, sT 68 [(1, dI b), (4, dI (-1))] [])) (fun c => ((.exit 0), sT 68 [(1, dI c)] []))
def Dj (a : (List Aa.V)) (d : Int) (e : Int) : Option ((Int × Int) ⊕ (Int ⊕ Int)) :=
 bif (decide (e < (a.length : Int))) then
 if (0 : Int) ≤ e ∧ e < (a.length : Int) then
 bif ((a.getD e.toNat (Ty.zero Aa)).1 != d) then
 some (.inr (.inl d))
 else
 if (0 : Int) ≤ e ∧ e < (a.length : Int) then
 bif ((a.getD e.toNat (Ty.zero Aa)).2.1 != (IntKind.i64.wrap (d + 1))) then
 some (.inr (.inl (IntKind.i64.wrap (d + 1))))
 else
 if (0 : Int) ≤ e ∧ e < (a.length : Int) then
 bif ((a.getD e.toNat (Ty.zero Aa)).2.2.1 != (IntKind.i64.wrap ((IntKind.i64.wrap (d + 1)) + 1))) then
 some (.inr (.inl (IntKind.i64.wrap ((IntKind.i64.wrap (d + 1)) + 1))))
 else
 if (0 : Int) ≤ e ∧ e < (a.length : Int) then
 bif ((a.getD e.toNat (Ty.zero Aa)).2.2.2.1 != (IntKind.i64.wrap ((IntKind.i64.wrap ((IntKind.i64.wrap (d + 1)) + 1)) + 1))) then
 some (.inr (.inl (IntKind.i64.wrap ((IntKind.i64.wrap ((IntKind.i64.wrap (d + 1)) + 1)) + 1))))
 else
 if (0 : Int) ≤ e ∧ e < (a.length : Int) then
 bif ((a.getD e.toNat (Ty.zero Aa)).2.2.2.2.1 != (IntKind.i64.wrap ((IntKind.i64.wrap ((IntKind.i64.wrap ((IntKind.i64.wrap (d + 1)) + 1)) + 1)) + 1))) then
 some (.inr (.inl (IntKind.i64.wrap ((IntKind.i64.wrap ((IntKind.i64.wrap ((IntKind.i64.wrap (d + 1)) + 1)) + 1)) + 1))))
 else
 if (0 : Int) ≤ e ∧ e < (a.length : Int) then
 (Dp (a.getD e.toNat (Ty.zero Aa)).2.2.2.2.2.1.1 (IntKind.i64.wrap ((IntKind.i64.wrap ((IntKind.i64.wrap ((IntKind.i64.wrap ((IntKind.i64.wrap (d + 1)) + 1)) + 1)) + 1)) + 1))).bind fun g =>
 bif (decide (g < 0)) then
 some (.inr (.inl g))
 else
 some (.inl (g, (IntKind.i64.wrap (e + 1))))
 else none
 else none
 else none
 else none
 else none
 else none
 else
 some (.inr (.inr d))
def Bw (a : (List Aa.V)) (z_ : (Int × Int)) := Dj a z_.1 z_.2
def GW (a : (List Aa.V)) (d : Int) (e : Int) := fix (Bw a) (d, e)
theorem Aby (a : (List Aa.V)) : LpOk E137 0 2 (code Tryz.f20) [1, 0, 1, 0] (AbT a) (Bw a) (Acq a) := by
  intro _
  simp only [Bw, Dj, mC, mI, mN, mB, mE, mM]
  kernel_rfl
def Cz (a : (List Aa.V)) (i : Int) : Option Int :=
 (GW a i 0).bind (Sum.elim (fun b =>
 some (-1)) (fun c =>
 some c))
theorem U137 (R : Type) (a : (List Aa.V)) (i : Int) (K : AV → List Blk → Option R) : runF E137 Tryz.f20 R [dD (.sl Aa) a, dI i] [] K = (Cz a i).bind fun r => K (dI r) [] := by
  simp only [Cz, bC, bI, bN, bE, bA, bS, bO, bM]
  simp (disch := refine sI ?_ <;> (repeat' refine sA ?_ ?_) <;> intro _ <;> kernel_rfl) only [GW, AC (Aby _) (K := finK E137 Tryz.f20 0 R K)]
  kernel_rfl
def c20 : Va.Callee := brC [.d (.sl Aa), .d (.int .i64)] [⟨[.dat [] (.sl Aa), .dat [] (.int .i64)], [], Int, fun p => Cz p.1.1 p.1.2.1, fun r => (dI r, [])⟩]
theorem YU : SoundC Tryz.prog 20 c20 := Ao (fn := Tryz.f20) (by kernel_rfl) (by kernel_rfl) (by kernel_rfl) ⟨⟨E137, ⟨⟨tabok, Am ⟨Yw, trivial⟩⟩, mixed⟩, fun p R K => U137 R p.1.1 p.1.2.1 K⟩, trivial⟩
abbrev E138 : Env := ⟨tab, lookH [(6, c6), (7, c7), (8, c8), (9, c9), (10, c10), (11, c11), (12, c12), (13, c13), (14, c14), (15, c15), (16, c16), (17, c17), (18, c18), (19, c19), (20, c20)], { deep := true, joins := [(17, { live := [0, 1, 2, 8, 9, 10, 11, 12, 13, 14, 66], frz := [(8, false, (.sl Aa))] }), (29, { live := [0, 1, 2, 8, 9, 13, 103] }), (40, { live := [13, 16, 133], frz := [(13, false, (.sl Aa))] })], ents := [(17, [0, 1, 2, 8, 9, 10, 11, 12, 13, 14]), (29, [0, 1, 2, 8, 9, 13, 14, 15]), (40, [8, 9, 13, 16, 18, 19])], frzd := [(37, (.sl Ae)), (39, (.sl Af)), (41, (.sl Aa)), (69, (.sl Ae)), (74, (.sl Af)), (79, (.sl Aa)), (117, (.sl Ae)), (119, (.sl Af)), (121, (.sl Aa))] }⟩
def Ab6 (a : (List Aa.V)) (b : Bool) (c : Int) (d : Bool) (e : (List Aa.V)) (g : (List Aa.V)) : St := sT 142 [(8, dD (.sl Aa) a), (9, dB b), (13, .ref 0), (16, dI c), (18, .ref 1), (19, dB d)] [.row 92 .deep Aa e, .row 92 .deep Aa g]
def Abt (a : (List Aa.V)) (b : Bool) (c : Int) (d : Bool) (e : (List Aa.V)) (g : (List Aa.V)) : Bool → Ex × St := fun i => (.normal, sT 142 [(13, dD (.sl Aa) e), (16, dI c), (133, dB i)] [])
def DW (a : (List Aa.V)) (b : Bool) (c : Int) (d : Bool) (e : (List Aa.V)) (g : (List Aa.V)) : Option Bool :=
 (CM g a).bind fun j =>
 bif (!j) then
 some true
 else
 some (!(d == b))
theorem Acm (a : (List Aa.V)) (b : Bool) (c : Int) (d : Bool) (e : (List Aa.V)) (g : (List Aa.V)) : JnOk E138 0 40 (code Tryz.f3) [1, 1, 1, 1, 1, 1, 1, 1, 1, 1, 1, 1, 1, 1, 1, 1, 1, 1, 1, 1, 1, 1, 1, 1, 1, 1, 1, 1, 1, 0, 0] (Ab6 a b c d e g) (DW a b c d e g) (Abt a b c d e g) := by
  unfold JnOk
  simp only [DW, mC, mI, mN, mB, mE, mM]
  kernel_rfl
def Zv (k : (List Ae.V)) (l : (List Af.V)) (n : (List Aa.V)) (o : (List Aa.V)) (q : Bool) (s : Bool) (t : Int) (u : (List Aa.V)) : St := sT 142 [(0, dD (.sl Ae) k), (1, dD (.sl Af) l), (2, dD (.sl Aa) n), (8, dD (.sl Aa) o), (9, dB q), (13, .ref 0), (14, dB s), (15, dI t)] [.row 92 .deep Aa u]
def Aay (k : (List Ae.V)) (l : (List Af.V)) (n : (List Aa.V)) (o : (List Aa.V)) (q : Bool) (s : Bool) (t : Int) (u : (List Aa.V)) : Bool → Ex × St := fun v => (.normal, sT 142 [(0, dD (.sl Ae) k), (1, dD (.sl Af) l), (2, dD (.sl Aa) n), (8, dD (.sl Aa) o), (9, dB q), (13, .ref 0), (103, dB v)] [.row 92 .deep Aa u])
def DR (k : (List Ae.V)) (l : (List Af.V)) (n : (List Aa.V)) (o : (List Aa.V)) (q : Bool) (s : Bool) (t : Int) (u : (List Aa.V)) : Option Bool :=
 bif (decide (t < 0)) then
 some true
 else
 (CM u o).bind fun w =>
 bif (!w) then
 some true
 else
 some (!(s == q))
theorem Aaq (k : (List Ae.V)) (l : (List Af.V)) (n : (List Aa.V)) (o : (List Aa.V)) (q : Bool) (s : Bool) (t : Int) (u : (List Aa.V)) : JnOk E138 0 29 (code Tryz.f3) [1, 1, 1, 1, 1, 1, 1, 1, 1, 1, 1, 1, 1, 1, 1, 1, 1, 1, 1, 1, 1, 0, 0] (Zv k l n o q s t u) (DR k l n o q s t u) (Aay k l n o q s t u) := by
  unfold JnOk
  simp only [DR, mC, mI, mN, mB, mE, mM]
  kernel_rfl
def Aa6 (k : (List Ae.V)) (l : (List Af.V)) (n : (List Aa.V)) (x : (List Ae.V)) (y : (List Af.V)) (a1 : (List Aa.V)) (b1 : Bool) (c1 : Bool) (d1 : (List Aa.V)) (e1 : (List Aa.V)) : St := sT 142 [(0, dD (.sl Ae) k), (1, dD (.sl Af) l), (2, dD (.sl Aa) n), (8, .ref 0), (9, dB b1), (10, .ref 1), (11, .ref 2), (12, .ref 3), (13, .ref 4), (14, dB c1)] [.row 92 .deep Aa d1, .row 95 .deep Ae x, .row 60 .deep Af y, .row 92 .deep Aa a1, .row 92 .deep Aa e1]
def AaH (k : (List Ae.V)) (l : (List Af.V)) (n : (List Aa.V)) (x : (List Ae.V)) (y : (List Af.V)) (a1 : (List Aa.V)) (b1 : Bool) (c1 : Bool) (d1 : (List Aa.V)) (e1 : (List Aa.V)) : Bool → Ex × St := fun g1 => (.normal, sT 142 [(0, dD (.sl Ae) k), (1, dD (.sl Af) l), (2, dD (.sl Aa) n), (8, dD (.sl Aa) d1), (9, dB b1), (10, .ref 0), (11, .ref 1), (12, .ref 2), (13, .ref 3), (14, dB c1), (66, dB g1)] [.row 95 .deep Ae x, .row 60 .deep Af y, .row 92 .deep Aa a1, .row 92 .deep Aa e1])
def DV (k : (List Ae.V)) (l : (List Af.V)) (n : (List Aa.V)) (x : (List Ae.V)) (y : (List Af.V)) (a1 : (List Aa.V)) (b1 : Bool) (c1 : Bool) (d1 : (List Aa.V)) (e1 : (List Aa.V)) : Option Bool :=
 (CM e1 d1).bind fun i1 =>
 bif (!i1) then
 some true
 else
 some (!(c1 == b1))
theorem Ab5 (k : (List Ae.V)) (l : (List Af.V)) (n : (List Aa.V)) (x : (List Ae.V)) (y : (List Af.V)) (a1 : (List Aa.V)) (b1 : Bool) (c1 : Bool) (d1 : (List Aa.V)) (e1 : (List Aa.V)) : JnOk E138 0 17 (code Tryz.f3) [1, 1, 1, 1, 1, 1, 1, 1, 1, 1, 1, 1, 1, 0, 0] (Aa6 k l n x y a1 b1 c1 d1 e1) (DV k l n x y a1 b1 c1 d1 e1) (AaH k l n x y a1 b1 c1 d1 e1) := by
  unfold JnOk
  simp only [DV, mC, mI, mN, mB, mE, mM]
  kernel_rfl
def Gn (k : (List Ae.V)) (l : (List Af.V)) (n : (List Aa.V)) : Option Bool :=
 (Ii k 1048576).bind fun j1 =>
 bif (decide (j1 < 0)) then
 some true
 else
 (Fa l j1).bind fun k1 =>
 bif (decide (k1 < 0)) then
 some true
 else
 (G9 n k1).bind fun l1 =>
 bif (decide (l1 < 0)) then
 some true
 else
 (CS k).bind fun n1 =>
 (Bl l).bind fun o1 =>
 (B9 n).bind fun q1 =>
 (JU n1 o1 q1).bind fun s1 =>
 (CS k).bind fun x =>
 (Bl l).bind fun y =>
 (B9 n).bind fun a1 =>
 (I3 x y a1).bind fun t1 =>
 (DV k l n x y a1 s1.1 t1.1 s1.2 t1.2).bind fun g1 =>
 bif g1 then
 some false
 else
 (CS k).bind fun u1 =>
 (Il x u1).bind fun v1 =>
 bif (!v1) then
 some false
 else
 (Bl l).bind fun w1 =>
 (Fb y w1).bind fun x1 =>
 bif (!x1) then
 some false
 else
 (B9 n).bind fun y1 =>
 (CM a1 y1).bind fun a2 =>
 bif (!a2) then
 some false
 else
 (Ei 1 x).bind fun b2 =>
 (Cp b2.1 y).bind fun c2 =>
 (Ct c2.1 a1).bind fun d2 =>
 (DR k l n s1.2 s1.1 t1.1 d2.1 t1.2).bind fun v =>
 bif v then
 some false
 else
 (Ct 1 t1.2).bind fun e2 =>
 (Cz e2.2 1).bind fun g2 =>
 bif (decide (g2 < 0)) then
 some false
 else
 bif (g2 != e2.1) then
 some false
 else
 (CS k).bind fun i2 =>
 (Bl l).bind fun j2 =>
 (B9 n).bind fun k2 =>
 (I3 i2 j2 k2).bind fun l2 =>
 (DW s1.2 s1.1 e2.1 l2.1 e2.2 l2.2).bind fun i =>
 bif i then
 some false
 else
 (Cz e2.2 1).bind fun n2 =>
 bif (decide (n2 < 0)) then
 some false
 else
 bif (n2 != e2.1) then
 some false
 else
 some true
theorem laws_FnExactTrim_run (R : Type) (k : (List Ae.V)) (l : (List Af.V)) (n : (List Aa.V)) (K : AV → List Blk → Option R) : runF E138 Tryz.f3 R [dD (.sl Ae) k, dD (.sl Af) l, dD (.sl Aa) n] [] K = (Gn k l n).bind fun r => K (dB r) [] := by
  simp only [Gn, bC, bI, bN, bE, bA, bS, bO, bM]
  simp (disch := refine sI ?_ <;> (repeat' refine sA ?_ ?_) <;> intro _ <;> kernel_rfl) only [AX (Ab5 _ _ _ _ _ _ _ _ _ _) (K := finK E138 Tryz.f3 0 R K), AX (Aaq _ _ _ _ _ _ _ _) (K := finK E138 Tryz.f3 0 R K), AX (Acm _ _ _ _ _ _) (K := finK E138 Tryz.f3 0 R K)]
  kernel_rfl
theorem laws_FnExactTrim_ok : ProgOk Tryz.prog E138 := ⟨⟨tabok, Am ⟨AaZ, AaD, AaB, Ab1, YL, Za, X4, YB, Yr, YZ, XJ, Yt, Ys, XB, YU, trivial⟩⟩, mixed⟩
end
end Go.Proofs.X
namespace Go.Va
def Ret {A : Type} (x : Option A) (Q : A → Prop) : Prop := ∃ a, x = some a ∧ Q a
section
variable {A B S T : Type} {x y : Option A} {P Q : A → Prop}
theorem Ret.mk {a : A} (h : Q a) : Ret (some a) Q := ⟨a, rfl, h⟩
theorem Ret.of {a : A} (h : x = some a) (hq : Q a) : Ret x Q := ⟨a, h, hq⟩
theorem Ret.eq_ {a : A} (h : Ret x (· = a)) : x = some a := by obtain ⟨b, h1, h2⟩ := h; rw [h1, h2]
theorem Ret.mono (h : Ret x P) (hq : ∀ a, P a → Q a) : Ret x Q := by obtain ⟨a, h1, h2⟩ := h; exact ⟨a, h1, hq a h2⟩
theorem Ret.bind {R : B → Prop} {f : A → Option B} (h : Ret x P) (k : ∀ a, P a → Ret (f a) R) : Ret (x.bind f) R := by
  obtain ⟨a, h1, h2⟩ := h
  rw [h1]; exact k a h2
theorem Ret.cond {c : Bool} (h1 : c = true → Ret x Q) (h2 : c = false → Ret y Q) : Ret (bif c then x else y) Q := by
  cases c
  · exact h2 rfl
  · exact h1 rfl
theorem Ret.ite {c : Prop} [Decidable c] (hc : c) (h : Ret x Q) : Ret (if c then x else none) Q := by rw [if_pos hc]; exact h
theorem Ret.iteN {c : Prop} [Decidable c] (hc : ¬ c) (h : Ret x Q) : Ret (if c then none else x) Q := by rw [if_neg hc]; exact h
theorem Ret.elim {R : B → Prop} {C D : Type} {f : C → Option B} {g : D → Option B} {z : C ⊕ D} (h1 : ∀ c, z = .inl c → Ret (f c) R) (h2 : ∀ d, z = .inr d → Ret (g d) R) : Ret (Sum.elim f g z) R := by
  cases z with
  | inl c => exact h1 c rfl
  | inr d => exact h2 d rfl
theorem Gc {f : S → Option (S ⊕ T)} (I : Nat → S → Prop) {Q : T → Prop} (step : ∀ n s, I n s → Ret (f s) fun r => match r with | .inl s' => ∃ m, m < n ∧ I m s' | .inr t => Q t) : ∀ n s, I n s → Ret (fix f s) Q := by
  intro n
  induction n using Nat.strongRecOn with
  | _ n ih =>
    intro s hI
    obtain ⟨r, h1, h2⟩ := step n s hI
    cases r with
    | inl s' =>
      obtain ⟨m, hm, hI'⟩ := h2
      rw [G3 h1]
      exact ih m hm s' hI'
    | inr t => exact ⟨t, Fx h1, h2⟩
theorem TS {f : S → Option (S ⊕ T)} (st : Nat → S) {t : T} : ∀ (n k : Nat), (∀ i, k ≤ i → i < k + n → f (st i) = some (.inl (st (i + 1)))) → f (st (k + n)) = some (.inr t) → fix f (st k) = some t
  | 0, k, _, he => Fx he
  | n + 1, k, hs, he => by
    rw [G3 (hs k (Nat.le_refl _) (by omega))]
    exact TS st n (k + 1) (fun i h1 h2 => hs i (by omega) (by omega)) (by rw [show k + 1 + n = k + (n + 1) by omega]; exact he)
theorem BJ {f : S → Option (S ⊕ T)} (st : Nat → S) {t : T} (n : Nat) (hs : ∀ i, i < n → f (st i) = some (.inl (st (i + 1)))) (he : f (st n) = some (.inr t)) : fix f (st 0) = some t :=
  TS st n 0 (fun i _ h => hs i (by omega)) (by rw [Nat.zero_add]; exact he)
end
theorem wrap64 {x : Int} (h1 : -9223372036854775808 ≤ x) (h2 : x < 9223372036854775808) : IntKind.i64.wrap x = x := by
  simp only [IntKind.wrap, IntKind.bits, IntKind.signed]
  simp
  omega
theorem wrapU64 {x : Int} (h1 : 0 ≤ x) (h2 : x < 18446744073709551616) : IntKind.u64.wrap x = x := by
  simp only [IntKind.wrap, IntKind.bits, IntKind.signed]
  simp
  omega
theorem wrapU8 {x : Int} (h1 : 0 ≤ x) (h2 : x < 256) : IntKind.u8.wrap x = x := by
  simp only [IntKind.wrap, IntKind.bits, IntKind.signed]
  simp
  omega
theorem Pz {k : Nat} {n : Nat} (hk : k < n) (hn : n ≤ maxLen) : IntKind.i64.wrap ((k : Int) + 1) = ((k + 1 : Nat) : Int) := by
  unfold maxLen at hn
  rw [wrap64 (by omega) (by omega)]; omega
def EqOk {A : Type} (F : A → A → Option Bool) (a : A) : Prop := ∀ b, Ret (F a b) fun r => r = true ↔ a = b
theorem Tb {A : Type} {F : A → A → Option Bool} {z : A} {a b : List A} (hl : a.length = b.length) (hn : a.length ≤ maxLen) (hF : ∀ x ∈ a, EqOk F x) {f : Int → Option (Int ⊕ (Unit ⊕ Unit))}
    (hs : ∀ k : Nat, k < a.length → f (k : Int) = (F (a.getD k z) (b.getD k z)).bind fun r => bif !r then some (.inr (.inl ())) else some (.inl (IntKind.i64.wrap ((k : Int) + 1)))) (he : f (a.length : Int) = some (.inr (.inr ()))) :
    Ret (fix f 0) fun t => (t = .inr () ∧ a = b) ∨ (t = .inl () ∧ a ≠ b) := by
  refine Gc (fun m (i : Int) => ∃ k : Nat, i = (k : Int) ∧ k ≤ a.length ∧ m = a.length - k ∧ a.take k = b.take k) (fun m i hI => ?_) (a.length) 0 ⟨0, rfl, Nat.zero_le _, rfl, rfl⟩
  obtain ⟨k, rfl, hk, rfl, ht⟩ := hI
  rcases Nat.lt_or_ge k a.length with h | h
  · rw [hs k h]
    have ha : a.getD k z = a[k] := by simp [List.getD, h]
    have hb : b.getD k z = b[k]'(by omega) := by simp [List.getD, show k < b.length by omega]
    refine Ret.bind (hF (a.getD k z) (by rw [ha]; exact List.getElem_mem h) (b.getD k z)) fun r hr => ?_
    cases r with
    | false =>
      refine Ret.mk (.inr ⟨rfl, fun e => ?_⟩)
      have : a.getD k z = b.getD k z := by rw [e]
      have := hr.2 this
      cases this
    | true =>
      have e := hr.1 rfl
      refine Ret.mk ⟨a.length - (k + 1), by omega, k + 1, Pz h hn, h, rfl, ?_⟩
      rw [List.take_succ_eq_append_getElem h, List.take_succ_eq_append_getElem (show k < b.length by omega), ht, ← ha, ← hb, e]
  · have hk' : k = a.length := by omega
    subst hk'
    rw [he]
    refine Ret.mk (.inl ⟨rfl, ?_⟩)
    rw [List.take_of_length_le (Nat.le_refl _), List.take_of_length_le (by omega)] at ht
    exact ht
end Go.Va
namespace Go.Va
theorem dlt {k n : Nat} (h : k < n) : decide ((k : Int) < (n : Int)) = true := by simp; exact h
theorem dge (n : Nat) : decide ((n : Int) < (n : Int)) = false := by simp
theorem rng {k n : Nat} (h : k < n) : (0 : Int) ≤ (k : Int) ∧ (k : Int) < (n : Int) := ⟨by omega, by omega⟩
theorem Li {A : Type} {F : A → A → Option Bool} {z : A} {G : List A → List A → Option Bool} {r : List A → List A → Int → Option (Int ⊕ (Unit ⊕ Unit))}
    (hG : ∀ a b, G a b = bif ((a.length : Int) != (b.length : Int)) then some false else (fix (r a b) 0).bind (Sum.elim (fun _ => some false) fun _ => some true))
    (hr : ∀ a b i, r a b i = bif decide (i < (a.length : Int)) then (if (0 : Int) ≤ i ∧ i < (a.length : Int) then (if (0 : Int) ≤ i ∧ i < (b.length : Int) then
      (F (a.getD i.toNat z) (b.getD i.toNat z)).bind fun q => bif !q then some (.inr (.inl ())) else some (.inl (IntKind.i64.wrap (i + 1))) else none) else none) else some (.inr (.inr ())))
    {a : List A} (hn : a.length ≤ maxLen) (hF : ∀ x ∈ a, EqOk F x) : EqOk G a := by
  intro b
  rw [hG]
  refine Ret.cond (fun h => Ret.mk ⟨fun h => by (cases h), fun e => ?_⟩) fun h => ?_
  · subst e; simp at h
  · have hl : a.length = b.length := by
      have : (a.length : Int) = (b.length : Int) := by simpa using h
      omega
    refine Ret.bind (Tb (z := z) hl hn hF (fun k hk => ?_) ?_) fun t ht => ?_
    · rw [hr, dlt hk, cond_true, if_pos (rng hk), if_pos (rng (by omega))]
      rfl
    · rw [hr, dge, cond_false]
    · rcases ht with ⟨rfl, e⟩ | ⟨rfl, e⟩
      · exact Ret.mk ⟨fun _ => e, fun _ => rfl⟩
      · exact Ret.mk ⟨fun h => by (cases h), fun h => (e h).elim⟩
end Go.Va
namespace Go.Proofs.X
open Go Go.Va
set_option maxRecDepth 100000
theorem KB (s t : ByteArray) : strEq s t = true ↔ s = t := by
  unfold strEq
  rw [ByteArray.toList_eq, ByteArray.toList_eq, beq_iff_eq]
  constructor
  · intro h
    cases s with
    | mk a => cases t with
      | mk b => simp at h; rw [h]
  · rintro rfl; rfl
theorem PK {a : List Int} (hn : a.length ≤ maxLen) : EqOk FS a :=
  Li (F := fun x y => some (x == y)) (z := Ty.zero (.int .u64)) (r := DH) (fun _ _ => rfl) (fun _ _ _ => rfl) hn fun x _ y => Ret.mk (by simp)
theorem PU {a : List Int} (hn : a.length ≤ maxLen) : EqOk Hk a :=
  Li (F := fun x y => some (x == y)) (z := Ty.zero (.int .i64)) (r := Ey) (fun _ _ => rfl) (fun _ _ _ => rfl) hn fun x _ y => Ret.mk (by simp)
theorem UF {a : Aj.V} (h : Ty.Wf Aj a) : EqOk HC a := by
  intro b
  obtain ⟨w, ws, _⟩ := a
  obtain ⟨w', ws', _⟩ := b
  unfold HC
  refine Ret.cond (fun h1 => Ret.mk (by simp at h1; simp [h1])) fun h1 => Ret.bind (PK h.2.1.1 ws') fun r hr => Ret.cond (fun h2 => Ret.mk (by simp at h1 h2; simp_all)) fun h2 => Ret.mk (by simp at h1 h2; simp_all)
theorem Th (a : Ae.V) : EqOk (fun x y => some (GA x y)) a := by
  intro b
  obtain ⟨n, w, _⟩ := a
  obtain ⟨n', w', _⟩ := b
  refine Ret.mk ?_
  simp [GA, KB]
theorem RR {a : List Ae.V} (h : Ty.Wf (.sl Ae) a) : EqOk Il a :=
  Li (F := fun x y => some (GA x y)) (z := Ty.zero Ae) (r := Fv) (fun _ _ => rfl) (fun _ _ _ => rfl) h.1 fun x hx => Th x
theorem Sb {a : Ad.V} (h : Ty.Wf Ad a) : EqOk Fc a := by
  intro b
  obtain ⟨o, v, A, B, x, k, _⟩ := a
  obtain ⟨o', v', A', B', x', k', _⟩ := b
  unfold Fc
  refine Ret.cond (fun h1 => Ret.mk (by simp at h1; simp [h1])) fun h1 => Ret.cond (fun h2 => Ret.mk (by simp at h1 h2; simp [h2])) fun h2 => Ret.cond (fun h3 => Ret.mk (by simp at h1 h3; simp [h3])) fun h3 => Ret.cond (fun h3 => Ret.mk (by simp at h1 h3; simp [h3])) fun h5 =>
    Ret.bind (UF h.2.2.2.2.1 x') fun r hr => Ret.cond (fun h4 => Ret.mk (by simp at h1 h2 h3 h4; simp_all)) fun h4 => Ret.bind (PU h.2.2.2.2.2.1.1 k') fun r2 hr2 => Ret.cond (fun h6 => Ret.mk (by simp at h1 h2 h3 h4 h6; simp_all)) fun h6 => Ret.mk (by simp at h1 h2 h3 h4 h5 h6; simp_all)
theorem Qy {a : List Ad.V} (h : Ty.Wf (.sl Ad) a) : EqOk Hy a :=
  Li (F := Fc) (z := Ty.zero Ad) (r := EJ) (fun _ _ => rfl) (fun _ _ _ => rfl) h.1 fun x hx => Sb (h.2 x hx)
theorem Mm {a : Ai.V} (h : Ty.Wf Ai a) : EqOk EM a := by
  intro b
  obtain ⟨n, _⟩ := a
  obtain ⟨n', _⟩ := b
  unfold EM
  refine Ret.bind (Qy h.1 n') fun r1 hr1 => Ret.cond (fun h1 => Ret.mk (by simp at h1; simp_all)) fun h1 => Ret.mk (by simp at h1; simp_all)
theorem O6 {a : Af.V} (h : Ty.Wf Af a) : EqOk C9 a := by
  intro b
  obtain ⟨i, e, s, t, _⟩ := a
  obtain ⟨i', e', s', t', _⟩ := b
  unfold C9
  refine Ret.cond (fun h1 => Ret.mk (by simp at h1; simp [h1])) fun h1 => Ret.cond (fun h2 => Ret.mk (by simp at h1 h2; simp [h2])) fun h2 =>
    Ret.bind (Mm h.2.2.1 s') fun r hr => Ret.cond (fun h4 => Ret.mk (by simp at h1 h2 h4; simp_all)) fun h4 => Ret.bind (Mm h.2.2.2.1 t') fun r2 hr2 => Ret.cond (fun h6 => Ret.mk (by simp at h1 h2 h4 h6; simp_all)) fun h6 => Ret.mk (by simp at h1 h2 h4 h6; simp_all)
theorem Oa {a : List Af.V} (h : Ty.Wf (.sl Af) a) : EqOk Fb a :=
  Li (F := C9) (z := Ty.zero Af) (r := De) (fun _ _ => rfl) (fun _ _ _ => rfl) h.1 fun x hx => O6 (h.2 x hx)
theorem R1 {a : Aa.V} (h : Ty.Wf Aa a) : EqOk EX a := by
  intro b
  obtain ⟨o, v, A, B, x, k, _⟩ := a
  obtain ⟨o', v', A', B', x', k', _⟩ := b
  unfold EX
  refine Ret.cond (fun h1 => Ret.mk (by simp at h1; simp [h1])) fun h1 => Ret.cond (fun h2 => Ret.mk (by simp at h1 h2; simp [h2])) fun h2 => Ret.cond (fun h3 => Ret.mk (by simp at h1 h3; simp [h3])) fun h3 => Ret.cond (fun h3 => Ret.mk (by simp at h1 h3; simp [h3])) fun h5 => Ret.cond (fun h3 => Ret.mk (by simp at h1 h3; simp [h3])) fun h7 =>
    Ret.bind (Mm h.2.2.2.2.2.1 k') fun r hr => Ret.cond (fun h4 => Ret.mk (by simp at h1 h2 h3 h4; simp_all)) fun h4 => Ret.mk (by simp at h1 h2 h3 h4 h5 h7; simp_all)
theorem Mr {a : List Aa.V} (h : Ty.Wf (.sl Aa) a) : EqOk CM a :=
  Li (F := EX) (z := Ty.zero Aa) (r := EB) (fun _ _ => rfl) (fun _ _ _ => rfl) h.1 fun x hx => R1 (h.2 x hx)
end Go.Proofs.X
namespace Go.Va
def wt : (t : Ty) → t.V → Nat
  | .str, s => s.size
  | .pair a b, x => wt a x.1 + wt b x.2
  | .sl t, xs => xs.length + (xs.map (wt t)).sum
  | .int _, _ => 0
  | .bool, _ => 0
  | .unit, _ => 0
  | .opq _, _ => 0
def SzOk (t : Ty) (F : t.V → Int → Option Int) (x : t.V) : Prop := ∀ left : Int, 0 ≤ left → left ≤ 1048576 → F x left = some (if (wt t x : Int) ≤ left then left - (wt t x : Int) else -1)
theorem Rt {t : Ty} {F : t.V → Int → Option Int} {z : t.V} {G : List t.V → Int → Option Int} {r : List t.V → Int × Int → Option ((Int × Int) ⊕ (Int ⊕ Int))}
    (hG : ∀ a left, G a left = bif decide ((IntKind.i64.wrap (left - (a.length : Int))) < 0) then some (-1) else (fix (r a) (IntKind.i64.wrap (left - (a.length : Int)), 0)).bind (Sum.elim (fun _ => some (-1)) fun y => some y))
    (hr : ∀ a x, r a x = bif decide (x.2 < (a.length : Int)) then (if (0 : Int) ≤ x.2 ∧ x.2 < (a.length : Int) then
      (F (a.getD x.2.toNat z) x.1).bind fun q => bif decide (q < 0) then some (.inr (.inl q)) else some (.inl (q, IntKind.i64.wrap (x.2 + 1))) else none) else some (.inr (.inr x.1)))
    {a : List t.V} (hn : a.length ≤ maxLen) (hF : ∀ x ∈ a, SzOk t F x) : SzOk (.sl t) G a := by
  intro left h0 h1
  have hm : maxLen = 140737488355327 ∨ True := .inr trivial
  have hw : IntKind.i64.wrap (left - (a.length : Int)) = left - (a.length : Int) := by unfold maxLen at hn; exact wrap64 (by omega) (by omega)
  rw [hG, hw]
  have hwt : wt (.sl t) a = a.length + (a.map (wt t)).sum := rfl
  rw [hwt]
  by_cases hneg : left - (a.length : Int) < 0
  · rw [show decide (left - (a.length : Int) < 0) = true by simpa using hneg, cond_true, if_neg (by omega)]
  · rw [show decide (left - (a.length : Int) < 0) = false by simpa using hneg, cond_false]
    have key : Ret (fix (r a) (left - (a.length : Int), 0)) fun y => (∃ q, y = .inl q ∧ left < ((a.length + (a.map (wt t)).sum : Nat) : Int)) ∨ y = .inr (left - ((a.length + (a.map (wt t)).sum : Nat) : Int)) ∧ ((a.length + (a.map (wt t)).sum : Nat) : Int) ≤ left := by
      refine Gc (fun m (x : Int × Int) => ∃ k : Nat, x.2 = (k : Int) ∧ k ≤ a.length ∧ m = a.length - k ∧ x.1 = left - (a.length : Int) - (((a.take k).map (wt t)).sum : Nat) ∧ 0 ≤ x.1) (fun m x hI => ?_) a.length _ ⟨0, rfl, Nat.zero_le _, rfl, by simp, by show 0 ≤ left - (a.length : Int); omega⟩
      obtain ⟨l, i⟩ := x
      obtain ⟨k, hk1, hk, rfl, hl, hl0⟩ := hI
      simp only at hk1 hl hl0
      subst hk1
      rw [hr]
      simp only
      rcases Nat.lt_or_ge k a.length with h | h
      · rw [dlt h, cond_true, if_pos (rng h)]
        have ha : a.getD k z = a[k] := by simp [List.getD, h]
        have hsum : ((a.take (k + 1)).map (wt t)).sum = ((a.take k).map (wt t)).sum + wt t a[k] := by
          rw [List.take_succ_eq_append_getElem h, List.map_append, List.sum_append]
          simp
        have htot : ((a.take (k + 1)).map (wt t)).sum ≤ (a.map (wt t)).sum := by
          conv => rhs; rw [← List.take_append_drop (k + 1) a, List.map_append, List.sum_append]
          omega
        rw [show (k : Int).toNat = k from Int.toNat_natCast k, ha, hF _ (List.getElem_mem h) l hl0 (by omega), Option.bind_some]
        split
        · rename_i hle
          rw [show decide (l - (wt t a[k] : Int) < 0) = false by simpa using hle, cond_false]
          exact Ret.mk ⟨a.length - (k + 1), by omega, k + 1, Pz h hn, h, rfl, by rw [hsum, hl]; push_cast; omega, by show 0 ≤ l - _; omega⟩
        · rename_i hgt
          refine Ret.mk (.inl ⟨_, rfl, ?_⟩)
          push_cast
          rw [hsum] at htot
          omega
      · have hk' : k = a.length := by omega
        subst hk'
        rw [dge, cond_false]
        rw [List.take_of_length_le (Nat.le_refl _)] at hl
        exact Ret.mk (.inr ⟨by rw [hl]; push_cast; rw [Int.sub_sub], by push_cast; omega⟩)
    obtain ⟨y, hy, hq⟩ := key
    rw [hy]
    rcases hq with ⟨q, rfl, hlt⟩ | ⟨rfl, hle⟩
    · rw [if_neg (by omega)]; rfl
    · rw [if_pos hle]; rfl
end Go.Va
namespace Go.Proofs.X
open Go Go.Va
theorem TO {A : Type} {xs : List A} {left : Int} (h0 : 0 ≤ left) (h1 : left ≤ 1048576) (hn : xs.length ≤ maxLen) : (bif decide ((IntKind.i64.wrap (left - (xs.length : Int))) < 0) then (-1) else IntKind.i64.wrap (left - (xs.length : Int))) = if (xs.length : Int) ≤ left then left - (xs.length : Int) else -1 := by
  unfold maxLen at hn
  rw [wrap64 (by omega) (by omega)]
  split
  · rw [show decide (left - (xs.length : Int) < 0) = false by simp; omega]; rfl
  · rw [show decide (left - (xs.length : Int) < 0) = true by simp; omega]; rfl
theorem RC {A : Type} {f : A → Nat} (h : ∀ x, f x = 0) (xs : List A) : (xs.map f).sum = 0 := by
  induction xs with
  | nil => rfl
  | cons x xs ih => simp [h, ih]
theorem T5 (a : List Int) : wt (.sl (.int .u64)) a = a.length := congrArg (a.length + ·) (RC (fun _ => rfl) a)
theorem Uk (a : List Int) : wt (.sl (.int .i64)) a = a.length := congrArg (a.length + ·) (RC (fun _ => rfl) a)
theorem Pl {a : List Int} (hn : a.length ≤ maxLen) : SzOk (.sl (.int .u64)) (fun x l => some (AS x l)) a := fun left h0 h1 => by
  show some (AS a left) = _
  rw [AS, TO h0 h1 hn, T5]
theorem QC {a : List Int} (hn : a.length ≤ maxLen) : SzOk (.sl (.int .i64)) (fun x l => some (A6 x l)) a := fun left h0 h1 => by
  show some (A6 a left) = _
  rw [A6, TO h0 h1 hn, Uk]
end Go.Proofs.X
namespace Go.Va
section
variable {A B : Type} {Q : A → Prop} {x y : Option A}
theorem Ji {a : A} : Ret (some a) Q ↔ Q a := ⟨fun ⟨_, h, q⟩ => by cases h; exact q, fun h => ⟨a, rfl, h⟩⟩
theorem AcX {c : Bool} : Ret (bif c then x else y) Q ↔ (c = true → Ret x Q) ∧ (c = false → Ret y Q) := by cases c <;> simp
theorem Agk {c : Prop} [Decidable c] : Ret (if c then x else none) Q ↔ c ∧ Ret x Q := by
  by_cases h : c
  · simp [h]
  · simp [h, Ret]
theorem AcZ {c : Prop} [Decidable c] : Ret (if c then none else x) Q ↔ ¬ c ∧ Ret x Q := by
  by_cases h : c
  · simp [h, Ret]
  · simp [h]
theorem Ret.elim' {C D : Type} {f : C → Option A} {g : D → Option A} {z : C ⊕ D} (h : match z with | .inl c => Ret (f c) Q | .inr d => Ret (g d) Q) : Ret (Sum.elim f g z) Q := by
  cases z <;> exact h
end
theorem Bz {X S T : Type} {f : X → Option (X ⊕ T)} (st : Nat → S → X) (n : Nat) (I : Nat → S → Prop) {Q : T → Prop}
    (h : ∀ k s, k < n → I k s → Ret (f (st k s)) fun r => match r with | .inl x => ∃ s', x = st (k + 1) s' ∧ I (k + 1) s' | .inr t => Q t)
    (he : ∀ s, I n s → Ret (f (st n s)) fun r => match r with | .inl _ => False | .inr t => Q t) {s0 : S} (h0 : I 0 s0) : Ret (fix f (st 0 s0)) Q := by
  refine Gc (fun m x => ∃ k s, x = st k s ∧ k ≤ n ∧ m = n - k ∧ I k s) (fun m x hI => ?_) n (st 0 s0) ⟨0, s0, rfl, Nat.zero_le _, rfl, h0⟩
  obtain ⟨k, s, rfl, hk, rfl, hI⟩ := hI
  rcases Nat.lt_or_ge k n with hlt | hge
  · refine (h k s hlt hI).mono fun r hr => ?_
    cases r with
    | inl x =>
      obtain ⟨s', rfl, hI'⟩ := hr
      exact ⟨n - (k + 1), by omega, k + 1, s', rfl, hlt, rfl, hI'⟩
    | inr t => exact hr
  · have : k = n := by omega
    subst this
    refine (he s hI).mono fun r hr => ?_
    cases r with
    | inl x => exact hr.elim
    | inr t => exact hr
def W64 (x : Int) : Prop := 0 ≤ x ∧ x < 18446744073709551616
def tb (x : Int) (j : Nat) : Bool := x.toNat.testBit j
theorem W64.toNat {x : Int} (h : W64 x) : x.toNat < 2 ^ 64 := by unfold W64 at h; omega
theorem W64.of {n : Nat} (h : n < 2 ^ 64) : W64 (n : Int) := by unfold W64; omega
theorem LC {x : Int} (h : W64 x) {j : Nat} (hj : 64 ≤ j) : tb x j = false :=
  Nat.testBit_lt_two_pow (Nat.lt_of_lt_of_le h.toNat (Nat.pow_le_pow_right (by decide) hj))
theorem W64.ext {x y : Int} (hx : W64 x) (hy : W64 y) (h : ∀ j, j < 64 → tb x j = tb y j) : x = y := by
  have : x.toNat = y.toNat := Nat.eq_of_testBit_eq fun j => by
    rcases Nat.lt_or_ge j 64 with hj | hj
    · exact h j hj
    · exact (LC hx hj).trans (LC hy hj).symm
  unfold W64 at hx hy
  omega
theorem NS {n : Nat} (h : n < 2 ^ 64) : IntKind.u64.wrap (n : Int) = (n : Int) := wrapU64 (by omega) (by omega)
theorem Kk {x : Int} (h : W64 x) : (BitVec.ofInt 64 x).toNat = x.toNat := by
  unfold W64 at h
  rw [BitVec.toNat_ofInt]
  simp
  omega
theorem W0 {a b : Int} (ha : W64 a) (hb : W64 b) : orI .u64 a b = ((a.toNat ||| b.toNat : Nat) : Int) := by
  show IntKind.u64.wrap (((BitVec.ofInt 64 a ||| BitVec.ofInt 64 b).toNat : Nat) : Int) = _
  rw [NS (BitVec.isLt _), BitVec.toNat_or, Kk ha, Kk hb]
theorem TR {a b : Int} (ha : W64 a) (hb : W64 b) : andI .u64 a b = ((a.toNat &&& b.toNat : Nat) : Int) := by
  show IntKind.u64.wrap (((BitVec.ofInt 64 a &&& BitVec.ofInt 64 b).toNat : Nat) : Int) = _
  rw [NS (BitVec.isLt _), BitVec.toNat_and, Kk ha, Kk hb]
theorem RI {a b : Int} (ha : W64 a) (hb : W64 b) : W64 (orI .u64 a b) := by
  rw [W0 ha hb]; exact .of (Nat.or_lt_two_pow ha.toNat hb.toNat)
theorem TH {a b : Int} (ha : W64 a) (hb : W64 b) : W64 (andI .u64 a b) := by
  rw [TR ha hb]; exact .of (Nat.and_lt_two_pow _ hb.toNat)
theorem Wj {a b : Int} (ha : W64 a) (hb : W64 b) (j : Nat) : tb (orI .u64 a b) j = (tb a j || tb b j) := by
  rw [W0 ha hb, tb, Int.toNat_natCast, Nat.testBit_or]; rfl
theorem Xg {a b : Int} (ha : W64 a) (hb : W64 b) (j : Nat) : tb (andI .u64 a b) j = (tb a j && tb b j) := by
  rw [TR ha hb, tb, Int.toNat_natCast, Nat.testBit_and]; rfl
theorem TQ {a : Int} (ha : W64 a) {s : Int} {n : Nat} (hs : s = (n : Int)) (hn : n ≤ 64) : shrI .u64 a s = ((a.toNat / 2 ^ n : Nat) : Int) := by
  subst hs
  unfold W64 at ha
  obtain ⟨m, rfl⟩ : ∃ m : Nat, a = (m : Int) := ⟨a.toNat, by omega⟩
  have h : shrI .u64 (m : Int) (n : Int) = Int.fdiv (m : Int) (2 ^ min ((n : Int).toNat) 64) := rfl
  rw [h, Int.toNat_natCast, Int.toNat_natCast, Nat.min_eq_left hn, Int.fdiv_eq_ediv_of_nonneg _ (by exact Int.le_of_lt (Int.pow_pos (by decide)))]
  norm_cast
theorem N3 {a : Int} (ha : W64 a) {s : Int} {n : Nat} (hs : s = (n : Int)) (hn : n ≤ 64) : W64 (shrI .u64 a s) := by
  rw [TQ ha hs hn]; exact .of (Nat.lt_of_le_of_lt (Nat.div_le_self _ _) ha.toNat)
theorem Ni {a : Int} (ha : W64 a) {s : Int} {n : Nat} (hs : s = (n : Int)) (hn : n ≤ 64) (j : Nat) : tb (shrI .u64 a s) j = tb a (j + n) := by
  rw [TQ ha hs hn, tb, Int.toNat_natCast, Nat.testBit_div_two_pow, tb, Nat.add_comm]
theorem Qr {a : Int} (ha : W64 a) {s : Int} {n : Nat} (hs : s = (n : Int)) (hn : n ≤ 64) : shlI .u64 a s = ((a.toNat * 2 ^ n % 18446744073709551616 : Nat) : Int) := by
  subst hs
  unfold W64 at ha
  obtain ⟨m, rfl⟩ : ∃ m : Nat, a = (m : Int) := ⟨a.toNat, by omega⟩
  have h : shlI .u64 (m : Int) (n : Int) = IntKind.u64.wrap ((m : Int) * 2 ^ min ((n : Int).toNat) 64) := rfl
  have hw : ∀ x : Int, IntKind.u64.wrap x = x % 18446744073709551616 := fun x => by simp [IntKind.wrap, IntKind.bits, IntKind.signed]
  rw [h, Int.toNat_natCast, Int.toNat_natCast, Nat.min_eq_left hn, hw, Int.natCast_emod, Int.natCast_mul, Int.natCast_pow]
  rfl
theorem QD {a : Int} (ha : W64 a) {s : Int} {n : Nat} (hs : s = (n : Int)) (hn : n ≤ 64) : W64 (shlI .u64 a s) := by
  rw [Qr ha hs hn]; exact .of (Nat.mod_lt _ (by omega))
theorem SW {a : Int} (ha : W64 a) {s : Int} {n : Nat} (hs : s = (n : Int)) (hn : n ≤ 64) (j : Nat) : tb (shlI .u64 a s) j = (decide (j < 64) && (decide (n ≤ j) && tb a (j - n))) := by
  rw [Qr ha hs hn, tb, Int.toNat_natCast, show (18446744073709551616 : Nat) = 2 ^ 64 from by decide, Nat.testBit_mod_two_pow, Nat.testBit_mul_two_pow, tb]
theorem K4 (j : Nat) : tb 0 j = false := by simp [tb]
theorem Ld : W64 0 := by unfold W64; omega
theorem MB : W64 1 := by unfold W64; omega
theorem S4 {s : Int} {n : Nat} (hs : s = (n : Int)) (hn : n < 64) : IntKind.u64.wrap (shlI .u64 1 s - 1) = ((2 ^ n - 1 : Nat) : Int) := by
  have h1 : 0 < 2 ^ n := Nat.two_pow_pos n
  have h2 : 2 ^ n < 2 ^ 64 := Nat.pow_lt_pow_right (by decide) hn
  rw [Qr MB hs (by omega)]
  rw [show (1 : Int).toNat * 2 ^ n % 18446744073709551616 = 2 ^ n by rw [show (1 : Int).toNat = 1 from rfl, Nat.one_mul]; exact Nat.mod_eq_of_lt h2]
  rw [show ((2 ^ n : Nat) : Int) - 1 = ((2 ^ n - 1 : Nat) : Int) by omega]
  exact NS (by omega)
theorem Vv {s : Int} {n : Nat} (hs : s = (n : Int)) (hn : n < 64) : W64 (IntKind.u64.wrap (shlI .u64 1 s - 1)) := by
  have h2 : 2 ^ n < 2 ^ 64 := Nat.pow_lt_pow_right (by decide) hn
  rw [S4 hs hn]; exact .of (by omega)
theorem Yi {s : Int} {n : Nat} (hs : s = (n : Int)) (hn : n < 64) (j : Nat) : tb (IntKind.u64.wrap (shlI .u64 1 s - 1)) j = decide (j < n) := by
  rw [S4 hs hn, tb, Int.toNat_natCast, Nat.testBit_two_pow_sub_one]
theorem QY (j : Nat) : tb 1 j = decide (j = 0) := by
  show Nat.testBit 1 j = _
  cases j with
  | zero => rfl
  | succ j => simp [Nat.testBit_succ]
theorem Tn {a : Int} (ha : W64 a) : andI .u64 a 1 = if tb a 0 then 1 else 0 := by
  refine W64.ext (TH ha MB) (by split <;> first | exact MB | exact Ld) fun j _ => ?_
  rw [Xg ha MB, QY]
  by_cases h : j = 0
  · subst h; cases h : tb a 0 <;> simp [QY, K4]
  · cases h' : tb a 0 <;> simp [QY, K4, h]
def Words (ws : List Int) : Prop := ∀ x ∈ ws, W64 x
def bt (ws : List Int) (i : Nat) : Bool := tb (ws.getD (i / 64) 0) (i % 64)
theorem Words.getD {ws : List Int} (h : Words ws) (k : Nat) : W64 (ws.getD k 0) := by
  rcases Nat.lt_or_ge k ws.length with hk | hk
  · rw [show ws.getD k 0 = ws[k] by simp [List.getD, hk]]; exact h _ (List.getElem_mem hk)
  · rw [show ws.getD k 0 = 0 by simp [List.getD, hk]]; exact Ld
theorem Words.set {ws : List Int} (h : Words ws) {k : Nat} {x : Int} (hx : W64 x) : Words (ws.set k x) := fun y hy => by
  rcases List.mem_or_eq_of_mem_set hy with h' | rfl
  · exact h y h'
  · exact hx
theorem Words.rep {n : Nat} : Words (List.replicate n 0) := fun x hx => by rw [(List.mem_replicate.1 hx).2]; exact Ld
theorem WW (n i : Nat) : bt (List.replicate n 0) i = false := by
  unfold bt
  rw [show (List.replicate n (0 : Int)).getD (i / 64) 0 = 0 by simp [List.getD, List.getElem?_replicate]; split <;> rfl]
  exact K4 _
theorem LA {ws : List Int} {i : Nat} (h : 64 * ws.length ≤ i) : bt ws i = false := by
  unfold bt
  rw [show ws.getD (i / 64) 0 = 0 by simp [List.getD, show ws.length ≤ i / 64 by omega]]
  exact K4 _
theorem MP {ws : List Int} {k : Nat} {x : Int} (hk : k < ws.length) (i : Nat) : bt (ws.set k x) i = if i / 64 = k then tb x (i % 64) else bt ws i := by
  unfold bt
  by_cases h : i / 64 = k
  · rw [if_pos h, h, show (ws.set k x).getD k 0 = x by simp [List.getD, hk]]
  · rw [if_neg h, show (ws.set k x).getD (i / 64) 0 = ws.getD (i / 64) 0 by simp [List.getD, List.getElem?_set, show ¬ k = i / 64 from fun e => h e.symm]]
theorem Ka {a b : List Int} (ha : Words a) (hb : Words b) (hl : a.length = b.length) (h : ∀ i, i < 64 * a.length → bt a i = bt b i) : a = b := by
  refine List.ext_getElem hl fun k h1 h2 => W64.ext (ha _ (List.getElem_mem h1)) (hb _ (List.getElem_mem h2)) fun j hj => ?_
  have := h (64 * k + j) (by omega)
  unfold bt at this
  rw [show (64 * k + j) / 64 = k by omega, show (64 * k + j) % 64 = j by omega] at this
  simpa [List.getD, h1, h2] using this
def pk (f : Nat → Bool) : Nat → Nat
  | 0 => 0
  | n + 1 => (if f n then 2 ^ n else 0) + pk f n
theorem Xo (f : Nat → Bool) : ∀ n, pk f n < 2 ^ n
  | 0 => by simp [pk]
  | n + 1 => by
    have := Xo f n
    have h2 : 2 ^ (n + 1) = 2 ^ n + 2 ^ n := by rw [Nat.pow_succ]; omega
    unfold pk
    split <;> omega
theorem SQ (f : Nat → Bool) : ∀ n j, (pk f n).testBit j = (decide (j < n) && f j)
  | 0, j => by simp [pk]
  | n + 1, j => by
    have hl := Xo f n
    unfold pk
    cases hf : f n with
    | false =>
      simp only [Bool.false_eq_true, if_false, Nat.zero_add, SQ f n j]
      by_cases h : j = n
      · subst h; simp [hf]
      · rw [show decide (j < n + 1) = decide (j < n) by simp; omega]
    | true =>
      simp only [if_true]
      rcases Nat.lt_trichotomy j n with h | h | h
      · rw [Nat.testBit_two_pow_add_gt h, SQ f n j]; simp [h]; omega
      · subst h; rw [Nat.testBit_two_pow_add_eq, Nat.testBit_lt_two_pow hl]; simp [hf]
      · rw [Nat.testBit_lt_two_pow (Nat.lt_of_lt_of_le (show 2 ^ n + pk f n < 2 ^ (n + 1) by rw [Nat.pow_succ]; omega) (Nat.pow_le_pow_right (by decide) h))]
        simp; omega
def mkW (f : Nat → Bool) (m : Nat) : List Int := (List.range m).map fun k => (pk (fun j => f (64 * k + j)) 64 : Int)
theorem Ek (f : Nat → Bool) (m : Nat) : (mkW f m).length = m := by simp [mkW]
theorem Dv (f : Nat → Bool) (m : Nat) : Words (mkW f m) := fun x hx => by
  obtain ⟨k, _, rfl⟩ := List.mem_map.1 hx
  exact .of (Xo _ _)
theorem NI (f : Nat → Bool) (m i : Nat) : bt (mkW f m) i = (decide (i < 64 * m) && f i) := by
  rcases Nat.lt_or_ge i (64 * m) with h | h
  · unfold bt mkW
    rw [show ((List.range m).map fun k => (pk (fun j => f (64 * k + j)) 64 : Int)).getD (i / 64) 0 = (pk (fun j => f (64 * (i / 64) + j)) 64 : Int) by
      simp [List.getD, show i / 64 < m by omega], tb, Int.toNat_natCast, SQ, show 64 * (i / 64) + i % 64 = i by omega]
    simp [h]; omega
  · rw [LA (by rw [Ek]; exact h)]; simp; omega
theorem VP {ws : List Int} (h : Words ws) {f : Nat → Bool} (hf : ∀ i, i < 64 * ws.length → bt ws i = f i) : ws = mkW f ws.length :=
  Ka h (Dv _ _) (Ek _ _).symm fun i hi => by rw [hf i hi, NI]; simp [hi]
theorem TM {f g : Nat → Bool} {m : Nat} (h : ∀ i, i < 64 * m → f i = g i) : mkW f m = mkW g m :=
  Ka (Dv _ _) (Dv _ _) (by rw [Ek, Ek]) fun i hi => by rw [Ek] at hi; rw [NI, NI, h i hi]
def low (f : Nat → Bool) (n : Nat) : Nat → Bool := fun i => decide (i < n) && f i
def nw (n : Nat) : Nat := (n + 63) / 64
end Go.Va
namespace Go.Proofs.X
open Go Go.Va
set_option maxRecDepth 100000
theorem tdiv64 {i : Nat} (h : i < 4611686018427387904) : IntKind.i64.wrap (Int.tdiv (i : Int) 64) = ((i / 64 : Nat) : Int) := by
  rw [Int.tdiv_eq_ediv_of_nonneg (by omega), wrap64 (by omega) (by omega)]
  omega
theorem tmod64 (i : Nat) : Int.tmod (i : Int) 64 = ((i % 64 : Nat) : Int) := by
  rw [Int.tmod_eq_emod_of_nonneg (by omega)]
  omega
theorem words64 {n : Nat} (h : n ≤ 1048576) : IntKind.i64.wrap (Int.tdiv (IntKind.i64.wrap ((n : Int) + 63)) 64) = ((nw n : Nat) : Int) := by
  rw [wrap64 (x := (n : Int) + 63) (by omega) (by omega), show (n : Int) + 63 = ((n + 63 : Nat) : Int) by omega, tdiv64 (by omega)]
  rfl
def mkB (n : Nat) (f : Nat → Bool) : Aj.V := ((n : Int), mkW (low f n) (nw n), ())
def bI (b : Bool) : Int := if b then 1 else 0
theorem Aiy {a b : Bool} : bI a = bI b ↔ a = b := by cases a <;> cases b <;> decide
def BitsP (n : Nat) (ws : List Int) : Prop := 1 ≤ n ∧ n ≤ 4096 ∧ ws.length = nw n ∧ Words ws ∧ ∀ i, n ≤ i → bt ws i = false
theorem Po {n : Nat} {f : Nat → Bool} (h1 : 1 ≤ n) (h2 : n ≤ 4096) : BitsP n (mkW (low f n) (nw n)) :=
  ⟨h1, h2, Ek _ _, Dv _ _, fun i hi => by rw [NI]; simp [low]; omega⟩
theorem BitsP.eq {n : Nat} {ws : List Int} (h : BitsP n ws) : ws = mkW (low (bt ws) n) (nw n) := by
  obtain ⟨_, _, hl, hw, hz⟩ := h
  conv => lhs; rw [VP hw (f := low (bt ws) n) fun i hi => by
    unfold low
    by_cases h : i < n
    · simp [h]
    · rw [hz i (by omega)]; simp]
  rw [hl]
theorem QZ {n : Nat} {f : Nat → Bool} {i : Nat} (hi : i < n) : bt (mkW (low f n) (nw n)) i = f i := by
  rw [NI]; unfold nw low
  simp [hi]; omega
theorem FF {n : Nat} {f : Nat → Bool} {i : Nat} : bt (mkW (low f n) (nw n)) i = (decide (i < n) && f i) := by
  by_cases h : i < n
  · rw [QZ h]; simp [h]
  · rw [NI]; unfold low; simp [h]
theorem TF {n : Nat} {f g : Nat → Bool} (h : ∀ i, i < n → f i = g i) : mkB n f = mkB n g := by
  unfold mkB
  rw [TM fun i _ => show low f n i = low g n i by
    unfold low
    by_cases hi : i < n
    · simp [hi, h i hi]
    · simp [hi]]
theorem Ahh {n : Nat} {f g : Nat → Bool} (h : mkB n f = mkB n g) : ∀ i, i < n → f i = g i := fun i hi => by
  have : mkW (low f n) (nw n) = mkW (low g n) (nw n) := congrArg (fun x : Aj.V => x.2.1) h
  rw [← QZ hi (f := f), this, QZ hi]
theorem Oo {w : Int} {ws : List Int} (hw : Words ws) {i : Nat} (hi : i < 64 * ws.length) (hn : ws.length ≤ 1048576) : Dx (w, ws, ()) (i : Int) = some (bI (bt ws i)) := by
  unfold Dx
  rw [tdiv64 (by omega), tmod64, wrapU64 (by omega) (by omega)]
  rw [if_pos ⟨by omega, by show ((i / 64 : Nat) : Int) < (ws.length : Int); omega⟩, if_neg (by omega), Int.toNat_natCast]
  show some (IntKind.u8.wrap (andI .u64 (shrI .u64 (ws.getD (i / 64) 0) ((i % 64 : Nat) : Int)) 1)) = _
  rw [show IntKind.u8.wrap (andI .u64 (shrI .u64 (ws.getD (i / 64) 0) ((i % 64 : Nat) : Int)) 1) = bI (bt ws i) by
    rw [Tn (N3 (hw.getD _) rfl (by omega)), Ni (hw.getD _) rfl (by omega), Nat.zero_add]
    show IntKind.u8.wrap (bI (bt ws i)) = _
    cases bt ws i <;> rfl]
theorem VE {ws : List Int} (h : ∀ x ∈ ws, (IntKind.u64).min ≤ x ∧ x ≤ (IntKind.u64).max) : Words ws := fun x hx => by
  have := h x hx
  unfold W64
  simp only [IntKind.min, IntKind.max, IntKind.bits, IntKind.signed] at this
  simp at this
  omega
theorem Ly {w : Int} {ws : List Int} (hw : Words ws) (hn : ws.length ≤ 1048576) : Ret (DM (w, ws, ())) fun r => r = true ↔ ∃ n : Nat, w = (n : Int) ∧ BitsP n ws := by
  unfold DM mkr
  refine Ret.cond (fun h => Ret.mk ?_) fun h => ?_
  · simp only [Bool.false_eq_true, false_iff, not_exists, not_and]
    rintro n rfl ⟨h1, h2, h3, _⟩
    unfold nw at h3
    simp only [AA, words64 (show n ≤ 1048576 by omega), Bool.or_eq_true, Bool.not_eq_true', Bool.and_eq_false_iff, decide_eq_false_iff_not, bne_iff_ne] at h
    unfold nw at h
    omega
  · have hb : 1 ≤ w ∧ w ≤ 4096 := by
      simp only [AA, Bool.or_eq_false_iff, Bool.not_eq_false', Bool.and_eq_true, decide_eq_true_eq] at h
      omega
    obtain ⟨n, rfl⟩ : ∃ n : Nat, w = (n : Int) := ⟨w.toNat, by omega⟩
    have hl : ws.length = nw n := by
      simp only [Bool.or_eq_false_iff, bne_eq_false_iff_eq] at h
      have h := h.2
      rw [words64 (by omega)] at h
      omega
    have key : Ret (JC ((n : Int), ws, ()) (n : Int)) fun t => (t = .inl () ∧ ¬ ∀ i, n ≤ i → bt ws i = false) ∨ (t = .inr () ∧ ∀ i, n ≤ i → bt ws i = false) := by
      have hle : n ≤ 64 * ws.length := by rw [hl]; unfold nw; omega
      have hwr : IntKind.i64.wrap (64 * (ws.length : Int)) = ((64 * ws.length : Nat) : Int) := by
        rw [wrap64 (by omega) (by omega)]; omega
      refine Bz (fun k (_ : Unit) => ((n + k : Nat) : Int)) (64 * ws.length - n) (fun k _ => ∀ i, n ≤ i → i < n + k → bt ws i = false) (fun k _ hk hI => ?_) (fun _ hI => ?_) (s0 := ()) (fun i h1 h2 => by omega)
      · unfold DX Gq
        rw [show IntKind.i64.wrap (64 * ((((n : Int), ws, ()) : Aj.V).2.1.length : Int)) = ((64 * ws.length : Nat) : Int) from hwr, dlt (by omega), cond_true, Oo hw (by omega) hn, Option.bind_some]
        cases hb : bt ws (n + k) with
        | true => exact Ret.mk (.inl ⟨rfl, fun h => by rw [h _ (by omega)] at hb; cases hb⟩)
        | false =>
          refine Ret.mk ⟨(), ?_, fun i h1 h2 => ?_⟩
          · rw [wrap64 (by omega) (by omega)]; omega
          · rcases Nat.lt_or_ge i (n + k) with h | h
            · exact hI i h1 h
            · rw [show i = n + k by omega]; exact hb
      · unfold DX Gq
        rw [show IntKind.i64.wrap (64 * ((((n : Int), ws, ()) : Aj.V).2.1.length : Int)) = ((64 * ws.length : Nat) : Int) from hwr, show n + (64 * ws.length - n) = 64 * ws.length by omega, dge, cond_false]
        refine Ret.mk (.inr ⟨rfl, fun i h => ?_⟩)
        rcases Nat.lt_or_ge i (64 * ws.length) with h' | h'
        · exact hI i h (by omega)
        · exact LA h'
    refine Ret.bind key fun t ht => ?_
    rcases ht with ⟨rfl, h'⟩ | ⟨rfl, h'⟩
    · refine Ret.mk ?_
      simp only [Bool.false_eq_true, false_iff, not_exists, not_and]
      intro m hm hp
      obtain rfl : m = n := by omega
      exact h' hp.2.2.2.2
    · exact Ret.mk ⟨fun _ => ⟨n, rfl, by omega, by omega, hl, hw, h'⟩, fun _ => rfl⟩
theorem Lb {w : Int} {ws : List Int} (hw : Words ws) (hn : ws.length ≤ 1048576) : Ret (DG (w, ws, ())) fun r => r = true ↔ ∃ n : Nat, w = (n : Int) ∧ BitsP n ws := by
  unfold DG mkr
  refine Ret.cond (fun h => Ret.mk ?_) fun h => ?_
  · simp only [Bool.false_eq_true, false_iff, not_exists, not_and]
    rintro n rfl ⟨h1, h2, h3, _⟩
    unfold nw at h3
    simp only [Ap, AM, words64 (show n ≤ 1048576 by omega), Bool.or_eq_true, Bool.not_eq_true', Bool.and_eq_false_iff, decide_eq_false_iff_not, bne_iff_ne] at h
    unfold nw at h
    omega
  · have hb : 1 ≤ w ∧ w ≤ 4096 := by
      simp only [Ap, Bool.or_eq_false_iff, Bool.not_eq_false', Bool.and_eq_true, decide_eq_true_eq] at h
      omega
    obtain ⟨n, rfl⟩ : ∃ n : Nat, w = (n : Int) := ⟨w.toNat, by omega⟩
    have hl : ws.length = nw n := by
      simp only [Bool.or_eq_false_iff, bne_eq_false_iff_eq] at h
      have h := h.2
      rw [AM, words64 (by omega)] at h
      omega
    have e1 : ((n : Int), ws, ()).1 = (n : Int) := rfl
    have iff : (∃ m : Nat, (n : Int) = (m : Int) ∧ BitsP m ws) ↔ ∀ i, n ≤ i → bt ws i = false := by
      constructor
      · rintro ⟨m, hm, hp⟩
        obtain rfl : n = m := by omega
        exact hp.2.2.2.2
      · exact fun h => ⟨n, rfl, by omega, by omega, hl, hw, h⟩
    rw [iff]
    refine Ret.cond (fun h => Ret.mk ?_) fun h => ?_
    · have h : Int.tmod (n : Int) 64 = 0 := by simpa using h
      rw [tmod64] at h
      refine ⟨fun _ i hi => LA (by rw [hl]; unfold nw; omega), fun _ => rfl⟩
    · have h : Int.tmod (n : Int) 64 ≠ 0 := by simpa using h
      rw [tmod64] at h
      have hpos : 0 < ws.length := by rw [hl]; unfold nw; omega
      have hlast : IntKind.i64.wrap ((ws.length : Int) - 1) = ((ws.length - 1 : Nat) : Int) := by rw [wrap64 (by omega) (by omega)]; omega
      have e2 : IntKind.i64.wrap (((((n : Int), ws, ()) : Aj.V).2.1.length : Int) - 1) = ((ws.length - 1 : Nat) : Int) := hlast
      rw [e2, if_pos ⟨by omega, by show ((ws.length - 1 : Nat) : Int) < (ws.length : Int); omega⟩]
      rw [show Int.tmod (((n : Int), ws, ()) : Aj.V).1 64 = ((n % 64 : Nat) : Int) from tmod64 n, if_neg (by omega), Int.toNat_natCast]
      refine Ret.mk ?_
      rw [beq_iff_eq]
      have hw' := hw.getD (ws.length - 1)
      have h0 : shrI .u64 (ws.getD (ws.length - 1) 0) ((n % 64 : Nat) : Int) = 0 ↔ ∀ j, j < 64 → tb (ws.getD (ws.length - 1) 0) (j + n % 64) = false :=
        ⟨fun e j _ => by rw [← Ni hw' rfl (by omega), e, K4], fun e => W64.ext (N3 hw' rfl (by omega)) Ld fun j hj => by rw [Ni hw' rfl (by omega), K4]; exact e j hj⟩
      refine h0.trans ⟨fun e i hi => ?_, fun e j hj => ?_⟩
      · rcases Nat.lt_or_ge i (64 * ws.length) with h' | h'
        · unfold bt
          rw [show i / 64 = ws.length - 1 by rw [hl] at h' ⊢; unfold nw at *; omega]
          have := e (i % 64 - n % 64) (by omega)
          rwa [show i % 64 - n % 64 + n % 64 = i % 64 by rw [hl] at h'; unfold nw at *; omega] at this
        · exact LA h'
      · rcases Nat.lt_or_ge (j + n % 64) 64 with h' | h'
        · have := e (64 * (ws.length - 1) + (j + n % 64)) (by rw [hl]; unfold nw; omega)
          unfold bt at this
          rwa [show (64 * (ws.length - 1) + (j + n % 64)) / 64 = ws.length - 1 by omega, show (64 * (ws.length - 1) + (j + n % 64)) % 64 = j + n % 64 by omega] at this
        · exact LC hw' h'
end Go.Proofs.X
