import Derived.KernelRfl
import Derived.Test.YtgdiapoacpahdaaGreatK8
set_option linter.unusedVariables false
set_option linter.unusedSimpArgs false
namespace Go.Proofs.X
open Go Go.Va
set_option maxRecDepth 100000
noncomputable section
abbrev E48 : Env := ⟨tab, lookH [], { deep := true, heads := [(4, { live := [2, 3, 5] })], outs := [(4, { live := [4] })], joins := [(2, { live := [2, 3, 19] })], ents := [(2, [2, 3])] }⟩
def AhU (a : Aj.V) (b : Aj.V) (z_ : Int) : St := sT 38 [(2, .ptr 0 0 [] 0), (3, .ptr 1 0 [] 0), (5, dI z_)] [.box (dD Aj a), .box (dD Aj b)]
def Afb (a : Aj.V) (b : Aj.V) : (Unit ⊕ Unit) → Ex × St := Sum.elim (fun c => (.ret, sT 38 [(4, dB false)] [])) (fun d => ((.exit 0), sT 38 [] []))
def Dh (a : Aj.V) (b : Aj.V) (e : Int) : Option (Int ⊕ (Unit ⊕ Unit)) :=
 bif (decide (e < (a.2.1.length : Int))) then
 if (0 : Int) ≤ e ∧ e < (a.2.1.length : Int) then
 if (0 : Int) ≤ e ∧ e < (b.2.1.length : Int) then
 bif ((a.2.1.getD e.toNat (Ty.zero (.int .u64))) != (b.2.1.getD e.toNat (Ty.zero (.int .u64)))) then
 some (.inr (.inl ()))
 else
 some (.inl (IntKind.i64.wrap (e + 1)))
 else none
 else none
 else
 some (.inr (.inr ()))
def Bp (a : Aj.V) (b : Aj.V) (z_ : Int) := Dh a b z_
def Jl (a : Aj.V) (b : Aj.V) (e : Int) := fix (Bp a b) e
theorem AdL (a : Aj.V) (b : Aj.V) : LpOk E48 0 4 (code Tryz.f136) [1, 1, 0, 1, 0] (AhU a b) (Bp a b) (Afb a b) := by
  intro _
  simp only [Bp, Dh, mC, mI, mN, mB, mE, mM]
  kernel_rfl
def Xx (a : Aj.V) (b : Aj.V) : St := sT 38 [(2, .ptr 0 0 [] 0), (3, .ptr 1 0 [] 0)] [.box (dD Aj a), .box (dD Aj b)]
def Yg (a : Aj.V) (b : Aj.V) (m0 : Bool) : Ex × St := (.normal, sT 38 [(2, .ptr 0 0 [] 0), (3, .ptr 1 0 [] 0), (19, dB m0)] [.box (dD Aj a), .box (dD Aj b)])
theorem Aea (a : Aj.V) (b : Aj.V) : jnS E48 0 2 (code Tryz.f136) [1, 0, 0] (Xx a b) = some (Yg a b ((a.1 != b.1) || ((a.2.1.length : Int) != (b.2.1.length : Int)))) := by
  have h0 : jnS E48 0 2 (code Tryz.f136) [1, 0, 0] (Xx a b) =
 bif (a.1 != b.1) then
 some (Yg a b true)
 else
 some (Yg a b ((a.2.1.length : Int) != (b.2.1.length : Int))) := by kernel_rfl
  rw [h0]
  cases h1 : (a.1 != b.1)
  · first | rfl | kernel_rfl
  · first | rfl | kernel_rfl
def BP (a : Aj.V) (b : Aj.V) : Option Bool :=
 mkr (Xx a b) (
 bif ((a.1 != b.1) || ((a.2.1.length : Int) != (b.2.1.length : Int))) then
 some false
 else
 (Jl a b 0).bind (Sum.elim (fun c =>
 some false) (fun d =>
 some true)))
theorem U48 (R : Type) (a : Aj.V) (b : Aj.V) (K : AV → List Blk → Option R) : runF E48 Tryz.f136 R [dD Aj a, dD Aj b] [] K = (BP a b).bind fun r => K (dB r) [] := by
  simp only [BP, bC, bI, bN, bE, bA, bS, bO, bM]
  simp (disch := refine sI ?_ <;> (repeat' refine sA ?_ ?_) <;> intro _ <;> kernel_rfl) only [DB (Aea _ _) (K := finK E48 Tryz.f136 0 R K), Jl, AC (AdL _ _) (K := finK E48 Tryz.f136 0 R K)]
  kernel_rfl
def c136 : Va.Callee := brC [.d Aj, .d Aj] [⟨[.dat [] Aj, .dat [] Aj], [], Bool, fun p => BP p.1.1 p.1.2.1, fun r => (dB r, [])⟩]
theorem WO : SoundC Tryz.prog 136 c136 := Ao (fn := Tryz.f136) (by kernel_rfl) (by kernel_rfl) (by kernel_rfl) ⟨⟨E48, ⟨⟨tabok, Am trivial⟩, mixed⟩, fun p R K => U48 R p.1.1 p.1.2.1 K⟩, trivial⟩
abbrev E49 : Env := ⟨tab, lookH [(136, c136)], { deep := true, heads := [(4, { live := [0, 1, 5] })], outs := [(4, { live := [4] })], joins := [(7, { live := [0, 1, 5, 67] })], ents := [(7, [0, 1, 5])] }⟩
def AdO (a : (List Ab.V)) (b : (List Ab.V)) (z_ : Int) : St := sT 68 [(0, dD (.sl Ab) a), (1, dD (.sl Ab) b), (5, dI z_)] []
def Adu (a : (List Ab.V)) (b : (List Ab.V)) : (Unit ⊕ Unit) → Ex × St := Sum.elim (fun c => (.ret, sT 68 [(4, dB false)] [])) (fun d => ((.exit 0), sT 68 [] []))
def AeK (a : (List Ab.V)) (b : (List Ab.V)) (e : Int) : St := sT 68 [(0, dD (.sl Ab) a), (1, dD (.sl Ab) b), (5, dI e)] []
def AhT (a : (List Ab.V)) (b : (List Ab.V)) (e : Int) : Bool → Ex × St := fun g => (.normal, sT 68 [(0, dD (.sl Ab) a), (1, dD (.sl Ab) b), (5, dI e), (67, dB g)] [])
def DJ (a : (List Ab.V)) (b : (List Ab.V)) (e : Int) : Option Bool :=
 if (0 : Int) ≤ e ∧ e < (a.length : Int) then
 if (0 : Int) ≤ e ∧ e < (b.length : Int) then
 bif ((a.getD e.toNat (Ty.zero Ab)).1 != (b.getD e.toNat (Ty.zero Ab)).1) then
 some true
 else
 if (0 : Int) ≤ e ∧ e < (a.length : Int) then
 if (0 : Int) ≤ e ∧ e < (b.length : Int) then
 bif ((a.getD e.toNat (Ty.zero Ab)).2.1 != (b.getD e.toNat (Ty.zero Ab)).2.1) then
 some true
 else
 if (0 : Int) ≤ e ∧ e < (a.length : Int) then
 if (0 : Int) ≤ e ∧ e < (b.length : Int) then
 bif ((a.getD e.toNat (Ty.zero Ab)).2.2.1 != (b.getD e.toNat (Ty.zero Ab)).2.2.1) then
 some true
 else
 if (0 : Int) ≤ e ∧ e < (a.length : Int) then
 if (0 : Int) ≤ e ∧ e < (b.length : Int) then
 (BP (a.getD e.toNat (Ty.zero Ab)).2.2.2.1 (b.getD e.toNat (Ty.zero Ab)).2.2.2.1).bind fun i =>
 some (!i)
 else none
 else none
 else none
 else none
 else none
 else none
 else none
 else none
theorem AhX (a : (List Ab.V)) (b : (List Ab.V)) (e : Int) : JnOk E49 0 7 (sub (code Tryz.f149) [1, 1, 0, 1, 0, 0]) [1, 0, 0, 0] (AeK a b e) (DJ a b e) (AhT a b e) := by
  unfold JnOk
  simp only [DJ, mC, mI, mN, mB, mE, mM]
  kernel_rfl
def ES (a : (List Ab.V)) (b : (List Ab.V)) (e : Int) : Option (Int ⊕ (Unit ⊕ Unit)) :=
 bif (decide (e < (a.length : Int))) then
 (DJ a b e).bind fun g =>
 bif g then
 some (.inr (.inl ()))
 else
 some (.inl (IntKind.i64.wrap (e + 1)))
 else
 some (.inr (.inr ()))
def BR (a : (List Ab.V)) (b : (List Ab.V)) (z_ : Int) := ES a b z_
def Jb (a : (List Ab.V)) (b : (List Ab.V)) (e : Int) := fix (BR a b) e
theorem Ac0 (a : (List Ab.V)) (b : (List Ab.V)) : LpOk E49 0 4 (code Tryz.f149) [1, 1, 0, 1, 0] (AdO a b) (BR a b) (Adu a b) := by
  intro _
  simp only [BR, ES, mC, mI, mN, mB, mE, mM]
  simp (disch := refine sI ?_ <;> (repeat' refine sA ?_ ?_) <;> intro _ <;> kernel_rfl) only [AX (AhX _ _ _) (K := stepK 0 (E49.hd 4) (E49.ot 4))]
  kernel_rfl
def Eb (a : (List Ab.V)) (b : (List Ab.V)) : Option Bool :=
 bif ((a.length : Int) != (b.length : Int)) then
 some false
 else
 (Jb a b 0).bind (Sum.elim (fun c =>
 some false) (fun d =>
 some true))
theorem U49 (R : Type) (a : (List Ab.V)) (b : (List Ab.V)) (K : AV → List Blk → Option R) : runF E49 Tryz.f149 R [dD (.sl Ab) a, dD (.sl Ab) b] [] K = (Eb a b).bind fun r => K (dB r) [] := by
  simp only [Eb, bC, bI, bN, bE, bA, bS, bO, bM]
  simp (disch := refine sI ?_ <;> (repeat' refine sA ?_ ?_) <;> intro _ <;> kernel_rfl) only [Jb, AC (Ac0 _ _) (K := finK E49 Tryz.f149 0 R K)]
  kernel_rfl
def c149 : Va.Callee := brC [.d (.sl Ab), .d (.sl Ab)] [⟨[.dat [] (.sl Ab), .dat [] (.sl Ab)], [], Bool, fun p => Eb p.1.1 p.1.2.1, fun r => (dB r, [])⟩]
theorem VF : SoundC Tryz.prog 149 c149 := Ao (fn := Tryz.f149) (by kernel_rfl) (by kernel_rfl) (by kernel_rfl) ⟨⟨E49, ⟨⟨tabok, Am ⟨WO, trivial⟩⟩, mixed⟩, fun p R K => U49 R p.1.1 p.1.2.1 K⟩, trivial⟩
abbrev E50 : Env := ⟨tab, lookH [(106, c106), (228, c228), (230, c230)], { deep := true, joins := [(4, { live := [0, 3, 37] })], ents := [(4, [0, 3])] }⟩
def XT (a : (List Ae.V)) (b : Ab.V) : St := sT 58 [(0, dD (.sl Ae) a), (3, .ptr 0 0 [] 0)] [.box (dD Ab b)]
def XN (a : (List Ae.V)) (b : Ab.V) (m0 : Bool) : Ex × St := (.normal, sT 58 [(0, dD (.sl Ae) a), (3, .ptr 0 0 [] 0), (37, dB m0)] [.box (dD Ab b)])
theorem AfE (a : (List Ae.V)) (b : Ab.V) : jnS E50 0 4 (code Tryz.f222) [1, 1, 0, 0] (XT a b) = some (XN a b ((!(AA b.1 0 (IntKind.i64.wrap ((a.length : Int) - 1)))) || (!(AG b.2.2.2.1)))) := by
  have h0 : jnS E50 0 4 (code Tryz.f222) [1, 1, 0, 0] (XT a b) =
 bif (!(AA b.1 0 (IntKind.i64.wrap ((a.length : Int) - 1)))) then
 some (XN a b true)
 else
 some (XN a b (!(AG b.2.2.2.1))) := by kernel_rfl
  rw [h0]
  cases h1 : (!(AA b.1 0 (IntKind.i64.wrap ((a.length : Int) - 1))))
  · first | rfl | kernel_rfl
  · first | rfl | kernel_rfl
def IO (a : (List Ae.V)) (b : Ab.V) : Option Bool :=
 bif (b.1 == (-1)) then
 bif (b.2.1 == 0) then
 (DM b.2.2.2.1).bind fun c =>
 bif c then
 some (b.2.2.2.1.1 == b.2.2.1)
 else
 some false
 else
 some false
 else
 mkr (XT a b) (
 bif ((!(AA b.1 0 (IntKind.i64.wrap ((a.length : Int) - 1)))) || (!(AG b.2.2.2.1))) then
 some false
 else
 if (0 : Int) ≤ b.1 ∧ b.1 < (a.length : Int) then
 bif (AA b.2.1 0 (IntKind.i64.wrap ((a.getD b.1.toNat (Ty.zero Ae)).2.1 - 1))) then
 some (AA b.2.2.1 1 (IntKind.i64.wrap ((a.getD b.1.toNat (Ty.zero Ae)).2.1 - b.2.1)))
 else
 some false
 else none)
theorem U50 (R : Type) (a : (List Ae.V)) (b : Ab.V) (K : AV → List Blk → Option R) : runF E50 Tryz.f222 R [dD (.sl Ae) a, dD Ab b] [] K = (IO a b).bind fun r => K (dB r) [] := by
  simp only [IO, bC, bI, bN, bE, bA, bS, bO, bM]
  simp (disch := refine sI ?_ <;> (repeat' refine sA ?_ ?_) <;> intro _ <;> kernel_rfl) only [DB (AfE _ _) (K := finK E50 Tryz.f222 0 R K)]
  kernel_rfl
def c222 : Va.Callee := brC [.d (.sl Ae), .d Ab] [⟨[.dat [] (.sl Ae), .dat [] Ab], [], Bool, fun p => IO p.1.1 p.1.2.1, fun r => (dB r, [])⟩]
theorem UP : SoundC Tryz.prog 222 c222 := Ao (fn := Tryz.f222) (by kernel_rfl) (by kernel_rfl) (by kernel_rfl) ⟨⟨E50, ⟨⟨tabok, Am ⟨IF, RD, Ra, trivial⟩⟩, mixed⟩, fun p R K => U50 R p.1.1 p.1.2.1 K⟩, trivial⟩
abbrev E51 : Env := ⟨tab, lookH [(105, c105), (222, c222)], { deep := true, heads := [(5, { live := [0, 1, 5, 6] })], outs := [(5, { live := [4, 5] })], joins := [(2, { live := [0, 1, 19] }), (11, { live := [0, 1, 5, 6, 84] })], ents := [(2, [0, 1]), (11, [0, 1, 5, 6])] }⟩
def AdG (a : (List Ae.V)) (b : (List Ab.V)) (z_ : (Int × Int)) : St := sT 87 [(0, dD (.sl Ae) a), (1, dD (.sl Ab) b), (5, dI z_.1), (6, dI z_.2)] []
def Ag5 (a : (List Ae.V)) (b : (List Ab.V)) : (Int ⊕ Int) → Ex × St := Sum.elim (fun c => (.ret, sT 87 [(4, dB false), (5, dI c)] [])) (fun d => ((.exit 0), sT 87 [(5, dI d)] []))
def AhM (a : (List Ae.V)) (b : (List Ab.V)) (e : Int) (g : Int) : St := sT 87 [(0, dD (.sl Ae) a), (1, dD (.sl Ab) b), (5, dI g), (6, dI e)] []
def Ac5 (a : (List Ae.V)) (b : (List Ab.V)) (e : Int) (g : Int) : Bool → Ex × St := fun i => (.normal, sT 87 [(0, dD (.sl Ae) a), (1, dD (.sl Ab) b), (5, dI g), (6, dI e), (84, dB i)] [])
def FQ (a : (List Ae.V)) (b : (List Ab.V)) (e : Int) (g : Int) : Option Bool :=
 bif (decide (e > 0)) then
 if (0 : Int) ≤ e ∧ e < (b.length : Int) then
 if (0 : Int) ≤ (IntKind.i64.wrap (e - 1)) ∧ (IntKind.i64.wrap (e - 1)) < (b.length : Int) then
 bif ((b.getD e.toNat (Ty.zero Ab)).1 == (b.getD (IntKind.i64.wrap (e - 1)).toNat (Ty.zero Ab)).1) then
 if (0 : Int) ≤ e ∧ e < (b.length : Int) then
 bif ((b.getD e.toNat (Ty.zero Ab)).1 == (-1)) then
 some true
 else
 if (0 : Int) ≤ e ∧ e < (b.length : Int) then
 if (0 : Int) ≤ (IntKind.i64.wrap (e - 1)) ∧ (IntKind.i64.wrap (e - 1)) < (b.length : Int) then
 if (0 : Int) ≤ (IntKind.i64.wrap (e - 1)) ∧ (IntKind.i64.wrap (e - 1)) < (b.length : Int) then
 some ((b.getD e.toNat (Ty.zero Ab)).2.1 == (IntKind.i64.wrap ((b.getD (IntKind.i64.wrap (e - 1)).toNat (Ty.zero Ab)).2.1 + (b.getD (IntKind.i64.wrap (e - 1)).toNat (Ty.zero Ab)).2.2.1)))
 else none
 else none
 else none
 else none
 else
 some false
 else none
 else none
 else
 some false
theorem AdZ (a : (List Ae.V)) (b : (List Ab.V)) (e : Int) (g : Int) : JnOk E51 0 11 (sub (code Tryz.f186) [1, 1, 1, 0, 1, 0, 0]) [1, 0, 0, 1, 1, 0] (AhM a b e g) (FQ a b e g) (Ac5 a b e g) := by
  unfold JnOk
  simp only [FQ, mC, mI, mN, mB, mE, mM]
  kernel_rfl
def Gm (a : (List Ae.V)) (b : (List Ab.V)) (j : Int) (e : Int) : Option ((Int × Int) ⊕ (Int ⊕ Int)) :=
 bif (decide (e < (b.length : Int))) then
 if (0 : Int) ≤ e ∧ e < (b.length : Int) then
 (IO a (b.getD e.toNat (Ty.zero Ab))).bind fun k =>
 bif (!k) then
 some (.inr (.inl j))
 else
 if (0 : Int) ≤ e ∧ e < (b.length : Int) then
 (FQ a b e (IntKind.i64.wrap (j + (b.getD e.toNat (Ty.zero Ab)).2.2.1))).bind fun i =>
 bif i then
 some (.inr (.inl (IntKind.i64.wrap (j + (b.getD e.toNat (Ty.zero Ab)).2.2.1))))
 else
 some (.inl ((IntKind.i64.wrap (j + (b.getD e.toNat (Ty.zero Ab)).2.2.1)), (IntKind.i64.wrap (e + 1))))
 else none
 else none
 else
 some (.inr (.inr j))
def BX (a : (List Ae.V)) (b : (List Ab.V)) (z_ : (Int × Int)) := Gm a b z_.1 z_.2
def JL (a : (List Ae.V)) (b : (List Ab.V)) (j : Int) (e : Int) := fix (BX a b) (j, e)
theorem Aie (a : (List Ae.V)) (b : (List Ab.V)) : LpOk E51 0 5 (code Tryz.f186) [1, 1, 1, 0, 1, 0] (AdG a b) (BX a b) (Ag5 a b) := by
  intro _
  simp only [BX, Gm, mC, mI, mN, mB, mE, mM]
  simp (disch := refine sI ?_ <;> (repeat' refine sA ?_ ?_) <;> intro _ <;> kernel_rfl) only [AX (AdZ _ _ _ _) (K := stepK 0 (E51.hd 5) (E51.ot 5))]
  kernel_rfl
def Ahg (a : (List Ae.V)) (b : (List Ab.V)) : St := sT 87 [(0, dD (.sl Ae) a), (1, dD (.sl Ab) b)] []
def Agq (a : (List Ae.V)) (b : (List Ab.V)) : Bool → Ex × St := fun l => (.normal, sT 87 [(0, dD (.sl Ae) a), (1, dD (.sl Ab) b), (19, dB l)] [])
def F2 (a : (List Ae.V)) (b : (List Ab.V)) : Option Bool :=
 (DC a).bind fun n =>
 bif (!n) then
 some true
 else
 bif (decide ((b.length : Int) < 1)) then
 some true
 else
 some (decide ((b.length : Int) > 2000))
theorem Ah9 (a : (List Ae.V)) (b : (List Ab.V)) : JnOk E51 0 2 (code Tryz.f186) [1, 0, 0] (Ahg a b) (F2 a b) (Agq a b) := by
  unfold JnOk
  simp only [F2, mC, mI, mN, mB, mE, mM]
  kernel_rfl
def EO (a : (List Ae.V)) (b : (List Ab.V)) : Option Bool :=
 (F2 a b).bind fun l =>
 bif l then
 some false
 else
 (JL a b 0 0).bind (Sum.elim (fun c =>
 some false) (fun d =>
 some (decide (d ≤ 4096))))
theorem U51 (R : Type) (a : (List Ae.V)) (b : (List Ab.V)) (K : AV → List Blk → Option R) : runF E51 Tryz.f186 R [dD (.sl Ae) a, dD (.sl Ab) b] [] K = (EO a b).bind fun r => K (dB r) [] := by
  simp only [EO, bC, bI, bN, bE, bA, bS, bO, bM]
  simp (disch := refine sI ?_ <;> (repeat' refine sA ?_ ?_) <;> intro _ <;> kernel_rfl) only [AX (Ah9 _ _) (K := finK E51 Tryz.f186 0 R K), JL, AC (Aie _ _) (K := finK E51 Tryz.f186 0 R K)]
  kernel_rfl
def c186 : Va.Callee := brC [.d (.sl Ae), .d (.sl Ab)] [⟨[.dat [] (.sl Ae), .dat [] (.sl Ab)], [], Bool, fun p => EO p.1.1 p.1.2.1, fun r => (dB r, [])⟩]
theorem RF : SoundC Tryz.prog 186 c186 := Ao (fn := Tryz.f186) (by kernel_rfl) (by kernel_rfl) (by kernel_rfl) ⟨⟨E51, ⟨⟨tabok, Am ⟨NO, UP, trivial⟩⟩, mixed⟩, fun p R K => U51 R p.1.1 p.1.2.1 K⟩, trivial⟩
abbrev E52 : Env := ⟨tab, lookH [(165, c165)], { deep := true, heads := [(3, { live := [0, 3, 4], pre := [(3, false, .row [] 200 Ag true)] }), (6, { live := [0, 3, 4, 5], pre := [(3, false, .row [] 200 Ag true)] })], outs := [(3, { live := [3] }), (6, { live := [0, 3, 4] })], joins := [(7, { live := [0, 3, 4, 5] })], ents := [(7, [0, 3, 4, 5])] }⟩
def AgV (a : (List Ab.V)) (z_ : (Int × (List Ag.V))) : St := sT 57 [(0, dD (.sl Ab) a), (3, .ref 0), (4, dI z_.1)] [.row 200 .deep Ag z_.2]
def Afu (a : (List Ab.V)) : (List Ag.V) → Ex × St := fun b => ((.exit 0), sT 57 [(3, .ref 0)] [.row 200 .deep Ag b])
def AgL (a : (List Ab.V)) (c : Int) (z_ : (Int × (List Ag.V))) : St := sT 57 [(0, dD (.sl Ab) a), (3, .ref 0), (4, dI c), (5, dI z_.1)] [.row 200 .deep Ag z_.2]
def AgX (a : (List Ab.V)) (c : Int) : (List Ag.V) → Ex × St := fun d => ((.exit 2), sT 57 [(0, dD (.sl Ab) a), (3, .ref 0), (4, dI c)] [.row 200 .deep Ag d])
def AgZ (a : (List Ab.V)) (c : Int) (e : Int) (g : (List Ag.V)) : St := sT 57 [(0, dD (.sl Ab) a), (3, .ref 0), (4, dI c), (5, dI e)] [.row 200 .deep Ag g]
def Ae0 (a : (List Ab.V)) (c : Int) (e : Int) (g : (List Ag.V)) : (List Ag.V) → Ex × St := fun i => (.normal, sT 57 [(0, dD (.sl Ab) a), (3, .ref 0), (4, dI c), (5, dI e)] [.row 200 .deep Ag i])
def H0 (a : (List Ab.V)) (c : Int) (e : Int) (g : (List Ag.V)) : Option (List Ag.V) :=
 if (0 : Int) ≤ c ∧ c < (a.length : Int) then
 bif (decide ((a.getD c.toNat (Ty.zero Ab)).1 < 0)) then
 if (0 : Int) ≤ c ∧ c < (a.length : Int) then
 (Dx (a.getD c.toNat (Ty.zero Ab)).2.2.2.1 e).bind fun j =>
 if (g.length + ([((-1), (IntKind.i64.wrap j), ())] : List Ag.V).length) * 16 ≤ 140737488355328 then
 some (g ++ ([((-1), (IntKind.i64.wrap j), ())] : List Ag.V))
 else none
 else none
 else
 if (0 : Int) ≤ c ∧ c < (a.length : Int) then
 if (0 : Int) ≤ c ∧ c < (a.length : Int) then
 if (g.length + ([((a.getD c.toNat (Ty.zero Ab)).1, (IntKind.i64.wrap ((a.getD c.toNat (Ty.zero Ab)).2.1 + e)), ())] : List Ag.V).length) * 16 ≤ 140737488355328 then
 some (g ++ ([((a.getD c.toNat (Ty.zero Ab)).1, (IntKind.i64.wrap ((a.getD c.toNat (Ty.zero Ab)).2.1 + e)), ())] : List Ag.V))
 else none
 else none
 else none
 else none
theorem AdQ (a : (List Ab.V)) (c : Int) (e : Int) (g : (List Ag.V)) : JnOk E52 0 7 (sub (sub (code Tryz.f112) [1, 1, 0, 1, 0, 0]) [1, 0, 0, 1, 0, 0]) [1, 0] (AgZ a c e g) (H0 a c e g) (Ae0 a c e g) := by
  unfold JnOk
  simp only [H0, mC, mI, mN, mB, mE, mM]
  kernel_rfl
def Gi (a : (List Ab.V)) (c : Int) (e : Int) (g : (List Ag.V)) : Option ((Int × (List Ag.V)) ⊕ (List Ag.V)) :=
 if (0 : Int) ≤ c ∧ c < (a.length : Int) then
 bif (decide (e < (a.getD c.toNat (Ty.zero Ab)).2.2.1)) then
 (H0 a c e g).bind fun i =>
 some (.inl ((IntKind.i64.wrap (e + 1)), i))
 else
 some (.inr g)
 else none
def CG (a : (List Ab.V)) (c : Int) (z_ : (Int × (List Ag.V))) := Gi a c z_.1 z_.2
def HU (a : (List Ab.V)) (c : Int) (e : Int) (g : (List Ag.V)) := fix (CG a c) (e, g)
theorem Ad9 (a : (List Ab.V)) (c : Int) : LpOk E52 0 6 (sub (code Tryz.f112) [1, 1, 0, 1, 0, 0]) [1, 0, 0, 1, 0] (AgL a c) (CG a c) (AgX a c) := by
  intro _
  simp only [CG, Gi, mC, mI, mN, mB, mE, mM]
  simp (disch := refine sI ?_ <;> (repeat' refine sA ?_ ?_) <;> intro _ <;> kernel_rfl) only [AX (AdQ _ _ _ _) (K := stepK 0 (E52.hd 6) (E52.ot 6))]
  kernel_rfl
def Gd (a : (List Ab.V)) (c : Int) (k : (List Ag.V)) : Option ((Int × (List Ag.V)) ⊕ (List Ag.V)) :=
 bif (decide (c < (a.length : Int))) then
 (HU a c 0 k).bind fun d =>
 some (.inl ((IntKind.i64.wrap (c + 1)), d))
 else
 some (.inr k)
def B2 (a : (List Ab.V)) (z_ : (Int × (List Ag.V))) := Gd a z_.1 z_.2
def Jz (a : (List Ab.V)) (c : Int) (k : (List Ag.V)) := fix (B2 a) (c, k)
theorem AeN (a : (List Ab.V)) : LpOk E52 0 3 (code Tryz.f112) [1, 1, 0, 1, 0] (AgV a) (B2 a) (Afu a) := by
  intro _
  simp only [B2, Gd, mC, mI, mN, mB, mE, mM]
  simp (disch := refine sI ?_ <;> (repeat' refine sA ?_ ?_) <;> intro _ <;> kernel_rfl) only [HU, AC (Ad9 _ _) (K := stepK 0 (E52.hd 3) (E52.ot 3))]
  kernel_rfl
def C8 (a : (List Ab.V)) : Option (List Ag.V) :=
 (Jz a 0 ([] : List Ag.V)).bind fun b =>
 some b
theorem U52 (R : Type) (a : (List Ab.V)) (K : AV → List Blk → Option R) : runF E52 Tryz.f112 R [dD (.sl Ab) a] [] K = (C8 a).bind fun r => K (.ref 0) [.row 200 .deep Ag r] := by
  simp only [C8, bC, bI, bN, bE, bA, bS, bO, bM]
  simp (disch := refine sI ?_ <;> (repeat' refine sA ?_ ?_) <;> intro _ <;> kernel_rfl) only [Jz, AC (AeN _) (K := finK E52 Tryz.f112 0 R K)]
  kernel_rfl
def c112 : Va.Callee := brC [.d (.sl Ab)] [⟨[.dat [] (.sl Ab)], [], (List Ag.V), fun p => C8 p.1.1, fun r => (.ref 0, [.row 200 .deep Ag r])⟩]
theorem Rn : SoundC Tryz.prog 112 c112 := Ao (fn := Tryz.f112) (by kernel_rfl) (by kernel_rfl) (by kernel_rfl) ⟨⟨E52, ⟨⟨tabok, Am ⟨Oj, trivial⟩⟩, mixed⟩, fun p R K => U52 R p.1.1 K⟩, trivial⟩
abbrev E53 : Env := ⟨tab, lookH [(111, c111), (112, c112), (186, c186)], { deep := true, joins := [(5, { live := [2, 3, 10, 30], frz := [(10, false, (.sl Ag))] })], ents := [(5, [2, 3, 10])], res := [(0, .row [] 196 Ab true)] }⟩
def YO (a : Int) (b : Int) (c : (List Ag.V)) : St := sT 40 [(2, dI a), (3, dI b), (10, .ref 0)] [.row 200 .deep Ag c]
def VX (a : Int) (b : Int) (c : (List Ag.V)) (m0 : Bool) : Ex × St := (.normal, sT 40 [(2, dI a), (3, dI b), (10, dD (.sl Ag) c), (30, dB m0)] [])
theorem Ags (a : Int) (b : Int) (c : (List Ag.V)) : jnS E53 0 5 (code Tryz.f150) [1, 1, 1, 0, 0] (YO a b c) = some (VX a b c ((decide (b < 0)) || ((decide (a < b)) || (decide (a ≥ (c.length : Int)))))) := by
  have h0 : jnS E53 0 5 (code Tryz.f150) [1, 1, 1, 0, 0] (YO a b c) =
 bif (decide (b < 0)) then
 some (VX a b c true)
 else
 bif (decide (a < b)) then
 some (VX a b c true)
 else
 some (VX a b c (decide (a ≥ (c.length : Int)))) := by kernel_rfl
  rw [h0]
  cases h1 : (decide (b < 0))
  · cases h2 : (decide (a < b))
    · first | rfl | kernel_rfl
    · first | rfl | kernel_rfl
  · first | rfl | kernel_rfl
def Aq (d : (List Ae.V)) (e : (List Ab.V)) (a : Int) (b : Int) : Option (Bool × (List Ab.V)) :=
 (EO d e).bind fun g =>
 bif (!g) then
 some (false, ([] : List Ab.V))
 else
 (C8 e).bind fun c =>
 mkr (YO a b c) (
 bif ((decide (b < 0)) || ((decide (a < b)) || (decide (a ≥ (c.length : Int))))) then
 some (false, ([] : List Ab.V))
 else
 if (0 : Int) ≤ b ∧ b ≤ (IntKind.i64.wrap (a + 1)) ∧ (IntKind.i64.wrap (a + 1)) ≤ (c.length : Int) then
 (Fd ((c.take (IntKind.i64.wrap (a + 1)).toNat).drop b.toNat)).bind fun i =>
 some (i.1, i.2)
 else none)
theorem U53 (R : Type) (d : (List Ae.V)) (e : (List Ab.V)) (a : Int) (b : Int) (K : AV → List Blk → Option R) : runF E53 Tryz.f150 R [dD (.sl Ae) d, dD (.sl Ab) e, dI a, dI b] [] K = (Aq d e a b).bind fun r => K (.cons (.ref 0) (.cons (dB r.1) .nil)) [.row 196 .deep Ab r.2] := by
  simp only [Aq, bC, bI, bN, bE, bA, bS, bO, bM]
  simp (disch := refine sI ?_ <;> (repeat' refine sA ?_ ?_) <;> intro _ <;> kernel_rfl) only [DB (Ags _ _ _) (K := finK E53 Tryz.f150 0 R K)]
  kernel_rfl
def c150 : Va.Callee := brC [.d (.sl Ae), .d (.sl Ab), .d (.int .i64), .d (.int .i64)] [⟨[.dat [] (.sl Ae), .dat [] (.sl Ab), .dat [] (.int .i64), .dat [] (.int .i64)], [], (Bool × (List Ab.V)), fun p => Aq p.1.1 p.1.2.1 p.1.2.2.1 p.1.2.2.2.1, fun r => (.cons (.ref 0) (.cons (dB r.1) .nil), [.row 196 .deep Ab r.2])⟩]
theorem WC : SoundC Tryz.prog 150 c150 := Ao (fn := Tryz.f150) (by kernel_rfl) (by kernel_rfl) (by kernel_rfl) ⟨⟨E53, ⟨⟨tabok, Am ⟨Of, Rn, RF, trivial⟩⟩, mixed⟩, fun p R K => U53 R p.1.1 p.1.2.1 p.1.2.2.1 p.1.2.2.2.1 K⟩, trivial⟩
abbrev E54 : Env := ⟨tab, lookH [(111, c111), (112, c112), (186, c186)], { deep := true, joins := [(2, { live := [1, 2, 20] })], ents := [(2, [0, 1, 2])], res := [(0, .row [] 196 Ab true)] }⟩
def Ae5 (a : (List Ae.V)) (b : (List Ab.V)) (c : (List Ab.V)) : St := sT 40 [(0, dD (.sl Ae) a), (1, dD (.sl Ab) b), (2, dD (.sl Ab) c)] []
def AfX (a : (List Ae.V)) (b : (List Ab.V)) (c : (List Ab.V)) : Bool → Ex × St := fun d => (.normal, sT 40 [(1, dD (.sl Ab) b), (2, dD (.sl Ab) c), (20, dB d)] [])
def DZ (a : (List Ae.V)) (b : (List Ab.V)) (c : (List Ab.V)) : Option Bool :=
 (EO a b).bind fun e =>
 bif (!e) then
 some true
 else
 (EO a c).bind fun g =>
 some (!g)
theorem Adx (a : (List Ae.V)) (b : (List Ab.V)) (c : (List Ab.V)) : JnOk E54 0 2 (code Tryz.f151) [1, 0, 0] (Ae5 a b c) (DZ a b c) (AfX a b c) := by
  unfold JnOk
  simp only [DZ, mC, mI, mN, mB, mE, mM]
  kernel_rfl
def Az (a : (List Ae.V)) (b : (List Ab.V)) (c : (List Ab.V)) : Option (Bool × (List Ab.V)) :=
 (DZ a b c).bind fun d =>
 bif d then
 some (false, ([] : List Ab.V))
 else
 (C8 c).bind fun i =>
 (C8 b).bind fun j =>
 if (i.length + j.length) * 16 ≤ 140737488355328 then
 bif (decide (((i ++ j).length : Int) > 4096)) then
 some (false, ([] : List Ab.V))
 else
 (Fd (i ++ j)).bind fun k =>
 bif (!k.1) then
 some (false, ([] : List Ab.V))
 else
 some (true, k.2)
 else none
theorem U54 (R : Type) (a : (List Ae.V)) (b : (List Ab.V)) (c : (List Ab.V)) (K : AV → List Blk → Option R) : runF E54 Tryz.f151 R [dD (.sl Ae) a, dD (.sl Ab) b, dD (.sl Ab) c] [] K = (Az a b c).bind fun r => K (.cons (.ref 0) (.cons (dB r.1) .nil)) [.row 196 .deep Ab r.2] := by
  simp only [Az, bC, bI, bN, bE, bA, bS, bO, bM]
  simp (disch := refine sI ?_ <;> (repeat' refine sA ?_ ?_) <;> intro _ <;> kernel_rfl) only [AX (Adx _ _ _) (K := finK E54 Tryz.f151 0 R K)]
  kernel_rfl
def c151 : Va.Callee := brC [.d (.sl Ae), .d (.sl Ab), .d (.sl Ab)] [⟨[.dat [] (.sl Ae), .dat [] (.sl Ab), .dat [] (.sl Ab)], [], (Bool × (List Ab.V)), fun p => Az p.1.1 p.1.2.1 p.1.2.2.1, fun r => (.cons (.ref 0) (.cons (dB r.1) .nil), [.row 196 .deep Ab r.2])⟩]
theorem VR : SoundC Tryz.prog 151 c151 := Ao (fn := Tryz.f151) (by kernel_rfl) (by kernel_rfl) (by kernel_rfl) ⟨⟨E54, ⟨⟨tabok, Am ⟨Of, Rn, RF, trivial⟩⟩, mixed⟩, fun p R K => U54 R p.1.1 p.1.2.1 p.1.2.2.1 K⟩, trivial⟩
abbrev E55 : Env := ⟨tab, lookH [(42, c42), (43, c43), (61, c61), (106, c106), (146, c146), (147, c147), (148, c148), (149, c149), (150, c150), (151, c151)], { deep := true, joins := [(14, { live := [0, 2, 7, 8, 10, 79] }), (37, { live := [8, 9, 10, 14, 15], pre := [(8, true, .row [0] 196 Ab true), (8, true, .row [1] 196 Ab true), (10, true, .row [0] 196 Ab true), (10, true, .row [1] 196 Ab true)] }), (38, { live := [8, 10, 228] })], draws := [(32, { live := [0, 2, 7, 8, 10, 14] }), (33, { live := [8, 10, 14, 15] }), (35, { live := [0, 2, 7, 8, 10, 14] }), (36, { live := [8, 10, 14, 15] })], ents := [(14, [0, 2, 7, 8, 10, 11, 12]), (37, [0, 2, 7, 8, 10, 14, 15]), (38, [8, 10, 14, 15])], dents := [(32, [0, 2, 7, 8, 10]), (33, [0, 2, 7, 8, 10, 14]), (35, [0, 2, 7, 8, 10]), (36, [0, 2, 7, 8, 10, 14])], res := [(0, .row [0] 196 Ab true), (0, .row [1] 196 Ab true)] }⟩
def Zd (a : (Bool × Bool × (List Ab.V) × (List Ab.V))) : St := sT 231 [(8, .ptr 0 0 [] 0), (10, .ptr 1 0 [] 0), (14, dB a.1), (15, dB a.2.1)] [.box (.pr (.ref 2) (.pr (.ref 3) .u)), .box (.pr (.ref 4) (.pr (.ref 5) .u)), .row 196 .deep Ab ([] : List Ab.V), .row 196 .deep Ab ([] : List Ab.V), .row 196 .deep Ab a.2.2.1, .row 196 .deep Ab a.2.2.2]
def Y3 (a : (Bool × Bool × (List Ab.V) × (List Ab.V))) (m0 : Bool) : Ex × St := (.normal, sT 231 [(8, .ptr 0 0 [] 0), (10, .ptr 1 0 [] 0), (228, dB m0)] [.box (.pr (.ref 2) (.pr (.ref 3) .u)), .box (.pr (.ref 4) (.pr (.ref 5) .u)), .row 196 .deep Ab ([] : List Ab.V), .row 196 .deep Ab ([] : List Ab.V), .row 196 .deep Ab a.2.2.1, .row 196 .deep Ab a.2.2.2])
theorem AfQ (a : (Bool × Bool × (List Ab.V) × (List Ab.V))) : jnS E55 0 38 (code Tryz.f97) [1, 1, 1, 1, 1, 1, 1, 1, 1, 1, 0, 0] (Zd a) = some (Y3 a ((!a.1) || (!a.2.1))) := by
  have h0 : jnS E55 0 38 (code Tryz.f97) [1, 1, 1, 1, 1, 1, 1, 1, 1, 1, 0, 0] (Zd a) =
 bif (!a.1) then
 some (Y3 a true)
 else
 some (Y3 a (!a.2.1)) := by kernel_rfl
  rw [h0]
  cases h1 : (!a.1)
  · first | rfl | kernel_rfl
  · first | rfl | kernel_rfl
def AfG (b : (List Ae.V)) (c : (List Ah.V)) (d : Aa.V) : St := sT 231 [(0, dD (.sl Ae) b), (2, dD (.sl Ah) c), (7, .ptr 0 0 [] 0), (8, .ptr 1 0 [] 0), (10, .ptr 2 0 [] 0), (14, dB true), (15, dB true)] [.box (dD Aa d), .box (.pr .zs (.pr .zs .u)), .box (.pr .zs (.pr .zs .u))]
def Aex (b : (List Ae.V)) (c : (List Ah.V)) (d : Aa.V) : ((Bool × (List Ab.V) × (List Ab.V)) ⊕ ((Bool × Bool × (List Ab.V) × (List Ab.V)) ⊕ Unit)) → Ex × St := Sum.elim (fun e => (.ret, sT 231 [(8, .ptr 0 0 [] 0), (9, dI 4), (10, .ptr 1 0 [] 0), (14, dB e.1), (15, dB true)] [.box (.pr (.ref 2) (.pr (.ref 3) .u)), .box (.pr (.ref 2) (.pr (.ref 3) .u)), .row 196 .deep Ab e.2.1, .row 196 .deep Ab e.2.2])) (Sum.elim (fun a => (.normal, sT 231 [(8, .ptr 0 0 [] 0), (10, .ptr 1 0 [] 0), (14, dB a.1), (15, dB a.2.1)] [.box (.pr (.ref 2) (.pr (.ref 3) .u)), .box (.pr (.ref 4) (.pr (.ref 5) .u)), .row 196 .deep Ab ([] : List Ab.V), .row 196 .deep Ab ([] : List Ab.V), .row 196 .deep Ab a.2.2.1, .row 196 .deep Ab a.2.2.2])) (fun g => (.ret, sT 231 [(8, .ptr 0 0 [] 0), (9, dI 5), (10, .ptr 1 0 [] 0), (14, dB true), (15, dB true)] [.box (.pr (.ref 2) (.pr (.ref 3) .u)), .box (.pr (.ref 4) (.pr (.ref 5) .u)), .row 196 .deep Ab ([] : List Ab.V), .row 196 .deep Ab ([] : List Ab.V), .row 196 .deep Ab ([] : List Ab.V), .row 196 .deep Ab ([] : List Ab.V)])))
def Aax (b : (List Ae.V)) (c : (List Ah.V)) (d : Aa.V) (i : Bool) (j : (List Ab.V)) : St := sT 231 [(0, dD (.sl Ae) b), (2, dD (.sl Ah) c), (7, .ptr 0 0 [] 0), (8, .ptr 1 0 [] 0), (10, .ptr 2 0 [] 0), (14, dB i)] [.box (dD Aa d), .box (.pr .zs (.pr .zs .u)), .box (.pr (.ref 3) (.pr .zs .u)), .row 196 .deep Ab j]
def Lp (b : (List Ae.V)) (c : (List Ah.V)) (d : Aa.V) (i : Bool) (j : (List Ab.V)) : (Bool × (List Ab.V)) → St := fun k => sT 231 [(8, .ptr 0 0 [] 0), (10, .ptr 1 0 [] 0), (14, dB i), (15, dB k.1)] [.box (.pr .zs (.pr .zs .u)), .box (.pr (.ref 2) (.pr (.ref 3) .u)), .row 196 .deep Ab j, .row 196 .deep Ab k.2]
def Hq (b : (List Ae.V)) (c : (List Ah.V)) (d : Aa.V) (i : Bool) (j : (List Ab.V)) : Option (Bool × (List Ab.V)) :=
 if (0 : Int) ≤ d.2.1 ∧ d.2.1 < (c.length : Int) then
 if (0 : Int) ≤ d.2.2.1 ∧ d.2.2.1 < (c.length : Int) then
 (Az b (c.getD d.2.1.toNat (Ty.zero Ah)).2.1 (c.getD d.2.2.1.toNat (Ty.zero Ah)).2.1).bind fun l =>
 some (l.1, l.2)
 else none
 else none
theorem AeE (b : (List Ae.V)) (c : (List Ah.V)) (d : Aa.V) (i : Bool) (j : (List Ab.V)) : DrOk E55 0 36 (sub (code Tryz.f97) [1, 1, 1, 1, 1, 1, 1, 1, 1, 0]) [1, 0, 1, 1, 1, 1, 1, 1, 1, 1, 1, 0, 1] (Aax b c d i j) (Hq b c d i j) (Lp b c d i j) := by
  unfold DrOk
  have h : drS E55 0 36 (sub (code Tryz.f97) [1, 1, 1, 1, 1, 1, 1, 1, 1, 0]) [1, 0, 1, 1, 1, 1, 1, 1, 1, 1, 1, 0, 1] (Aax b c d i j) =
 if (0 : Int) ≤ d.2.1 ∧ d.2.1 < (c.length : Int) then
 if (0 : Int) ≤ d.2.2.1 ∧ d.2.2.1 < (c.length : Int) then
 (Az b (c.getD d.2.1.toNat (Ty.zero Ah)).2.1 (c.getD d.2.2.1.toNat (Ty.zero Ah)).2.1).bind fun l =>
 (((if (0 : Int) ≤ d.2.1 ∧ d.2.1 < (c.length : Int) then
 (if (0 : Int) ≤ d.2.2.1 ∧ d.2.2.1 < (c.length : Int) then
(Az b (c.getD d.2.1.toNat (Ty.zero Ah)).2.1 (c.getD d.2.2.1.toNat (Ty.zero Ah)).2.1).bind fun n =>
 eqSt (Lp b c d i j (n.1, n.2)) (Lp b c d i j (l.1, l.2))
 else none).bind fun _ =>
 if (0 : Int) ≤ d.2.2.1 ∧ d.2.2.1 < (c.length : Int) then
 ((Az b (c.getD d.2.1.toNat (Ty.zero Ah)).2.1 (c.getD d.2.2.1.toNat (Ty.zero Ah)).2.1).bind fun o =>
 eqSt (Lp b c d i j (o.1, o.2)) (Lp b c d i j (l.1, l.2))).bind fun _ =>
 (Az b (c.getD d.2.1.toNat (Ty.zero Ah)).2.1 (c.getD d.2.2.1.toNat (Ty.zero Ah)).2.1).bind fun q =>
 eqSt (Lp b c d i j (q.1, q.2)) (Lp b c d i j (l.1, l.2))
 else none
 else none).bind fun _ =>
 if (0 : Int) ≤ d.2.2.1 ∧ d.2.2.1 < (c.length : Int) then
 (if (0 : Int) ≤ d.2.1 ∧ d.2.1 < (c.length : Int) then
 ((Az b (c.getD d.2.1.toNat (Ty.zero Ah)).2.1 (c.getD d.2.2.1.toNat (Ty.zero Ah)).2.1).bind fun s =>
 eqSt (Lp b c d i j (s.1, s.2)) (Lp b c d i j (l.1, l.2))).bind fun _ =>
 (Az b (c.getD d.2.1.toNat (Ty.zero Ah)).2.1 (c.getD d.2.2.1.toNat (Ty.zero Ah)).2.1).bind fun t =>
 eqSt (Lp b c d i j (t.1, t.2)) (Lp b c d i j (l.1, l.2))
 else none).bind fun _ =>
 if (0 : Int) ≤ d.2.1 ∧ d.2.1 < (c.length : Int) then
(Az b (c.getD d.2.1.toNat (Ty.zero Ah)).2.1 (c.getD d.2.2.1.toNat (Ty.zero Ah)).2.1).bind fun u =>
 eqSt (Lp b c d i j (u.1, u.2)) (Lp b c d i j (l.1, l.2))
 else none
 else none).bind fun _ => some (Lp b c d i j (l.1, l.2)))
 else none
 else none := by kernel_rfl
  rw [h]
  unfold Hq
  simp only [mC, mI, mN, mB, mE, mM, mS, mO]
  clear h
  by_cases hc0 : (0 : Int) ≤ d.2.1 ∧ d.2.1 < (c.length : Int)
  · rw [if_pos hc0, if_pos hc0]
    by_cases hc1 : (0 : Int) ≤ d.2.2.1 ∧ d.2.2.1 < (c.length : Int)
    · rw [if_pos hc1, if_pos hc1]
      cases hc2 : Az b (c.getD d.2.1.toNat (Ty.zero Ah)).2.1 (c.getD d.2.2.1.toNat (Ty.zero Ah)).2.1 with
      | none => rfl
      | some l =>
        simp only [Option.bind_some]
        simp only [if_pos hc0, if_pos hc1, hc2, Option.bind_some, I9]
    · simp only [if_pos hc0, if_neg hc1]
  · simp only [if_neg hc0]
def AbI (b : (List Ae.V)) (c : (List Ah.V)) (d : Aa.V) : St := sT 231 [(0, dD (.sl Ae) b), (2, dD (.sl Ah) c), (7, .ptr 0 0 [] 0), (8, .ptr 1 0 [] 0), (10, .ptr 2 0 [] 0)] [.box (dD Aa d), .box (.pr .zs (.pr .zs .u)), .box (.pr .zs (.pr .zs .u))]
def K9 (b : (List Ae.V)) (c : (List Ah.V)) (d : Aa.V) : (Bool × (List Ab.V)) → St := fun v => sT 231 [(0, dD (.sl Ae) b), (2, dD (.sl Ah) c), (7, .ptr 0 0 [] 0), (8, .ptr 1 0 [] 0), (10, .ptr 2 0 [] 0), (14, dB v.1)] [.box (dD Aa d), .box (.pr .zs (.pr .zs .u)), .box (.pr (.ref 3) (.pr .zs .u)), .row 196 .deep Ab v.2]
def GT (b : (List Ae.V)) (c : (List Ah.V)) (d : Aa.V) : Option (Bool × (List Ab.V)) :=
 if (0 : Int) ≤ d.2.1 ∧ d.2.1 < (c.length : Int) then
 if (0 : Int) ≤ d.2.2.1 ∧ d.2.2.1 < (c.length : Int) then
 (Az b (c.getD d.2.1.toNat (Ty.zero Ah)).1 (c.getD d.2.2.1.toNat (Ty.zero Ah)).1).bind fun w =>
 some (w.1, w.2)
 else none
 else none
theorem AdC (b : (List Ae.V)) (c : (List Ah.V)) (d : Aa.V) : DrOk E55 0 35 (sub (code Tryz.f97) [1, 1, 1, 1, 1, 1, 1, 1, 1, 0]) [1, 0, 1, 1, 1, 1, 1, 1, 1, 1, 1, 0, 0] (AbI b c d) (GT b c d) (K9 b c d) := by
  unfold DrOk
  have h : drS E55 0 35 (sub (code Tryz.f97) [1, 1, 1, 1, 1, 1, 1, 1, 1, 0]) [1, 0, 1, 1, 1, 1, 1, 1, 1, 1, 1, 0, 0] (AbI b c d) =
 if (0 : Int) ≤ d.2.1 ∧ d.2.1 < (c.length : Int) then
 if (0 : Int) ≤ d.2.2.1 ∧ d.2.2.1 < (c.length : Int) then
 (Az b (c.getD d.2.1.toNat (Ty.zero Ah)).1 (c.getD d.2.2.1.toNat (Ty.zero Ah)).1).bind fun w =>
 (((if (0 : Int) ≤ d.2.1 ∧ d.2.1 < (c.length : Int) then
 (if (0 : Int) ≤ d.2.2.1 ∧ d.2.2.1 < (c.length : Int) then
(Az b (c.getD d.2.1.toNat (Ty.zero Ah)).1 (c.getD d.2.2.1.toNat (Ty.zero Ah)).1).bind fun x =>
 eqSt (K9 b c d (x.1, x.2)) (K9 b c d (w.1, w.2))
 else none).bind fun _ =>
 if (0 : Int) ≤ d.2.2.1 ∧ d.2.2.1 < (c.length : Int) then
 ((Az b (c.getD d.2.1.toNat (Ty.zero Ah)).1 (c.getD d.2.2.1.toNat (Ty.zero Ah)).1).bind fun y =>
 eqSt (K9 b c d (y.1, y.2)) (K9 b c d (w.1, w.2))).bind fun _ =>
 (Az b (c.getD d.2.1.toNat (Ty.zero Ah)).1 (c.getD d.2.2.1.toNat (Ty.zero Ah)).1).bind fun a1 =>
 eqSt (K9 b c d (a1.1, a1.2)) (K9 b c d (w.1, w.2))
 else none
 else none).bind fun _ =>
 if (0 : Int) ≤ d.2.2.1 ∧ d.2.2.1 < (c.length : Int) then
 (if (0 : Int) ≤ d.2.1 ∧ d.2.1 < (c.length : Int) then
 ((Az b (c.getD d.2.1.toNat (Ty.zero Ah)).1 (c.getD d.2.2.1.toNat (Ty.zero Ah)).1).bind fun b1 =>
 eqSt (K9 b c d (b1.1, b1.2)) (K9 b c d (w.1, w.2))).bind fun _ =>
 (Az b (c.getD d.2.1.toNat (Ty.zero Ah)).1 (c.getD d.2.2.1.toNat (Ty.zero Ah)).1).bind fun c1 =>
 eqSt (K9 b c d (c1.1, c1.2)) (K9 b c d (w.1, w.2))
 else none).bind fun _ =>
 if (0 : Int) ≤ d.2.1 ∧ d.2.1 < (c.length : Int) then
(Az b (c.getD d.2.1.toNat (Ty.zero Ah)).1 (c.getD d.2.2.1.toNat (Ty.zero Ah)).1).bind fun d1 =>
 eqSt (K9 b c d (d1.1, d1.2)) (K9 b c d (w.1, w.2))
 else none
 else none).bind fun _ => some (K9 b c d (w.1, w.2)))
 else none
 else none := by kernel_rfl
  rw [h]
  unfold GT
  simp only [mC, mI, mN, mB, mE, mM, mS, mO]
  clear h
  by_cases hc0 : (0 : Int) ≤ d.2.1 ∧ d.2.1 < (c.length : Int)
  · rw [if_pos hc0, if_pos hc0]
    by_cases hc1 : (0 : Int) ≤ d.2.2.1 ∧ d.2.2.1 < (c.length : Int)
    · rw [if_pos hc1, if_pos hc1]
      cases hc2 : Az b (c.getD d.2.1.toNat (Ty.zero Ah)).1 (c.getD d.2.2.1.toNat (Ty.zero Ah)).1 with
      | none => rfl
      | some w =>
        simp only [Option.bind_some]
        simp only [if_pos hc0, if_pos hc1, hc2, Option.bind_some, I9]
    · simp only [if_pos hc0, if_neg hc1]
  · simp only [if_neg hc0]
def AaY (b : (List Ae.V)) (c : (List Ah.V)) (d : Aa.V) (e1 : Bool) (g1 : (List Ab.V)) : St := sT 231 [(0, dD (.sl Ae) b), (2, dD (.sl Ah) c), (7, .ptr 0 0 [] 0), (8, .ptr 1 0 [] 0), (10, .ptr 2 0 [] 0), (14, dB e1)] [.box (dD Aa d), .box (.pr .zs (.pr .zs .u)), .box (.pr (.ref 3) (.pr .zs .u)), .row 196 .deep Ab g1]
def Im (b : (List Ae.V)) (c : (List Ah.V)) (d : Aa.V) (e1 : Bool) (g1 : (List Ab.V)) : (Bool × (List Ab.V)) → St := fun i1 => sT 231 [(8, .ptr 0 0 [] 0), (10, .ptr 1 0 [] 0), (14, dB e1), (15, dB i1.1)] [.box (.pr .zs (.pr .zs .u)), .box (.pr (.ref 2) (.pr (.ref 3) .u)), .row 196 .deep Ab g1, .row 196 .deep Ab i1.2]
def Ho (b : (List Ae.V)) (c : (List Ah.V)) (d : Aa.V) (e1 : Bool) (g1 : (List Ab.V)) : Option (Bool × (List Ab.V)) :=
 if (0 : Int) ≤ d.2.1 ∧ d.2.1 < (c.length : Int) then
 (Aq b (c.getD d.2.1.toNat (Ty.zero Ah)).2.1 d.2.2.2.1 d.2.2.2.2.1).bind fun j1 =>
 some (j1.1, j1.2)
 else none
theorem Afx (b : (List Ae.V)) (c : (List Ah.V)) (d : Aa.V) (e1 : Bool) (g1 : (List Ab.V)) : DrOk E55 0 33 (sub (code Tryz.f97) [1, 1, 1, 1, 1, 1, 1, 1, 1, 0]) [1, 0, 1, 1, 1, 1, 1, 1, 1, 0, 1] (AaY b c d e1 g1) (Ho b c d e1 g1) (Im b c d e1 g1) := by
  unfold DrOk
  have h : drS E55 0 33 (sub (code Tryz.f97) [1, 1, 1, 1, 1, 1, 1, 1, 1, 0]) [1, 0, 1, 1, 1, 1, 1, 1, 1, 0, 1] (AaY b c d e1 g1) =
 if (0 : Int) ≤ d.2.1 ∧ d.2.1 < (c.length : Int) then
 (Aq b (c.getD d.2.1.toNat (Ty.zero Ah)).2.1 d.2.2.2.1 d.2.2.2.2.1).bind fun j1 =>
 (((if (0 : Int) ≤ d.2.1 ∧ d.2.1 < (c.length : Int) then
 (((Aq b (c.getD d.2.1.toNat (Ty.zero Ah)).2.1 d.2.2.2.1 d.2.2.2.2.1).bind fun k1 =>
 eqSt (Im b c d e1 g1 (k1.1, k1.2)) (Im b c d e1 g1 (j1.1, j1.2))).bind fun _ =>
 (Aq b (c.getD d.2.1.toNat (Ty.zero Ah)).2.1 d.2.2.2.1 d.2.2.2.2.1).bind fun l1 =>
 eqSt (Im b c d e1 g1 (l1.1, l1.2)) (Im b c d e1 g1 (j1.1, j1.2))).bind fun _ =>
  (((Aq b (c.getD d.2.1.toNat (Ty.zero Ah)).2.1 d.2.2.2.1 d.2.2.2.2.1).bind fun n1 =>
 eqSt (Im b c d e1 g1 (n1.1, n1.2)) (Im b c d e1 g1 (j1.1, j1.2))).bind fun _ =>
 (Aq b (c.getD d.2.1.toNat (Ty.zero Ah)).2.1 d.2.2.2.1 d.2.2.2.2.1).bind fun o1 =>
 eqSt (Im b c d e1 g1 (o1.1, o1.2)) (Im b c d e1 g1 (j1.1, j1.2))).bind fun _ =>
 ((Aq b (c.getD d.2.1.toNat (Ty.zero Ah)).2.1 d.2.2.2.1 d.2.2.2.2.1).bind fun q1 =>
 eqSt (Im b c d e1 g1 (q1.1, q1.2)) (Im b c d e1 g1 (j1.1, j1.2))).bind fun _ =>
 (Aq b (c.getD d.2.1.toNat (Ty.zero Ah)).2.1 d.2.2.2.1 d.2.2.2.2.1).bind fun s1 =>
 eqSt (Im b c d e1 g1 (s1.1, s1.2)) (Im b c d e1 g1 (j1.1, j1.2))
 else none).bind fun _ =>
  ((if (0 : Int) ≤ d.2.1 ∧ d.2.1 < (c.length : Int) then
 ((Aq b (c.getD d.2.1.toNat (Ty.zero Ah)).2.1 d.2.2.2.1 d.2.2.2.2.1).bind fun t1 =>
 eqSt (Im b c d e1 g1 (t1.1, t1.2)) (Im b c d e1 g1 (j1.1, j1.2))).bind fun _ =>
 (Aq b (c.getD d.2.1.toNat (Ty.zero Ah)).2.1 d.2.2.2.1 d.2.2.2.2.1).bind fun u1 =>
 eqSt (Im b c d e1 g1 (u1.1, u1.2)) (Im b c d e1 g1 (j1.1, j1.2))
 else none).bind fun _ =>
 if (0 : Int) ≤ d.2.1 ∧ d.2.1 < (c.length : Int) then
(Aq b (c.getD d.2.1.toNat (Ty.zero Ah)).2.1 d.2.2.2.1 d.2.2.2.2.1).bind fun v1 =>
 eqSt (Im b c d e1 g1 (v1.1, v1.2)) (Im b c d e1 g1 (j1.1, j1.2))
 else none).bind fun _ =>
 (if (0 : Int) ≤ d.2.1 ∧ d.2.1 < (c.length : Int) then
 ((Aq b (c.getD d.2.1.toNat (Ty.zero Ah)).2.1 d.2.2.2.1 d.2.2.2.2.1).bind fun w1 =>
 eqSt (Im b c d e1 g1 (w1.1, w1.2)) (Im b c d e1 g1 (j1.1, j1.2))).bind fun _ =>
 (Aq b (c.getD d.2.1.toNat (Ty.zero Ah)).2.1 d.2.2.2.1 d.2.2.2.2.1).bind fun x1 =>
 eqSt (Im b c d e1 g1 (x1.1, x1.2)) (Im b c d e1 g1 (j1.1, j1.2))
 else none).bind fun _ =>
 if (0 : Int) ≤ d.2.1 ∧ d.2.1 < (c.length : Int) then
(Aq b (c.getD d.2.1.toNat (Ty.zero Ah)).2.1 d.2.2.2.1 d.2.2.2.2.1).bind fun y1 =>
 eqSt (Im b c d e1 g1 (y1.1, y1.2)) (Im b c d e1 g1 (j1.1, j1.2))
 else none).bind fun _ => some (Im b c d e1 g1 (j1.1, j1.2)))
 else none := by kernel_rfl
  rw [h]
  unfold Ho
  simp only [mC, mI, mN, mB, mE, mM, mS, mO]
  clear h
  by_cases hc0 : (0 : Int) ≤ d.2.1 ∧ d.2.1 < (c.length : Int)
  · rw [if_pos hc0, if_pos hc0]
    cases hc1 : Aq b (c.getD d.2.1.toNat (Ty.zero Ah)).2.1 d.2.2.2.1 d.2.2.2.2.1 with
    | none => rfl
    | some j1 =>
      simp only [Option.bind_some]
      simp only [if_pos hc0, hc1, Option.bind_some, I9]
  · simp only [if_neg hc0]
def AbP (b : (List Ae.V)) (c : (List Ah.V)) (d : Aa.V) : St := sT 231 [(0, dD (.sl Ae) b), (2, dD (.sl Ah) c), (7, .ptr 0 0 [] 0), (8, .ptr 1 0 [] 0), (10, .ptr 2 0 [] 0)] [.box (dD Aa d), .box (.pr .zs (.pr .zs .u)), .box (.pr .zs (.pr .zs .u))]
def Ig (b : (List Ae.V)) (c : (List Ah.V)) (d : Aa.V) : (Bool × (List Ab.V)) → St := fun a2 => sT 231 [(0, dD (.sl Ae) b), (2, dD (.sl Ah) c), (7, .ptr 0 0 [] 0), (8, .ptr 1 0 [] 0), (10, .ptr 2 0 [] 0), (14, dB a2.1)] [.box (dD Aa d), .box (.pr .zs (.pr .zs .u)), .box (.pr (.ref 3) (.pr .zs .u)), .row 196 .deep Ab a2.2]
def Hw (b : (List Ae.V)) (c : (List Ah.V)) (d : Aa.V) : Option (Bool × (List Ab.V)) :=
 if (0 : Int) ≤ d.2.1 ∧ d.2.1 < (c.length : Int) then
 (Aq b (c.getD d.2.1.toNat (Ty.zero Ah)).1 d.2.2.2.1 d.2.2.2.2.1).bind fun b2 =>
 some (b2.1, b2.2)
 else none
theorem Agm (b : (List Ae.V)) (c : (List Ah.V)) (d : Aa.V) : DrOk E55 0 32 (sub (code Tryz.f97) [1, 1, 1, 1, 1, 1, 1, 1, 1, 0]) [1, 0, 1, 1, 1, 1, 1, 1, 1, 0, 0] (AbP b c d) (Hw b c d) (Ig b c d) := by
  unfold DrOk
  have h : drS E55 0 32 (sub (code Tryz.f97) [1, 1, 1, 1, 1, 1, 1, 1, 1, 0]) [1, 0, 1, 1, 1, 1, 1, 1, 1, 0, 0] (AbP b c d) =
 if (0 : Int) ≤ d.2.1 ∧ d.2.1 < (c.length : Int) then
 (Aq b (c.getD d.2.1.toNat (Ty.zero Ah)).1 d.2.2.2.1 d.2.2.2.2.1).bind fun b2 =>
 (((if (0 : Int) ≤ d.2.1 ∧ d.2.1 < (c.length : Int) then
 (((Aq b (c.getD d.2.1.toNat (Ty.zero Ah)).1 d.2.2.2.1 d.2.2.2.2.1).bind fun c2 =>
 eqSt (Ig b c d (c2.1, c2.2)) (Ig b c d (b2.1, b2.2))).bind fun _ =>
 (Aq b (c.getD d.2.1.toNat (Ty.zero Ah)).1 d.2.2.2.1 d.2.2.2.2.1).bind fun d2 =>
 eqSt (Ig b c d (d2.1, d2.2)) (Ig b c d (b2.1, b2.2))).bind fun _ =>
  (((Aq b (c.getD d.2.1.toNat (Ty.zero Ah)).1 d.2.2.2.1 d.2.2.2.2.1).bind fun e2 =>
 eqSt (Ig b c d (e2.1, e2.2)) (Ig b c d (b2.1, b2.2))).bind fun _ =>
 (Aq b (c.getD d.2.1.toNat (Ty.zero Ah)).1 d.2.2.2.1 d.2.2.2.2.1).bind fun g2 =>
 eqSt (Ig b c d (g2.1, g2.2)) (Ig b c d (b2.1, b2.2))).bind fun _ =>
 ((Aq b (c.getD d.2.1.toNat (Ty.zero Ah)).1 d.2.2.2.1 d.2.2.2.2.1).bind fun i2 =>
 eqSt (Ig b c d (i2.1, i2.2)) (Ig b c d (b2.1, b2.2))).bind fun _ =>
 (Aq b (c.getD d.2.1.toNat (Ty.zero Ah)).1 d.2.2.2.1 d.2.2.2.2.1).bind fun j2 =>
 eqSt (Ig b c d (j2.1, j2.2)) (Ig b c d (b2.1, b2.2))
 else none).bind fun _ =>
  ((if (0 : Int) ≤ d.2.1 ∧ d.2.1 < (c.length : Int) then
 ((Aq b (c.getD d.2.1.toNat (Ty.zero Ah)).1 d.2.2.2.1 d.2.2.2.2.1).bind fun k2 =>
 eqSt (Ig b c d (k2.1, k2.2)) (Ig b c d (b2.1, b2.2))).bind fun _ =>
 (Aq b (c.getD d.2.1.toNat (Ty.zero Ah)).1 d.2.2.2.1 d.2.2.2.2.1).bind fun l2 =>
 eqSt (Ig b c d (l2.1, l2.2)) (Ig b c d (b2.1, b2.2))
 else none).bind fun _ =>
 if (0 : Int) ≤ d.2.1 ∧ d.2.1 < (c.length : Int) then
(Aq b (c.getD d.2.1.toNat (Ty.zero Ah)).1 d.2.2.2.1 d.2.2.2.2.1).bind fun n2 =>
 eqSt (Ig b c d (n2.1, n2.2)) (Ig b c d (b2.1, b2.2))
 else none).bind fun _ =>
 (if (0 : Int) ≤ d.2.1 ∧ d.2.1 < (c.length : Int) then
 ((Aq b (c.getD d.2.1.toNat (Ty.zero Ah)).1 d.2.2.2.1 d.2.2.2.2.1).bind fun o2 =>
 eqSt (Ig b c d (o2.1, o2.2)) (Ig b c d (b2.1, b2.2))).bind fun _ =>
 (Aq b (c.getD d.2.1.toNat (Ty.zero Ah)).1 d.2.2.2.1 d.2.2.2.2.1).bind fun q2 =>
 eqSt (Ig b c d (q2.1, q2.2)) (Ig b c d (b2.1, b2.2))
 else none).bind fun _ =>
 if (0 : Int) ≤ d.2.1 ∧ d.2.1 < (c.length : Int) then
(Aq b (c.getD d.2.1.toNat (Ty.zero Ah)).1 d.2.2.2.1 d.2.2.2.2.1).bind fun s2 =>
 eqSt (Ig b c d (s2.1, s2.2)) (Ig b c d (b2.1, b2.2))
 else none).bind fun _ => some (Ig b c d (b2.1, b2.2)))
 else none := by kernel_rfl
  rw [h]
  unfold Hw
  simp only [mC, mI, mN, mB, mE, mM, mS, mO]
  clear h
  by_cases hc0 : (0 : Int) ≤ d.2.1 ∧ d.2.1 < (c.length : Int)
  · rw [if_pos hc0, if_pos hc0]
    cases hc1 : Aq b (c.getD d.2.1.toNat (Ty.zero Ah)).1 d.2.2.2.1 d.2.2.2.2.1 with
    | none => rfl
    | some b2 =>
      simp only [Option.bind_some]
      simp only [if_pos hc0, hc1, Option.bind_some, I9]
  · simp only [if_neg hc0]
def BN (b : (List Ae.V)) (c : (List Ah.V)) (d : Aa.V) : Option ((Bool × (List Ab.V) × (List Ab.V)) ⊕ ((Bool × Bool × (List Ab.V) × (List Ab.V)) ⊕ Unit)) :=
 bif (d.1 == 2) then
 (A0 b d.2.2.2.2.2.1).bind fun t2 =>
 (AR t2.2).bind fun u2 =>
 bif (!t2.1) then
 some (.inl (t2.1, t2.2, u2))
 else
 some (.inr (.inl (t2.1, true, t2.2, u2)))
 else
 bif (d.1 == 3) then
 if (0 : Int) ≤ d.2.1 ∧ d.2.1 < (c.length : Int) then
 (AR (c.getD d.2.1.toNat (Ty.zero Ah)).2.1).bind fun v2 =>
 if (0 : Int) ≤ d.2.1 ∧ d.2.1 < (c.length : Int) then
 (AR (c.getD d.2.1.toNat (Ty.zero Ah)).1).bind fun w2 =>
 some (.inr (.inl (true, true, v2, w2)))
 else none
 else none
 else
 bif (d.1 == 4) then
 if (0 : Int) ≤ d.2.1 ∧ d.2.1 < (c.length : Int) then
 if (0 : Int) ≤ d.2.2.1 ∧ d.2.2.1 < (c.length : Int) then
 (Eb (c.getD d.2.1.toNat (Ty.zero Ah)).2.1 (c.getD d.2.2.1.toNat (Ty.zero Ah)).1).bind fun x2 =>
 bif (!x2) then
 some (.inr (.inr ()))
 else
 if (0 : Int) ≤ d.2.1 ∧ d.2.1 < (c.length : Int) then
 (AR (c.getD d.2.1.toNat (Ty.zero Ah)).1).bind fun y2 =>
 if (0 : Int) ≤ d.2.2.1 ∧ d.2.2.1 < (c.length : Int) then
 (AR (c.getD d.2.2.1.toNat (Ty.zero Ah)).2.1).bind fun a3 =>
 some (.inr (.inl (true, true, y2, a3)))
 else none
 else none
 else none
 else none
 else
 bif (d.1 == 5) then
 (Hw b c d).bind fun a2 =>
 (Ho b c d a2.1 a2.2).bind fun i1 =>
 some (.inr (.inl (a2.1, i1.1, a2.2, i1.2)))
 else
 bif (d.1 == 6) then
 (GT b c d).bind fun v =>
 (Hq b c d v.1 v.2).bind fun k =>
 some (.inr (.inl (v.1, k.1, v.2, k.2)))
 else
 some (.inr (.inl (true, true, ([] : List Ab.V), ([] : List Ab.V))))
theorem Ahp (b : (List Ae.V)) (c : (List Ah.V)) (d : Aa.V) : JnOk E55 0 37 (code Tryz.f97) [1, 1, 1, 1, 1, 1, 1, 1, 1, 0] (AfG b c d) (BN b c d) (Aex b c d) := by
  unfold JnOk
  simp only [BN, mC, mI, mN, mB, mE, mM]
  simp (disch := refine sI ?_ <;> (repeat' refine sA ?_ ?_) <;> intro _ <;> kernel_rfl) only [Qs (Agm _ _ _) (K := joinK 0 (E55.jn 37)), Qs (Afx _ _ _ _ _) (K := joinK 0 (E55.jn 37)), Qs (AdC _ _ _) (K := joinK 0 (E55.jn 37)), Qs (AeE _ _ _ _ _) (K := joinK 0 (E55.jn 37))]
  kernel_rfl
def Ag3 (b : (List Ae.V)) (c : (List Ah.V)) (d : Aa.V) (b3 : ByteArray) (c3 : Int) : St := sT 231 [(0, dD (.sl Ae) b), (2, dD (.sl Ah) c), (7, .ptr 0 0 [] 0), (8, .ptr 1 0 [] 0), (10, .ptr 2 0 [] 0), (11, dD .str b3), (12, dI c3)] [.box (dD Aa d), .box (.pr .zs (.pr .zs .u)), .box (.pr .zs (.pr .zs .u))]
def AeP (b : (List Ae.V)) (c : (List Ah.V)) (d : Aa.V) (b3 : ByteArray) (c3 : Int) : Bool → Ex × St := fun d3 => (.normal, sT 231 [(0, dD (.sl Ae) b), (2, dD (.sl Ah) c), (7, .ptr 0 0 [] 0), (8, .ptr 1 0 [] 0), (10, .ptr 2 0 [] 0), (79, dB d3)] [.box (dD Aa d), .box (.pr .zs (.pr .zs .u)), .box (.pr .zs (.pr .zs .u))])
def BO (b : (List Ae.V)) (c : (List Ah.V)) (d : Aa.V) (b3 : ByteArray) (c3 : Int) : Option Bool :=
 (As b3 105).bind fun e3 =>
 bif e3 then
 bif (!(AA d.2.1 0 c3)) then
 some true
 else
 (As b3 106).bind fun g3 =>
 bif g3 then
 some (!(AA d.2.2.1 0 c3))
 else
 some false
 else
 (As b3 106).bind fun i3 =>
 bif i3 then
 some (!(AA d.2.2.1 0 c3))
 else
 some false
theorem AhY (b : (List Ae.V)) (c : (List Ah.V)) (d : Aa.V) (b3 : ByteArray) (c3 : Int) : JnOk E55 0 14 (code Tryz.f97) [1, 1, 1, 1, 1, 1, 0, 0] (Ag3 b c d b3 c3) (BO b c d b3 c3) (AeP b c d b3 c3) := by
  unfold JnOk
  simp only [BO, mC, mI, mN, mB, mE, mM]
  kernel_rfl
def AF (b : (List Ae.V)) (j3 : (List Af.V)) (c : (List Ah.V)) (d : Aa.V) : Option (Int × (List Ab.V) × (List Ab.V)) :=
 (C7 d).bind fun k3 =>
 bif (!k3) then
 some (2, ([] : List Ab.V), ([] : List Ab.V))
 else
 bif (d.1 == 1) then
 (Fl j3 d.2.1).bind fun l3 =>
 bif (decide (l3 < 0)) then
 some (3, ([] : List Ab.V), ([] : List Ab.V))
 else
 if (0 : Int) ≤ l3 ∧ l3 < (j3.length : Int) then
 (A0 b (j3.getD l3.toNat (Ty.zero Af)).2.2.1).bind fun n3 =>
 if (0 : Int) ≤ l3 ∧ l3 < (j3.length : Int) then
 (A0 b (j3.getD l3.toNat (Ty.zero Af)).2.2.2.1).bind fun o3 =>
 some (0, n3.2, o3.2)
 else none
 else none
 else
 (BO b c d (Au d.1) (IntKind.i64.wrap ((c.length : Int) - 1))).bind fun d3 =>
 bif d3 then
 some (3, ([] : List Ab.V), ([] : List Ab.V))
 else
 (BN b c d).bind (Sum.elim (fun e =>
 some (4, e.2.1, e.2.2)) (Sum.elim (fun a =>
 mkr (Zd a) (
 bif ((!a.1) || (!a.2.1)) then
 some (6, a.2.2.1, a.2.2.2)
 else
 some (0, a.2.2.1, a.2.2.2))) (fun g =>
 some (5, ([] : List Ab.V), ([] : List Ab.V)))))
theorem U55 (R : Type) (b : (List Ae.V)) (j3 : (List Af.V)) (c : (List Ah.V)) (d : Aa.V) (K : AV → List Blk → Option R) : runF E55 Tryz.f97 R [dD (.sl Ae) b, dD (.sl Af) j3, dD (.sl Ah) c, dD Aa d] [] K = (AF b j3 c d).bind fun r => K (.cons (.pr (.ref 0) (.pr (.ref 1) .u)) (.cons (dI r.1) .nil)) [.row 196 .deep Ab r.2.1, .row 196 .deep Ab r.2.2] := by
  simp only [AF, bC, bI, bN, bE, bA, bS, bO, bM]
  simp (disch := refine sI ?_ <;> (repeat' refine sA ?_ ?_) <;> intro _ <;> kernel_rfl) only [AX (AhY _ _ _ _ _) (K := finK E55 Tryz.f97 0 R K), AX (Ahp _ _ _) (K := finK E55 Tryz.f97 0 R K), DB (AfQ _) (K := finK E55 Tryz.f97 0 R K)]
  kernel_rfl
def c97 : Va.Callee := brC [.d (.sl Ae), .d (.sl Af), .d (.sl Ah), .d Aa] [⟨[.dat [] (.sl Ae), .dat [] (.sl Af), .dat [] (.sl Ah), .dat [] Aa], [], (Int × (List Ab.V) × (List Ab.V)), fun p => AF p.1.1 p.1.2.1 p.1.2.2.1 p.1.2.2.2.1, fun r => (.cons (.pr (.ref 0) (.pr (.ref 1) .u)) (.cons (dI r.1) .nil), [.row 196 .deep Ab r.2.1, .row 196 .deep Ab r.2.2])⟩]
theorem YR : SoundC Tryz.prog 97 c97 := Ao (fn := Tryz.f97) (by kernel_rfl) (by kernel_rfl) (by kernel_rfl) ⟨⟨E55, ⟨⟨tabok, Am ⟨P8, PO, Su, IF, UJ, Wi, Vb, VF, WC, VR, trivial⟩⟩, mixed⟩, fun p R K => U55 R p.1.1 p.1.2.1 p.1.2.2.1 p.1.2.2.2.1 K⟩, trivial⟩
end
end Go.Proofs.X
namespace Go.Proofs.X
open Go Go.Va
set_option maxRecDepth 100000
noncomputable section
abbrev E56 : Env := ⟨tab, lookH [(58, c58), (96, c96), (97, c97)], { deep := true, heads := [(9, { live := [0, 1, 2, 9, 12, 13], pre := [(12, false, .row [] 173 Ah true)] })], outs := [(9, { live := [6, 7, 8, 12] })], joins := [(3, { live := [0, 1, 2, 9, 25] })], ents := [(3, [0, 1, 2, 9])], res := [(0, .row [] 173 Ah true)] }⟩
def Ais (a : (List Ae.V)) (b : (List Af.V)) (c : (List Aa.V)) (z_ : (Int × (List Ah.V))) : St := sT 64 [(0, dD (.sl Ae) a), (1, dD (.sl Af) b), (2, dD (.sl Aa) c), (9, .zs), (12, .ref 0), (13, dI z_.1)] [.row 173 .deep Ah z_.2]
def AhK (a : (List Ae.V)) (b : (List Af.V)) (c : (List Aa.V)) : ((Int × Int × (List Ah.V)) ⊕ (List Ah.V)) → Ex × St := Sum.elim (fun d => (.ret, sT 64 [(6, .zs), (7, dI d.1), (8, dI d.2.1), (12, .ref 0)] [.row 173 .deep Ah d.2.2])) (fun e => ((.exit 0), sT 64 [(12, .ref 0)] [.row 173 .deep Ah e]))
def CR (a : (List Ae.V)) (b : (List Af.V)) (c : (List Aa.V)) (g : Int) (i : (List Ah.V)) : Option ((Int × (List Ah.V)) ⊕ ((Int × Int × (List Ah.V)) ⊕ (List Ah.V))) :=
 bif (decide (g < (c.length : Int))) then
 if (0 : Int) ≤ g ∧ g < (c.length : Int) then
 (AF a b i (c.getD g.toNat (Ty.zero Aa))).bind fun j =>
 bif (j.1 != 0) then
 some (.inr (.inl (j.1, g, i)))
 else
 if (i.length + ([(j.2.1, j.2.2, ())] : List Ah.V).length) * 48 ≤ 140737488355328 then
 some (.inl ((IntKind.i64.wrap (g + 1)), (i ++ ([(j.2.1, j.2.2, ())] : List Ah.V))))
 else none
 else none
 else
 some (.inr (.inr i))
def Bi (a : (List Ae.V)) (b : (List Af.V)) (c : (List Aa.V)) (z_ : (Int × (List Ah.V))) := CR a b c z_.1 z_.2
def Ge (a : (List Ae.V)) (b : (List Af.V)) (c : (List Aa.V)) (g : Int) (i : (List Ah.V)) := fix (Bi a b c) (g, i)
theorem Ahz (a : (List Ae.V)) (b : (List Af.V)) (c : (List Aa.V)) : LpOk E56 0 9 (code Tryz.f41) [1, 1, 1, 1, 1, 0, 1, 0] (Ais a b c) (Bi a b c) (AhK a b c) := by
  intro _
  simp only [Bi, CR, mC, mI, mN, mB, mE, mM]
  kernel_rfl
def Aid (a : (List Ae.V)) (b : (List Af.V)) (c : (List Aa.V)) : St := sT 64 [(0, dD (.sl Ae) a), (1, dD (.sl Af) b), (2, dD (.sl Aa) c), (9, .zs)] []
def Aec (a : (List Ae.V)) (b : (List Af.V)) (c : (List Aa.V)) : Bool → Ex × St := fun k => (.normal, sT 64 [(0, dD (.sl Ae) a), (1, dD (.sl Af) b), (2, dD (.sl Aa) c), (9, .zs), (25, dB k)] [])
def F8 (a : (List Ae.V)) (b : (List Af.V)) (c : (List Aa.V)) : Option Bool :=
 (Dz a b).bind fun l =>
 bif (!l) then
 some true
 else
 some (decide ((c.length : Int) > 200))
theorem Ads (a : (List Ae.V)) (b : (List Af.V)) (c : (List Aa.V)) : JnOk E56 0 3 (code Tryz.f41) [1, 1, 0, 0] (Aid a b c) (F8 a b c) (Aec a b c) := by
  unfold JnOk
  simp only [F8, mC, mI, mN, mB, mE, mM]
  kernel_rfl
def Ff (a : (List Ae.V)) (b : (List Af.V)) (c : (List Aa.V)) : Option (Int × Int × (List Ah.V)) :=
 (F8 a b c).bind fun k =>
 bif k then
 some (1, (-1), ([] : List Ah.V))
 else
 (GJ a b).bind fun n =>
 bif (!n.1) then
 some (1, (-1), ([] : List Ah.V))
 else
 (Ge a b c 0 ([] : List Ah.V)).bind (Sum.elim (fun d =>
 some (d.1, d.2.1, ([] : List Ah.V))) (fun e =>
 some (0, (-1), e)))
theorem U56 (R : Type) (a : (List Ae.V)) (b : (List Af.V)) (c : (List Aa.V)) (K : AV → List Blk → Option R) : runF E56 Tryz.f41 R [dD (.sl Ae) a, dD (.sl Af) b, dD (.sl Aa) c] [] K = (Ff a b c).bind fun r => K (.cons (.ref 0) (.cons (dI r.1) (.cons (dI r.2.1) .nil))) [.row 173 .deep Ah r.2.2] := by
  simp only [Ff, bC, bI, bN, bE, bA, bS, bO, bM]
  simp (disch := refine sI ?_ <;> (repeat' refine sA ?_ ?_) <;> intro _ <;> kernel_rfl) only [AX (Ads _ _ _) (K := finK E56 Tryz.f41 0 R K), Ge, AC (Ahz _ _ _) (K := finK E56 Tryz.f41 0 R K)]
  kernel_rfl
def c41 : Va.Callee := brC [.d (.sl Ae), .d (.sl Af), .d (.sl Aa)] [⟨[.dat [] (.sl Ae), .dat [] (.sl Af), .dat [] (.sl Aa)], [], (Int × Int × (List Ah.V)), fun p => Ff p.1.1 p.1.2.1 p.1.2.2.1, fun r => (.cons (.ref 0) (.cons (dI r.1) (.cons (dI r.2.1) .nil)), [.row 173 .deep Ah r.2.2])⟩]
theorem YF : SoundC Tryz.prog 41 c41 := Ao (fn := Tryz.f41) (by kernel_rfl) (by kernel_rfl) (by kernel_rfl) ⟨⟨E56, ⟨⟨tabok, Am ⟨Xs, YY, YR, trivial⟩⟩, mixed⟩, fun p R K => U56 R p.1.1 p.1.2.1 p.1.2.2.1 K⟩, trivial⟩
abbrev E57 : Env := ⟨tab, lookH [], { deep := true }⟩
def AK (a : Ad.V) : Option (Int × Int × Int × Int × Int × (List Int) × (List Int)) :=
 if a.2.2.2.2.2.1.length * 8 ≤ 140737488355328 then
 if a.2.2.2.2.1.2.1.length * 8 ≤ 140737488355328 then
 some (a.1, a.2.1, a.2.2.1, a.2.2.2.1, a.2.2.2.2.1.1, a.2.2.2.2.1.2.1, a.2.2.2.2.2.1)
 else none
 else none
theorem U57 (R : Type) (a : Ad.V) (K : AV → List Blk → Option R) : runF E57 Tryz.f98 R [dD Ad a] [] K = (AK a).bind fun r => K (.pr (dI r.1) (.pr (dI r.2.1) (.pr (dI r.2.2.1) (.pr (dI r.2.2.2.1) (.pr (.pr (dI r.2.2.2.2.1) (.pr (.ref 0) .u)) (.pr (.ref 1) .u)))))) [.row 221 .deep (.int .u64) r.2.2.2.2.2.1, .row 2 .deep (.int .i64) r.2.2.2.2.2.2] := by
  simp only [AK, bC, bI, bN, bE, bA, bS, bO, bM]
  kernel_rfl
def c98 : Va.Callee := brC [.d Ad] [⟨[.dat [] Ad], [], (Int × Int × Int × Int × Int × (List Int) × (List Int)), fun p => AK p.1.1, fun r => (.pr (dI r.1) (.pr (dI r.2.1) (.pr (dI r.2.2.1) (.pr (dI r.2.2.2.1) (.pr (.pr (dI r.2.2.2.2.1) (.pr (.ref 0) .u)) (.pr (.ref 1) .u))))), [.row 221 .deep (.int .u64) r.2.2.2.2.2.1, .row 2 .deep (.int .i64) r.2.2.2.2.2.2])⟩]
theorem Yz : SoundC Tryz.prog 98 c98 := Ao (fn := Tryz.f98) (by kernel_rfl) (by kernel_rfl) (by kernel_rfl) ⟨⟨E57, ⟨⟨tabok, Am trivial⟩, mixed⟩, fun p R K => U57 R p.1.1 K⟩, trivial⟩
abbrev E58 : Env := ⟨tab, lookH [(98, c98)], { deep := true, heads := [(3, { live := [1, 2, 3, 4], pre := [(3, true, .row [0] 177 Ad true)] })], outs := [(3, { live := [2, 3] })], draws := [(5, { live := [1, 2, 3, 4] })], dents := [(5, [1, 2, 3, 4])] }⟩
def Agf (a : Ai.V) (z_ : (Int × (List Ad.V))) : St := sT 25 [(1, .ptr 0 0 [] 0), (2, .ptr 1 0 [] 0), (3, .ptr 2 0 [] 0), (4, dI z_.1)] [.box (dD Ai a), .box (.pr .zs .u), .box (.pr (.ref 3) .u), .row 177 .deep Ad z_.2]
def AgB (a : Ai.V) : (List Ad.V) → Ex × St := fun b => ((.exit 0), sT 25 [(2, .ptr 0 0 [] 0), (3, .ptr 1 0 [] 0)] [.box (.pr .zs .u), .box (.pr (.ref 2) .u), .row 177 .deep Ad b])
def Aah (c : Int) (a : Ai.V) (d : (List Ad.V)) : St := sT 25 [(1, .ptr 0 0 [] 0), (2, .ptr 1 0 [] 0), (3, .ptr 2 0 [] 0), (4, dI c)] [.box (dD Ai a), .box (.pr .zs .u), .box (.pr (.ref 3) .u), .row 177 .deep Ad d]
def L2 (c : Int) (a : Ai.V) (d : (List Ad.V)) : (List Ad.V) → St := fun e => sT 25 [(1, .ptr 0 0 [] 0), (2, .ptr 1 0 [] 0), (3, .ptr 2 0 [] 0), (4, dI c)] [.box (dD Ai a), .box (.pr .zs .u), .box (.pr (.ref 3) .u), .row 177 .deep Ad e]
def DD (c : Int) (a : Ai.V) (d : (List Ad.V)) : Option (List Ad.V) :=
 if (0 : Int) ≤ c ∧ c < (a.1.length : Int) then
 (AK (a.1.getD c.toNat (Ty.zero Ad))).bind fun g =>
 if (d.length + ([(g.1, g.2.1, g.2.2.1, g.2.2.2.1, (g.2.2.2.2.1, g.2.2.2.2.2.1, ()), g.2.2.2.2.2.2, ())] : List Ad.V).length) * 88 ≤ 140737488355328 then
 some (d ++ ([(g.1, g.2.1, g.2.2.1, g.2.2.2.1, (g.2.2.2.2.1, g.2.2.2.2.2.1, ()), g.2.2.2.2.2.2, ())] : List Ad.V))
 else none
 else none
theorem AeA (c : Int) (a : Ai.V) (d : (List Ad.V)) : DrOk E58 0 5 (sub (code Tryz.f44) [1, 1, 0, 1, 0, 0]) [1, 0, 0] (Aah c a d) (DD c a d) (L2 c a d) := by
  unfold DrOk
  have h : drS E58 0 5 (sub (code Tryz.f44) [1, 1, 0, 1, 0, 0]) [1, 0, 0] (Aah c a d) =
 if (0 : Int) ≤ c ∧ c < (a.1.length : Int) then
 (AK (a.1.getD c.toNat (Ty.zero Ad))).bind fun g =>
 if (d.length + ([(g.1, g.2.1, g.2.2.1, g.2.2.2.1, (g.2.2.2.2.1, g.2.2.2.2.2.1, ()), g.2.2.2.2.2.2, ())] : List Ad.V).length) * 88 ≤ 140737488355328 then
 (((if (0 : Int) ≤ c ∧ c < (a.1.length : Int) then
(AK (a.1.getD c.toNat (Ty.zero Ad))).bind fun i =>
 if (d.length + ([(i.1, i.2.1, i.2.2.1, i.2.2.2.1, (i.2.2.2.2.1, i.2.2.2.2.2.1, ()), i.2.2.2.2.2.2, ())] : List Ad.V).length) * 88 ≤ 140737488355328 then
 eqSt (L2 c a d (d ++ ([(i.1, i.2.1, i.2.2.1, i.2.2.2.1, (i.2.2.2.2.1, i.2.2.2.2.2.1, ()), i.2.2.2.2.2.2, ())] : List Ad.V))) (L2 c a d (d ++ ([(g.1, g.2.1, g.2.2.1, g.2.2.2.1, (g.2.2.2.2.1, g.2.2.2.2.2.1, ()), g.2.2.2.2.2.2, ())] : List Ad.V)))
 else none
 else none).bind fun _ =>
 if (0 : Int) ≤ c ∧ c < (a.1.length : Int) then
 ((AK (a.1.getD c.toNat (Ty.zero Ad))).bind fun j =>
 if (d.length + ([(j.1, j.2.1, j.2.2.1, j.2.2.2.1, (j.2.2.2.2.1, j.2.2.2.2.2.1, ()), j.2.2.2.2.2.2, ())] : List Ad.V).length) * 88 ≤ 140737488355328 then
 eqSt (L2 c a d (d ++ ([(j.1, j.2.1, j.2.2.1, j.2.2.2.1, (j.2.2.2.2.1, j.2.2.2.2.2.1, ()), j.2.2.2.2.2.2, ())] : List Ad.V))) (L2 c a d (d ++ ([(g.1, g.2.1, g.2.2.1, g.2.2.2.1, (g.2.2.2.2.1, g.2.2.2.2.2.1, ()), g.2.2.2.2.2.2, ())] : List Ad.V)))
 else none).bind fun _ =>
 ((AK (a.1.getD c.toNat (Ty.zero Ad))).bind fun k =>
 if (d.length + ([(k.1, k.2.1, k.2.2.1, k.2.2.2.1, (k.2.2.2.2.1, k.2.2.2.2.2.1, ()), k.2.2.2.2.2.2, ())] : List Ad.V).length) * 88 ≤ 140737488355328 then
 eqSt (L2 c a d (d ++ ([(k.1, k.2.1, k.2.2.1, k.2.2.2.1, (k.2.2.2.2.1, k.2.2.2.2.2.1, ()), k.2.2.2.2.2.2, ())] : List Ad.V))) (L2 c a d (d ++ ([(g.1, g.2.1, g.2.2.1, g.2.2.2.1, (g.2.2.2.2.1, g.2.2.2.2.2.1, ()), g.2.2.2.2.2.2, ())] : List Ad.V)))
 else none).bind fun _ =>
 (AK (a.1.getD c.toNat (Ty.zero Ad))).bind fun l =>
 (if (d.length + ([(l.1, l.2.1, l.2.2.1, l.2.2.2.1, (l.2.2.2.2.1, l.2.2.2.2.2.1, ()), l.2.2.2.2.2.2, ())] : List Ad.V).length) * 88 ≤ 140737488355328 then
 eqSt (L2 c a d (d ++ ([(l.1, l.2.1, l.2.2.1, l.2.2.2.1, (l.2.2.2.2.1, l.2.2.2.2.2.1, ()), l.2.2.2.2.2.2, ())] : List Ad.V))) (L2 c a d (d ++ ([(g.1, g.2.1, g.2.2.1, g.2.2.2.1, (g.2.2.2.2.1, g.2.2.2.2.2.1, ()), g.2.2.2.2.2.2, ())] : List Ad.V)))
 else none).bind fun _ =>
 if (d.length + ([(l.1, l.2.1, l.2.2.1, l.2.2.2.1, (l.2.2.2.2.1, l.2.2.2.2.2.1, ()), l.2.2.2.2.2.2, ())] : List Ad.V).length) * 88 ≤ 140737488355328 then
 eqSt (L2 c a d (d ++ ([(l.1, l.2.1, l.2.2.1, l.2.2.2.1, (l.2.2.2.2.1, l.2.2.2.2.2.1, ()), l.2.2.2.2.2.2, ())] : List Ad.V))) (L2 c a d (d ++ ([(g.1, g.2.1, g.2.2.1, g.2.2.2.1, (g.2.2.2.2.1, g.2.2.2.2.2.1, ()), g.2.2.2.2.2.2, ())] : List Ad.V)))
 else none
 else none).bind fun _ => some (L2 c a d (d ++ ([(g.1, g.2.1, g.2.2.1, g.2.2.2.1, (g.2.2.2.2.1, g.2.2.2.2.2.1, ()), g.2.2.2.2.2.2, ())] : List Ad.V))))
 else none
 else none := by kernel_rfl
  rw [h]
  unfold DD
  simp only [mC, mI, mN, mB, mE, mM, mS, mO]
  clear h
  by_cases hc0 : (0 : Int) ≤ c ∧ c < (a.1.length : Int)
  · rw [if_pos hc0, if_pos hc0]
    cases hc1 : AK (a.1.getD c.toNat (Ty.zero Ad)) with
    | none => rfl
    | some g =>
      simp only [Option.bind_some]
      by_cases hc2 : (d.length + ([(g.1, g.2.1, g.2.2.1, g.2.2.2.1, (g.2.2.2.2.1, g.2.2.2.2.2.1, ()), g.2.2.2.2.2.2, ())] : List Ad.V).length) * 88 ≤ 140737488355328
      · rw [if_pos hc2, if_pos hc2]
        simp only [if_pos hc0, hc1, if_pos hc2, Option.bind_some, I9]
      · simp only [if_pos hc0, hc1, if_neg hc2]
  · simp only [if_neg hc0]
def CY (a : Ai.V) (c : Int) (d : (List Ad.V)) : Option ((Int × (List Ad.V)) ⊕ (List Ad.V)) :=
 bif (decide (c < (a.1.length : Int))) then
 (DD c a d).bind fun e =>
 some (.inl ((IntKind.i64.wrap (c + 1)), e))
 else
 some (.inr d)
def Bd (a : Ai.V) (z_ : (Int × (List Ad.V))) := CY a z_.1 z_.2
def Gx (a : Ai.V) (c : Int) (d : (List Ad.V)) := fix (Bd a) (c, d)
theorem AgQ (a : Ai.V) : LpOk E58 0 3 (code Tryz.f44) [1, 1, 0, 1, 0] (Agf a) (Bd a) (AgB a) := by
  intro _
  simp only [Bd, CY, mC, mI, mN, mB, mE, mM]
  simp (disch := refine sI ?_ <;> (repeat' refine sA ?_ ?_) <;> intro _ <;> kernel_rfl) only [Qs (AeA _ _ _) (K := stepK 0 (E58.hd 3) (E58.ot 3))]
  kernel_rfl
def CD (a : Ai.V) : Option (List Ad.V) :=
 (Gx a 0 ([] : List Ad.V)).bind fun b =>
 some b
theorem U58 (R : Type) (a : Ai.V) (K : AV → List Blk → Option R) : runF E58 Tryz.f44 R [dD Ai a] [] K = (CD a).bind fun r => K (.pr (.ref 0) .u) [.row 177 .deep Ad r] := by
  simp only [CD, bC, bI, bN, bE, bA, bS, bO, bM]
  simp (disch := refine sI ?_ <;> (repeat' refine sA ?_ ?_) <;> intro _ <;> kernel_rfl) only [Gx, AC (AgQ _) (K := finK E58 Tryz.f44 0 R K)]
  kernel_rfl
def c44 : Va.Callee := brC [.d Ai] [⟨[.dat [] Ai], [], (List Ad.V), fun p => CD p.1.1, fun r => (.pr (.ref 0) .u, [.row 177 .deep Ad r])⟩]
theorem Yv : SoundC Tryz.prog 44 c44 := Ao (fn := Tryz.f44) (by kernel_rfl) (by kernel_rfl) (by kernel_rfl) ⟨⟨E58, ⟨⟨tabok, Am ⟨Yz, trivial⟩⟩, mixed⟩, fun p R K => U58 R p.1.1 K⟩, trivial⟩
abbrev E59 : Env := ⟨tab, lookH [(41, c41), (42, c42), (43, c43), (44, c44)], { deep := true, heads := [(8, { live := [2, 8, 12, 13] }), (18, { live := [2, 8, 12, 15, 16], pre := [(8, false, .row [] 92 Aa true)] })], outs := [(8, { live := [2, 8, 12], frz := [(12, false, (.sl .bool))] }), (18, { live := [8] })], joins := [(4, { live := [2, 8, 34] }), (9, { live := [2, 8, 12, 13] }), (12, { live := [2, 8, 12, 13, 14, 68] }), (14, { live := [2, 8, 12, 13, 14] }), (19, { live := [2, 8, 12, 15, 16], pre := [(8, false, .row [] 92 Aa true)] }), (25, { live := [2, 8, 12, 15, 16, 17, 18, 118] }), (26, { live := [2, 8, 12, 15, 16, 17, 18] }), (28, { live := [2, 8, 12, 15, 16, 17] })], ents := [(4, [2, 8, 10]), (9, [2, 8, 12, 13]), (12, [2, 8, 12, 13, 14]), (14, [2, 8, 12, 13, 14]), (19, [2, 8, 12, 15, 16]), (25, [2, 8, 12, 15, 16, 17, 18]), (26, [2, 8, 12, 15, 16, 17, 18]), (28, [2, 8, 12, 15, 16, 17, 18])], res := [(0, .row [] 92 Aa true)] }⟩
def ZX (a : (List Aa.V)) (b : (List Bool)) (z_ : (Int × (List Aa.V) × (List Int))) : St := sT 143 [(2, dD (.sl Aa) a), (8, .ref 0), (12, dD (.sl .bool) b), (15, .ref 1), (16, dI z_.1)] [.row 92 .deep Aa z_.2.1, .row 2 .deep (.int .i64) z_.2.2]
def AcA (a : (List Aa.V)) (b : (List Bool)) : (List Aa.V) → Ex × St := fun c => ((.exit 2), sT 143 [(8, .ref 0)] [.row 92 .deep Aa c])
def Acs (a : (List Aa.V)) (b : (List Bool)) (d : Int) (e : (List Aa.V)) (g : (List Int)) : St := sT 143 [(2, dD (.sl Aa) a), (8, .ref 0), (12, dD (.sl .bool) b), (15, .ref 1), (16, dI d)] [.row 92 .deep Aa e, .row 2 .deep (.int .i64) g]
def Acu (a : (List Aa.V)) (b : (List Bool)) (d : Int) (e : (List Aa.V)) (g : (List Int)) : ((List Aa.V) × (List Int)) → Ex × St := fun i => (.normal, sT 143 [(2, dD (.sl Aa) a), (8, .ref 0), (12, dD (.sl .bool) b), (15, .ref 1), (16, dI d)] [.row 92 .deep Aa i.1, .row 2 .deep (.int .i64) i.2])
def AcP (a : (List Aa.V)) (b : (List Bool)) (d : Int) (e : (List Aa.V)) (g : (List Int)) (j : Int) (k : (List Ad.V)) (l : ByteArray) (n : Int) (o : Int) (q : Int) (s : Int) : St := sT 143 [(2, dD (.sl Aa) a), (8, .ref 0), (12, dD (.sl .bool) b), (15, .ref 1), (16, dI d), (17, .ptr 2 0 [] 0), (18, dD .str l)] [.row 92 .deep Aa e, .row 2 .deep (.int .i64) g, .box (.pr (dI n) (.pr (dI j) (.pr (dI o) (.pr (dI q) (.pr (dI s) (.pr (.pr (.ref 3) .u) .u)))))), .row 177 .deep Ad k]
def AbG (a : (List Aa.V)) (b : (List Bool)) (d : Int) (e : (List Aa.V)) (g : (List Int)) (j : Int) (k : (List Ad.V)) (l : ByteArray) (n : Int) (o : Int) (q : Int) (s : Int) : Int → Ex × St := fun t => (.normal, sT 143 [(2, dD (.sl Aa) a), (8, .ref 0), (12, dD (.sl .bool) b), (15, .ref 1), (16, dI d), (17, .ptr 2 0 [] 0)] [.row 92 .deep Aa e, .row 2 .deep (.int .i64) g, .box (.pr (dI n) (.pr (dI j) (.pr (dI t) (.pr (dI q) (.pr (dI s) (.pr (.pr (.ref 3) .u) .u)))))), .row 177 .deep Ad k])
def IL (a : (List Aa.V)) (b : (List Bool)) (d : Int) (e : (List Aa.V)) (g : (List Int)) (j : Int) (k : (List Ad.V)) (l : ByteArray) (n : Int) (o : Int) (q : Int) (s : Int) : Option Int :=
 (As l 106).bind fun u =>
 bif u then
 if (0 : Int) ≤ o ∧ o < (g.length : Int) then
 some (g.getD o.toNat (Ty.zero (.int .i64)))
 else none
 else
 some o
theorem ZK (a : (List Aa.V)) (b : (List Bool)) (d : Int) (e : (List Aa.V)) (g : (List Int)) (j : Int) (k : (List Ad.V)) (l : ByteArray) (n : Int) (o : Int) (q : Int) (s : Int) : JnOk E59 0 28 (sub (sub (code Tryz.f9) [1, 1, 1, 1, 1, 1, 1, 1, 0, 1, 0, 0]) [1, 0]) [0, 1, 1, 1, 1, 1, 0] (AcP a b d e g j k l n o q s) (IL a b d e g j k l n o q s) (AbG a b d e g j k l n o q s) := by
  unfold JnOk
  simp only [IL, mC, mI, mN, mB, mE, mM]
  kernel_rfl
def AcE (a : (List Aa.V)) (b : (List Bool)) (d : Int) (e : (List Aa.V)) (g : (List Int)) (k : (List Ad.V)) (v : ByteArray) (w : Int) (x : Int) (y : Int) (a1 : Int) (b1 : Int) : St := sT 143 [(2, dD (.sl Aa) a), (8, .ref 0), (12, dD (.sl .bool) b), (15, .ref 1), (16, dI d), (17, .ptr 2 0 [] 0), (18, dD .str v)] [.row 92 .deep Aa e, .row 2 .deep (.int .i64) g, .box (.pr (dI w) (.pr (dI x) (.pr (dI y) (.pr (dI a1) (.pr (dI b1) (.pr (.pr (.ref 3) .u) .u)))))), .row 177 .deep Ad k]
def Aa5 (a : (List Aa.V)) (b : (List Bool)) (d : Int) (e : (List Aa.V)) (g : (List Int)) (k : (List Ad.V)) (v : ByteArray) (w : Int) (x : Int) (y : Int) (a1 : Int) (b1 : Int) : Int → Ex × St := fun j => (.normal, sT 143 [(2, dD (.sl Aa) a), (8, .ref 0), (12, dD (.sl .bool) b), (15, .ref 1), (16, dI d), (17, .ptr 2 0 [] 0), (18, dD .str v)] [.row 92 .deep Aa e, .row 2 .deep (.int .i64) g, .box (.pr (dI w) (.pr (dI j) (.pr (dI y) (.pr (dI a1) (.pr (dI b1) (.pr (.pr (.ref 3) .u) .u)))))), .row 177 .deep Ad k])
def AaF (a : (List Aa.V)) (b : (List Bool)) (d : Int) (v : ByteArray) (e : (List Aa.V)) (g : (List Int)) (w : Int) (x : Int) (y : Int) (a1 : Int) (b1 : Int) (k : (List Ad.V)) : St := sT 143 [(2, dD (.sl Aa) a), (8, .ref 0), (12, dD (.sl .bool) b), (15, .ref 1), (16, dI d), (17, .ptr 2 0 [] 0), (18, dD .str v)] [.row 92 .deep Aa e, .row 2 .deep (.int .i64) g, .box (.pr (dI w) (.pr (dI x) (.pr (dI y) (.pr (dI a1) (.pr (dI b1) (.pr (.pr (.ref 3) .u) .u)))))), .row 177 .deep Ad k]
def Ab2 (a : (List Aa.V)) (b : (List Bool)) (d : Int) (v : ByteArray) (e : (List Aa.V)) (g : (List Int)) (w : Int) (x : Int) (y : Int) (a1 : Int) (b1 : Int) (k : (List Ad.V)) : Bool → Ex × St := fun c1 => (.normal, sT 143 [(2, dD (.sl Aa) a), (8, .ref 0), (12, dD (.sl .bool) b), (15, .ref 1), (16, dI d), (17, .ptr 2 0 [] 0), (18, dD .str v), (118, dB c1)] [.row 92 .deep Aa e, .row 2 .deep (.int .i64) g, .box (.pr (dI w) (.pr (dI x) (.pr (dI y) (.pr (dI a1) (.pr (dI b1) (.pr (.pr (.ref 3) .u) .u)))))), .row 177 .deep Ad k])
def IJ (a : (List Aa.V)) (b : (List Bool)) (d : Int) (v : ByteArray) (e : (List Aa.V)) (g : (List Int)) (w : Int) (x : Int) (y : Int) (a1 : Int) (b1 : Int) (k : (List Ad.V)) : Option Bool :=
 bif (w != 1) then
 (As v 105).bind fun d1 =>
 some d1
 else
 some false
theorem AaN (a : (List Aa.V)) (b : (List Bool)) (d : Int) (v : ByteArray) (e : (List Aa.V)) (g : (List Int)) (w : Int) (x : Int) (y : Int) (a1 : Int) (b1 : Int) (k : (List Ad.V)) : JnOk E59 0 25 (sub (sub (sub (code Tryz.f9) [1, 1, 1, 1, 1, 1, 1, 1, 0, 1, 0, 0]) [1, 0]) [0, 1, 1, 1, 1, 0]) [0] (AaF a b d v e g w x y a1 b1 k) (IJ a b d v e g w x y a1 b1 k) (Ab2 a b d v e g w x y a1 b1 k) := by
  unfold JnOk
  simp only [IJ, mC, mI, mN, mB, mE, mM]
  kernel_rfl
def IG (a : (List Aa.V)) (b : (List Bool)) (d : Int) (e : (List Aa.V)) (g : (List Int)) (k : (List Ad.V)) (v : ByteArray) (w : Int) (x : Int) (y : Int) (a1 : Int) (b1 : Int) : Option Int :=
 (IJ a b d v e g w x y a1 b1 k).bind fun c1 =>
 bif c1 then
 if (0 : Int) ≤ x ∧ x < (g.length : Int) then
 some (g.getD x.toNat (Ty.zero (.int .i64)))
 else none
 else
 some x
theorem Acl (a : (List Aa.V)) (b : (List Bool)) (d : Int) (e : (List Aa.V)) (g : (List Int)) (k : (List Ad.V)) (v : ByteArray) (w : Int) (x : Int) (y : Int) (a1 : Int) (b1 : Int) : JnOk E59 0 26 (sub (sub (code Tryz.f9) [1, 1, 1, 1, 1, 1, 1, 1, 0, 1, 0, 0]) [1, 0]) [0, 1, 1, 1, 1, 0] (AcE a b d e g k v w x y a1 b1) (IG a b d e g k v w x y a1 b1) (Aa5 a b d e g k v w x y a1 b1) := by
  unfold JnOk
  simp only [IG, mC, mI, mN, mB, mE, mM]
  simp (disch := refine sI ?_ <;> (repeat' refine sA ?_ ?_) <;> intro _ <;> kernel_rfl) only [AX (AaN _ _ _ _ _ _ _ _ _ _ _ _) (K := joinK 0 (E59.jn 26))]
  kernel_rfl
def GS (a : (List Aa.V)) (b : (List Bool)) (d : Int) (e : (List Aa.V)) (g : (List Int)) : Option ((List Aa.V) × (List Int)) :=
 if (0 : Int) ≤ d ∧ d < (b.length : Int) then
 bif (!(b.getD d.toNat (Ty.zero .bool))) then
 some (e, g)
 else
 if (0 : Int) ≤ d ∧ d < (a.length : Int) then
 (CD (a.getD d.toNat (Ty.zero Aa)).2.2.2.2.2.1).bind fun k =>
 (IG a b d e g k (Au (a.getD d.toNat (Ty.zero Aa)).1) (a.getD d.toNat (Ty.zero Aa)).1 (a.getD d.toNat (Ty.zero Aa)).2.1 (a.getD d.toNat (Ty.zero Aa)).2.2.1 (a.getD d.toNat (Ty.zero Aa)).2.2.2.1 (a.getD d.toNat (Ty.zero Aa)).2.2.2.2.1).bind fun j =>
 (IL a b d e g j k (Au (a.getD d.toNat (Ty.zero Aa)).1) (a.getD d.toNat (Ty.zero Aa)).1 (a.getD d.toNat (Ty.zero Aa)).2.2.1 (a.getD d.toNat (Ty.zero Aa)).2.2.2.1 (a.getD d.toNat (Ty.zero Aa)).2.2.2.2.1).bind fun t =>
 if (0 : Int) ≤ d ∧ d < (g.length : Int) then
 if (e.length + ([((a.getD d.toNat (Ty.zero Aa)).1, j, t, (a.getD d.toNat (Ty.zero Aa)).2.2.2.1, (a.getD d.toNat (Ty.zero Aa)).2.2.2.2.1, (k, ()), ())] : List Aa.V).length) * 64 ≤ 140737488355328 then
 some ((e ++ ([((a.getD d.toNat (Ty.zero Aa)).1, j, t, (a.getD d.toNat (Ty.zero Aa)).2.2.2.1, (a.getD d.toNat (Ty.zero Aa)).2.2.2.2.1, (k, ()), ())] : List Aa.V)), (g.set d.toNat (e.length : Int)))
 else none
 else none
 else none
 else none
theorem Acy (a : (List Aa.V)) (b : (List Bool)) (d : Int) (e : (List Aa.V)) (g : (List Int)) : JnOk E59 0 19 (sub (code Tryz.f9) [1, 1, 1, 1, 1, 1, 1, 1, 0, 1, 0, 0]) [1, 0] (Acs a b d e g) (GS a b d e g) (Acu a b d e g) := by
  unfold JnOk
  simp only [GS, mC, mI, mN, mB, mE, mM]
  simp (disch := refine sI ?_ <;> (repeat' refine sA ?_ ?_) <;> intro _ <;> kernel_rfl) only [AX (Acl _ _ _ _ _ _ _ _ _ _ _ _) (K := joinK 0 (E59.jn 19)), AX (ZK _ _ _ _ _ _ _ _ _ _ _ _) (K := joinK 0 (E59.jn 19))]
  kernel_rfl
def G1 (a : (List Aa.V)) (b : (List Bool)) (d : Int) (e : (List Aa.V)) (g : (List Int)) : Option ((Int × (List Aa.V) × (List Int)) ⊕ (List Aa.V)) :=
 bif (decide (d < (a.length : Int))) then
 (GS a b d e g).bind fun i =>
 some (.inl ((IntKind.i64.wrap (d + 1)), i.1, i.2))
 else
 some (.inr e)
def EV (a : (List Aa.V)) (b : (List Bool)) (z_ : (Int × (List Aa.V) × (List Int))) := G1 a b z_.1 z_.2.1 z_.2.2
def IK (a : (List Aa.V)) (b : (List Bool)) (d : Int) (e : (List Aa.V)) (g : (List Int)) := fix (EV a b) (d, e, g)
theorem Aa1 (a : (List Aa.V)) (b : (List Bool)) : LpOk E59 0 18 (code Tryz.f9) [1, 1, 1, 1, 1, 1, 1, 1, 0, 1, 0] (ZX a b) (EV a b) (AcA a b) := by
  intro _
  simp only [EV, G1, mC, mI, mN, mB, mE, mM]
  simp (disch := refine sI ?_ <;> (repeat' refine sA ?_ ?_) <;> intro _ <;> kernel_rfl) only [AX (Acy _ _ _ _ _) (K := stepK 0 (E59.hd 18) (E59.ot 18))]
  kernel_rfl
def AdR (a : (List Aa.V)) (z_ : (Int × (List Bool))) : St := sT 143 [(2, dD (.sl Aa) a), (8, .zs), (12, .ref 0), (13, dI z_.1)] [.row 4 .deep .bool z_.2]
def AgR (a : (List Aa.V)) : (List Bool) → Ex × St := fun b => ((.exit 0), sT 143 [(2, dD (.sl Aa) a), (8, .zs), (12, dD (.sl .bool) b)] [])
def AeW (a : (List Aa.V)) (e1 : Int) (g1 : (List Bool)) : St := sT 143 [(2, dD (.sl Aa) a), (8, .zs), (12, .ref 0), (13, dI e1)] [.row 4 .deep .bool g1]
def Adv (a : (List Aa.V)) (e1 : Int) (g1 : (List Bool)) : (List Bool) → Ex × St := fun i1 => (.normal, sT 143 [(2, dD (.sl Aa) a), (8, .zs), (12, .ref 0), (13, dI e1)] [.row 4 .deep .bool i1])
def Aeb (a : (List Aa.V)) (e1 : Int) (g1 : (List Bool)) (j1 : ByteArray) : St := sT 143 [(2, dD (.sl Aa) a), (8, .zs), (12, .ref 0), (13, dI e1), (14, dD .str j1)] [.row 4 .deep .bool g1]
def Aem (a : (List Aa.V)) (e1 : Int) (g1 : (List Bool)) (j1 : ByteArray) : (List Bool) → Ex × St := fun k1 => (.normal, sT 143 [(2, dD (.sl Aa) a), (8, .zs), (12, .ref 0), (13, dI e1), (14, dD .str j1)] [.row 4 .deep .bool k1])
def Jy (a : (List Aa.V)) (e1 : Int) (g1 : (List Bool)) (j1 : ByteArray) : Option (List Bool) :=
 (As j1 105).bind fun l1 =>
 bif l1 then
 if (0 : Int) ≤ e1 ∧ e1 < (a.length : Int) then
 if (0 : Int) ≤ (a.getD e1.toNat (Ty.zero Aa)).2.1 ∧ (a.getD e1.toNat (Ty.zero Aa)).2.1 < (g1.length : Int) then
 some (g1.set (a.getD e1.toNat (Ty.zero Aa)).2.1.toNat true)
 else none
 else none
 else
 some g1
theorem Aes (a : (List Aa.V)) (e1 : Int) (g1 : (List Bool)) (j1 : ByteArray) : JnOk E59 0 14 (sub (sub (code Tryz.f9) [1, 1, 1, 1, 1, 1, 0, 1, 0, 0]) [1, 0]) [0, 1, 1, 0, 0] (Aeb a e1 g1 j1) (Jy a e1 g1 j1) (Aem a e1 g1 j1) := by
  unfold JnOk
  simp only [Jy, mC, mI, mN, mB, mE, mM]
  kernel_rfl
def AeQ (a : (List Aa.V)) (e1 : Int) (g1 : (List Bool)) (n1 : ByteArray) : St := sT 143 [(2, dD (.sl Aa) a), (8, .zs), (12, .ref 0), (13, dI e1), (14, dD .str n1)] [.row 4 .deep .bool g1]
def Aeg (a : (List Aa.V)) (e1 : Int) (g1 : (List Bool)) (n1 : ByteArray) : Bool → Ex × St := fun o1 => (.normal, sT 143 [(2, dD (.sl Aa) a), (8, .zs), (12, .ref 0), (13, dI e1), (14, dD .str n1), (68, dB o1)] [.row 4 .deep .bool g1])
def Jm (a : (List Aa.V)) (e1 : Int) (g1 : (List Bool)) (n1 : ByteArray) : Option Bool :=
 if (0 : Int) ≤ e1 ∧ e1 < (g1.length : Int) then
 bif (g1.getD e1.toNat (Ty.zero .bool)) then
 if (0 : Int) ≤ e1 ∧ e1 < (a.length : Int) then
 some ((a.getD e1.toNat (Ty.zero Aa)).1 != 1)
 else none
 else
 some false
 else none
theorem Agd (a : (List Aa.V)) (e1 : Int) (g1 : (List Bool)) (n1 : ByteArray) : JnOk E59 0 12 (sub (sub (code Tryz.f9) [1, 1, 1, 1, 1, 1, 0, 1, 0, 0]) [1, 0]) [0, 1, 0] (AeQ a e1 g1 n1) (Jm a e1 g1 n1) (Aeg a e1 g1 n1) := by
  unfold JnOk
  simp only [Jm, mC, mI, mN, mB, mE, mM]
  kernel_rfl
def Ij (a : (List Aa.V)) (e1 : Int) (g1 : (List Bool)) : Option (List Bool) :=
 if (0 : Int) ≤ e1 ∧ e1 < (a.length : Int) then
 (Jm a e1 g1 (Au (a.getD e1.toNat (Ty.zero Aa)).1)).bind fun o1 =>
 bif o1 then
 (Jy a e1 g1 (Au (a.getD e1.toNat (Ty.zero Aa)).1)).bind fun k1 =>
 (As (Au (a.getD e1.toNat (Ty.zero Aa)).1) 106).bind fun q1 =>
 bif q1 then
 if (0 : Int) ≤ e1 ∧ e1 < (a.length : Int) then
 if (0 : Int) ≤ (a.getD e1.toNat (Ty.zero Aa)).2.2.1 ∧ (a.getD e1.toNat (Ty.zero Aa)).2.2.1 < (k1.length : Int) then
 some (k1.set (a.getD e1.toNat (Ty.zero Aa)).2.2.1.toNat true)
 else none
 else none
 else
 some k1
 else
 some g1
 else none
theorem AeG (a : (List Aa.V)) (e1 : Int) (g1 : (List Bool)) : JnOk E59 0 9 (sub (code Tryz.f9) [1, 1, 1, 1, 1, 1, 0, 1, 0, 0]) [1, 0] (AeW a e1 g1) (Ij a e1 g1) (Adv a e1 g1) := by
  unfold JnOk
  simp only [Ij, mC, mI, mN, mB, mE, mM]
  simp (disch := refine sI ?_ <;> (repeat' refine sA ?_ ?_) <;> intro _ <;> kernel_rfl) only [AX (Agd _ _ _ _) (K := joinK 0 (E59.jn 9)), AX (Aes _ _ _ _) (K := joinK 0 (E59.jn 9))]
  kernel_rfl
def JH (a : (List Aa.V)) (e1 : Int) (g1 : (List Bool)) : Option ((Int × (List Bool)) ⊕ (List Bool)) :=
 bif (decide (e1 ≥ 0)) then
 (Ij a e1 g1).bind fun i1 =>
 some (.inl ((IntKind.i64.wrap (e1 - 1)), i1))
 else
 some (.inr g1)
def Ib (a : (List Aa.V)) (z_ : (Int × (List Bool))) := JH a z_.1 z_.2
def Jt (a : (List Aa.V)) (e1 : Int) (g1 : (List Bool)) := fix (Ib a) (e1, g1)
theorem AfJ (a : (List Aa.V)) : LpOk E59 0 8 (code Tryz.f9) [1, 1, 1, 1, 1, 1, 0, 1, 0] (AdR a) (Ib a) (AgR a) := by
  intro _
  simp only [Ib, JH, mC, mI, mN, mB, mE, mM]
  simp (disch := refine sI ?_ <;> (repeat' refine sA ?_ ?_) <;> intro _ <;> kernel_rfl) only [AX (AeG _ _ _) (K := stepK 0 (E59.hd 8) (E59.ot 8))]
  kernel_rfl
def Zb (a : (List Aa.V)) (s1 : (Int × Int × (List Ah.V))) : St := sT 143 [(2, dD (.sl Aa) a), (8, .zs), (10, dI s1.1)] []
def YS (a : (List Aa.V)) (m0 : Bool) : Ex × St := (.normal, sT 143 [(2, dD (.sl Aa) a), (8, .zs), (34, dB m0)] [])
theorem Af8 (a : (List Aa.V)) (s1 : (Int × Int × (List Ah.V))) : jnS E59 0 4 (code Tryz.f9) [1, 1, 1, 0, 0] (Zb a s1) = some (YS a ((s1.1 != 0) || ((a.length : Int) == 0))) := by
  have h0 : jnS E59 0 4 (code Tryz.f9) [1, 1, 1, 0, 0] (Zb a s1) =
 bif (s1.1 != 0) then
 some (YS a true)
 else
 some (YS a ((a.length : Int) == 0)) := by kernel_rfl
  rw [h0]
  cases h1 : (s1.1 != 0)
  · first | rfl | kernel_rfl
  · first | rfl | kernel_rfl
def JU (t1 : (List Ae.V)) (u1 : (List Af.V)) (a : (List Aa.V)) : Option (Bool × (List Aa.V)) :=
 (Ff t1 u1 a).bind fun s1 =>
 mkr (Zb a s1) (
 bif ((s1.1 != 0) || ((a.length : Int) == 0)) then
 some (false, ([] : List Aa.V))
 else
 if Ty.row .bool = true ∧ (0 : Int) ≤ (a.length : Int) ∧ (a.length : Int) ≤ (a.length : Int) ∧ ((1 : Nat) : Int) * (a.length : Int) ≤ (281474976710656 : Int) ∧ (a.length : Int) ≤ (9223372036854775807 : Int) then
 if (0 : Int) ≤ (IntKind.i64.wrap ((a.length : Int) - 1)) ∧ (IntKind.i64.wrap ((a.length : Int) - 1)) < ((List.replicate (a.length : Int).toNat false).length : Int) then
 (Jt a (IntKind.i64.wrap ((a.length : Int) - 1)) ((List.replicate (a.length : Int).toNat false).set (IntKind.i64.wrap ((a.length : Int) - 1)).toNat true)).bind fun b =>
 if Ty.row (.int .i64) = true ∧ (0 : Int) ≤ (a.length : Int) ∧ (a.length : Int) ≤ (a.length : Int) ∧ ((8 : Nat) : Int) * (a.length : Int) ≤ (281474976710656 : Int) ∧ (a.length : Int) ≤ (9223372036854775807 : Int) then
 (IK a b 0 ([] : List Aa.V) (List.replicate (a.length : Int).toNat 0)).bind fun c =>
 some (true, c)
 else none
 else none
 else none)
theorem U59 (R : Type) (t1 : (List Ae.V)) (u1 : (List Af.V)) (a : (List Aa.V)) (K : AV → List Blk → Option R) : runF E59 Tryz.f9 R [dD (.sl Ae) t1, dD (.sl Af) u1, dD (.sl Aa) a] [] K = (JU t1 u1 a).bind fun r => K (.cons (.ref 0) (.cons (dB r.1) .nil)) [.row 92 .deep Aa r.2] := by
  simp only [JU, bC, bI, bN, bE, bA, bS, bO, bM]
  simp (disch := refine sI ?_ <;> (repeat' refine sA ?_ ?_) <;> intro _ <;> kernel_rfl) only [DB (Af8 _ _) (K := finK E59 Tryz.f9 0 R K), Jt, AC (AfJ _) (K := finK E59 Tryz.f9 0 R K), IK, AC (Aa1 _ _) (K := finK E59 Tryz.f9 0 R K)]
  kernel_rfl
def c9 : Va.Callee := brC [.d (.sl Ae), .d (.sl Af), .d (.sl Aa)] [⟨[.dat [] (.sl Ae), .dat [] (.sl Af), .dat [] (.sl Aa)], [], (Bool × (List Aa.V)), fun p => JU p.1.1 p.1.2.1 p.1.2.2.1, fun r => (.cons (.ref 0) (.cons (dB r.1) .nil), [.row 92 .deep Aa r.2])⟩]
theorem Ab1 : SoundC Tryz.prog 9 c9 := Ao (fn := Tryz.f9) (by kernel_rfl) (by kernel_rfl) (by kernel_rfl) ⟨⟨E59, ⟨⟨tabok, Am ⟨YF, P8, PO, Yv, trivial⟩⟩, mixed⟩, fun p R K => U59 R p.1.1 p.1.2.1 p.1.2.2.1 K⟩, trivial⟩
abbrev E60 : Env := ⟨tab, lookH [], { deep := true, heads := [(4, { live := [0, 3] })], outs := [(4, { live := [2] })], joins := [(2, { live := [0, 21] }), (7, { live := [0, 3, 49] })], ents := [(2, [0]), (7, [0, 3])] }⟩
def Aet (a : ByteArray) (z_ : Int) : St := sT 50 [(0, dD .str a), (3, dI z_)] []
def AfH (a : ByteArray) : (Unit ⊕ Unit) → Ex × St := Sum.elim (fun b => (.ret, sT 50 [(2, dB false)] [])) (fun c => ((.exit 0), sT 50 [] []))
def AgP (a : ByteArray) (d : Int) : St := sT 50 [(0, dD .str a), (3, dI d)] []
def AhZ (a : ByteArray) (d : Int) : Bool → Ex × St := fun e => (.normal, sT 50 [(0, dD .str a), (3, dI d), (49, dB e)] [])
def F1 (a : ByteArray) (d : Int) : Option Bool :=
 if (0 : Int) ≤ d ∧ d < (a.size : Int) then
 bif (decide ((bgetI a d) < 97)) then
 if (0 : Int) ≤ d ∧ d < (a.size : Int) then
 bif (decide ((bgetI a d) < 48)) then
 some true
 else
 if (0 : Int) ≤ d ∧ d < (a.size : Int) then
 some (decide ((bgetI a d) > 57))
 else none
 else none
 else
 if (0 : Int) ≤ d ∧ d < (a.size : Int) then
 bif (decide ((bgetI a d) > 122)) then
 if (0 : Int) ≤ d ∧ d < (a.size : Int) then
 bif (decide ((bgetI a d) < 48)) then
 some true
 else
 if (0 : Int) ≤ d ∧ d < (a.size : Int) then
 some (decide ((bgetI a d) > 57))
 else none
 else none
 else
 some false
 else none
 else none
theorem AdV (a : ByteArray) (d : Int) : JnOk E60 0 7 (sub (code Tryz.f202) [1, 1, 0, 1, 0, 0]) [1, 0, 0, 0] (AgP a d) (F1 a d) (AhZ a d) := by
  unfold JnOk
  simp only [F1, mC, mI, mN, mB, mE, mM]
  kernel_rfl
def Gb (a : ByteArray) (d : Int) : Option (Int ⊕ (Unit ⊕ Unit)) :=
 bif (decide (d < (a.size : Int))) then
 (F1 a d).bind fun e =>
 bif e then
 some (.inr (.inl ()))
 else
 some (.inl (IntKind.i64.wrap (d + 1)))
 else
 some (.inr (.inr ()))
def D8 (a : ByteArray) (z_ : Int) := Gb a z_
def JJ (a : ByteArray) (d : Int) := fix (D8 a) d
theorem Aeu (a : ByteArray) : LpOk E60 0 4 (code Tryz.f202) [1, 1, 0, 1, 0] (Aet a) (D8 a) (AfH a) := by
  intro _
  simp only [D8, Gb, mC, mI, mN, mB, mE, mM]
  simp (disch := refine sI ?_ <;> (repeat' refine sA ?_ ?_) <;> intro _ <;> kernel_rfl) only [AX (AdV _ _) (K := stepK 0 (E60.hd 4) (E60.ot 4))]
  kernel_rfl
def AfC (a : ByteArray) : St := sT 50 [(0, dD .str a)] []
def Ae3 (a : ByteArray) : Bool → Ex × St := fun g => (.normal, sT 50 [(0, dD .str a), (21, dB g)] [])
def H6 (a : ByteArray) : Option Bool :=
 bif (decide ((a.size : Int) < 1)) then
 some true
 else
 bif (decide ((a.size : Int) > 12)) then
 some true
 else
 if (0 : Int) ≤ (0 : Int) ∧ (0 : Int) < (a.size : Int) then
 bif (decide ((bgetI a 0) < 97)) then
 some true
 else
 if (0 : Int) ≤ (0 : Int) ∧ (0 : Int) < (a.size : Int) then
 some (decide ((bgetI a 0) > 122))
 else none
 else none
theorem AfL (a : ByteArray) : JnOk E60 0 2 (code Tryz.f202) [1, 0, 0] (AfC a) (H6 a) (Ae3 a) := by
  unfold JnOk
  simp only [H6, mC, mI, mN, mB, mE, mM]
  kernel_rfl
def GE (a : ByteArray) : Option Bool :=
 (H6 a).bind fun g =>
 bif g then
 some false
 else
 (JJ a 0).bind (Sum.elim (fun b =>
 some false) (fun c =>
 some true))
theorem U60 (R : Type) (a : ByteArray) (K : AV → List Blk → Option R) : runF E60 Tryz.f202 R [dD .str a] [] K = (GE a).bind fun r => K (dB r) [] := by
  simp only [GE, bC, bI, bN, bE, bA, bS, bO, bM]
  simp (disch := refine sI ?_ <;> (repeat' refine sA ?_ ?_) <;> intro _ <;> kernel_rfl) only [AX (AfL _) (K := finK E60 Tryz.f202 0 R K), JJ, AC (Aeu _) (K := finK E60 Tryz.f202 0 R K)]
  kernel_rfl
def c202 : Va.Callee := brC [.d .str] [⟨[.dat [] .str], [], Bool, fun p => GE p.1.1, fun r => (dB r, [])⟩]
theorem WJ : SoundC Tryz.prog 202 c202 := Ao (fn := Tryz.f202) (by kernel_rfl) (by kernel_rfl) (by kernel_rfl) ⟨⟨E60, ⟨⟨tabok, Am trivial⟩, mixed⟩, fun p R K => U60 R p.1.1 K⟩, trivial⟩
abbrev E61 : Env := ⟨tab, lookH [], { deep := true }⟩
def Ap (a : Int) (b : Int) (c : Int) : Bool := ((decide (a ≥ b)) && (decide (a ≤ c)))
theorem U61 (R : Type) (a : Int) (b : Int) (c : Int) (K : AV → List Blk → Option R) : runF E61 Tryz.f170 R [dI a, dI b, dI c] [] K = K (dB (Ap a b c)) [] := by
  have h : runF E61 Tryz.f170 R [dI a, dI b, dI c] [] K =
 bif (decide (a ≥ b)) then
 K (dB (decide (a ≤ c))) []
 else
 K (dB false) [] := by kernel_rfl
  rw [h]
  unfold Ap
  cases h1 : (decide (a ≥ b))
  · first | rfl | kernel_rfl
  · first | rfl | kernel_rfl
def c170 : Va.Callee := brC [.d (.int .i64), .d (.int .i64), .d (.int .i64)] [⟨[.dat [] (.int .i64), .dat [] (.int .i64), .dat [] (.int .i64)], [], Bool, fun p => some (Ap p.1.1 p.1.2.1 p.1.2.2.1), fun r => (dB r, [])⟩]
theorem Jw : SoundC Tryz.prog 170 c170 := Ao (fn := Tryz.f170) (by kernel_rfl) (by kernel_rfl) (by kernel_rfl) ⟨⟨E61, ⟨⟨tabok, Am trivial⟩, mixed⟩, fun p R K => U61 R p.1.1 p.1.2.1 p.1.2.2.1 K⟩, trivial⟩
abbrev E62 : Env := ⟨tab, lookH [], { deep := true }⟩
def Ha (a : Ae.V) (b : ByteArray) : Bool := (strEq a.1 b)
theorem U62 (R : Type) (a : Ae.V) (b : ByteArray) (K : AV → List Blk → Option R) : runF E62 Tryz.f233 R [dD Ae a, .rop [] .str b] [] K = K (dB (Ha a b)) [] := by
  kernel_rfl
def c233 : Va.Callee := brC [.d Ae, .p .str] [⟨[.dat [] Ae, .rop [] .str], [], Bool, fun p => some (Ha p.1.1 p.1.2.1), fun r => (dB r, [])⟩]
theorem Vc : SoundC Tryz.prog 233 c233 := Ao (fn := Tryz.f233) (by kernel_rfl) (by kernel_rfl) (by kernel_rfl) ⟨⟨E62, ⟨⟨tabok, Am trivial⟩, mixed⟩, fun p R K => U62 R p.1.1 p.1.2.1 K⟩, trivial⟩
abbrev E63 : Env := ⟨tab, lookH [(233, c233)], { deep := true, heads := [(2, { live := [0, 1, 7, 8] })], outs := [(2, { live := [4] })] }⟩
def AdS (a : (List Ae.V)) (b : Int) (c : ByteArray) (d : Int) (z_ : Int) : St := sT 19 [(0, dD (.sl Ae) a), (1, .fn 233 (.cons (.ptr 0 b [] 0) .nil)), (7, dI d), (8, dI z_)] [.box (dD .str c)]
def Af3 (a : (List Ae.V)) (b : Int) (c : ByteArray) (d : Int) : (Int ⊕ Unit) → Ex × St := Sum.elim (fun e => (.ret, sT 19 [(4, dI e)] [.box (dD .str c)])) (fun g => ((.exit 0), sT 19 [] [.box (dD .str c)]))
def By (a : (List Ae.V)) (b : Int) (c : ByteArray) (d : Int) (i : Int) : Option (Int ⊕ (Int ⊕ Unit)) :=
 bif (decide (i < d)) then
 if (0 : Int) ≤ i ∧ i < (a.length : Int) then
 bif (Ha (a.getD i.toNat (Ty.zero Ae)) c) then
 some (.inr (.inl i))
 else
 some (.inl (IntKind.i64.wrap (i + 1)))
 else none
 else
 some (.inr (.inr ()))
def AY (a : (List Ae.V)) (b : Int) (c : ByteArray) (d : Int) (z_ : Int) := By a b c d z_
def DA (a : (List Ae.V)) (b : Int) (c : ByteArray) (d : Int) (i : Int) := fix (AY a b c d) i
theorem AgW (a : (List Ae.V)) (b : Int) (c : ByteArray) (d : Int) : LpOk E63 1 2 (code Tryz.f232) [1, 0, 1, 0] (AdS a b c d) (AY a b c d) (Af3 a b c d) := by
  intro _
  simp only [AY, By, mC, mI, mN, mB, mE, mM]
  kernel_rfl
def BM (a : (List Ae.V)) (b : Int) (c : ByteArray) : Option (Int × ByteArray) :=
 (DA a b c (a.length : Int) 0).bind (Sum.elim (fun e =>
 some (e, c)) (fun g =>
 some ((-1), c)))
theorem U63 (R : Type) (a : (List Ae.V)) (b : Int) (c : ByteArray) (K : AV → List Blk → Option R) : runF E63 Tryz.f232 R [dD (.sl Ae) a, .fn 233 (.cons (.ptr 0 b [] 0) .nil)] [.box (dD .str c)] K = (BM a b c).bind fun r => K (dI r.1) [.box (dD .str r.2)] := by
  simp only [BM, bC, bI, bN, bE, bA, bS, bO, bM]
  simp (disch := refine sI ?_ <;> (repeat' refine sA ?_ ?_) <;> intro _ <;> kernel_rfl) only [DA, AC (AgW _ _ _ _) (K := finK E63 Tryz.f232 1 R K)]
  kernel_rfl
def c232 : Va.Callee := brC [.d (.sl Ae), .raw] [⟨[.dat [] (.sl Ae), .fn 233 (.cons (.ptr 0 [] 0) (.k .nil))], [.box (.dat [] .str)], (Int × ByteArray), fun p => BM p.1.1 p.1.2.1.1 p.2.1, fun r => (dI r.1, [.box (dD .str r.2)])⟩]
theorem Vs : SoundC Tryz.prog 232 c232 := Ao (fn := Tryz.f232) (by kernel_rfl) (by kernel_rfl) (by kernel_rfl) ⟨⟨E63, ⟨⟨tabok, Am ⟨Vc, trivial⟩⟩, mixed⟩, fun p R K => U63 R p.1.1 p.1.2.1.1 p.2.1 K⟩, trivial⟩
end
end Go.Proofs.X
