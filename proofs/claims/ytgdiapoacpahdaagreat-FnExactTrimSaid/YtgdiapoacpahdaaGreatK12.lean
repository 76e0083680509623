import Derived.KernelRfl
import Derived.Test.YtgdiapoacpahdaaGreatK11
set_option linter.unusedVariables false
set_option linter.unusedSimpArgs false
namespace Go.Proofs.X
open Go Go.Va
set_option maxRecDepth 100000
noncomputable section
abbrev E104 : Env := ⟨tab, lookH [(190, c190)], { deep := true }⟩
def FC (a : (List Ab.V)) (b : (List Ab.V)) : Option Bool :=
 (B6 a b).bind fun c =>
 some c
theorem U104 (R : Type) (a : (List Ab.V)) (b : (List Ab.V)) (K : AV → List Blk → Option R) : runF E104 Tryz.f157 R [dD (.sl Ab) a, dD (.sl Ab) b] [] K = (FC a b).bind fun r => K (dB r) [] := by
  simp only [FC, bC, bI, bN, bE, bA, bS, bO, bM]
  kernel_rfl
def c157 : Va.Callee := brC [.d (.sl Ab), .d (.sl Ab)] [⟨[.dat [] (.sl Ab), .dat [] (.sl Ab)], [], Bool, fun p => FC p.1.1 p.1.2.1, fun r => (dB r, [])⟩]
theorem V2 : SoundC Tryz.prog 157 c157 := Ao (fn := Tryz.f157) (by kernel_rfl) (by kernel_rfl) (by kernel_rfl) ⟨⟨E104, ⟨⟨tabok, Am ⟨UN, trivial⟩⟩, mixed⟩, fun p R K => U104 R p.1.1 p.1.2.1 K⟩, trivial⟩
abbrev E105 : Env := ⟨tab, lookH [(170, c170), (244, c244)], { deep := true, joins := [(2, { live := [0, 3, 12] }), (6, { live := [0, 3, 51] })], ents := [(2, [0, 3]), (6, [0, 3])] }⟩
def SK (a : (List Ae.V)) (b : Ab.V) : St := sT 69 [(0, dD (.sl Ae) a), (3, .ptr 0 0 [] 0)] [.box (dD Ab b)]
def Rv (a : (List Ae.V)) (b : Ab.V) (m0 : Bool) : Ex × St := (.normal, sT 69 [(0, dD (.sl Ae) a), (3, .ptr 0 0 [] 0), (51, dB m0)] [.box (dD Ab b)])
theorem Aaz (a : (List Ae.V)) (b : Ab.V) : jnS E105 0 6 (code Tryz.f224) [1, 1, 1, 0, 0] (SK a b) = some (Rv a b ((!(Ap b.1 0 (IntKind.i64.wrap ((a.length : Int) - 1)))) || ((b.2.2.2.1.1 != 0) || ((b.2.2.2.1.2.1.length : Int) != 0)))) := by
  have h0 : jnS E105 0 6 (code Tryz.f224) [1, 1, 1, 0, 0] (SK a b) =
 bif (!(Ap b.1 0 (IntKind.i64.wrap ((a.length : Int) - 1)))) then
 some (Rv a b true)
 else
 bif (b.2.2.2.1.1 != 0) then
 some (Rv a b true)
 else
 some (Rv a b ((b.2.2.2.1.2.1.length : Int) != 0)) := by kernel_rfl
  rw [h0]
  cases h1 : (!(Ap b.1 0 (IntKind.i64.wrap ((a.length : Int) - 1))))
  · cases h2 : (b.2.2.2.1.1 != 0)
    · first | rfl | kernel_rfl
    · first | rfl | kernel_rfl
  · first | rfl | kernel_rfl
def Tk (a : (List Ae.V)) (b : Ab.V) : St := sT 69 [(0, dD (.sl Ae) a), (3, .ptr 0 0 [] 0)] [.box (dD Ab b)]
def SE (a : (List Ae.V)) (b : Ab.V) (m0 : Bool) : Ex × St := (.normal, sT 69 [(0, dD (.sl Ae) a), (3, .ptr 0 0 [] 0), (12, dB m0)] [.box (dD Ab b)])
theorem ZN (a : (List Ae.V)) (b : Ab.V) : jnS E105 0 2 (code Tryz.f224) [1, 0, 0] (Tk a b) = some (SE a b ((decide (b.2.2.1 < 1)) || (decide (b.2.2.1 > 4096)))) := by
  have h0 : jnS E105 0 2 (code Tryz.f224) [1, 0, 0] (Tk a b) =
 bif (decide (b.2.2.1 < 1)) then
 some (SE a b true)
 else
 some (SE a b (decide (b.2.2.1 > 4096))) := by kernel_rfl
  rw [h0]
  cases h1 : (decide (b.2.2.1 < 1))
  · first | rfl | kernel_rfl
  · first | rfl | kernel_rfl
def IN (a : (List Ae.V)) (b : Ab.V) : Option Bool :=
 mkr (Tk a b) (
 bif ((decide (b.2.2.1 < 1)) || (decide (b.2.2.1 > 4096))) then
 some false
 else
 bif (b.1 == (-1)) then
 bif (b.2.1 == 0) then
 (DG b.2.2.2.1).bind fun c =>
 bif c then
 some (b.2.2.2.1.1 == b.2.2.1)
 else
 some false
 else
 some false
 else
 mkr (SK a b) (
 bif ((!(Ap b.1 0 (IntKind.i64.wrap ((a.length : Int) - 1)))) || ((b.2.2.2.1.1 != 0) || ((b.2.2.2.1.2.1.length : Int) != 0))) then
 some false
 else
 bif (decide (b.2.1 ≥ 0)) then
 if (0 : Int) ≤ b.1 ∧ b.1 < (a.length : Int) then
 some (decide (b.2.1 ≤ (IntKind.i64.wrap ((a.getD b.1.toNat (Ty.zero Ae)).2.1 - b.2.2.1))))
 else none
 else
 some false))
theorem U105 (R : Type) (a : (List Ae.V)) (b : Ab.V) (K : AV → List Blk → Option R) : runF E105 Tryz.f224 R [dD (.sl Ae) a, dD Ab b] [] K = (IN a b).bind fun r => K (dB r) [] := by
  simp only [IN, bC, bI, bN, bE, bA, bS, bO, bM]
  simp (disch := refine sI ?_ <;> (repeat' refine sA ?_ ?_) <;> intro _ <;> kernel_rfl) only [DB (ZN _ _) (K := finK E105 Tryz.f224 0 R K), DB (Aaz _ _) (K := finK E105 Tryz.f224 0 R K)]
  kernel_rfl
def c224 : Va.Callee := brC [.d (.sl Ae), .d Ab] [⟨[.dat [] (.sl Ae), .dat [] Ab], [], Bool, fun p => IN p.1.1 p.1.2.1, fun r => (dB r, [])⟩]
theorem Vx : SoundC Tryz.prog 224 c224 := Ao (fn := Tryz.f224) (by kernel_rfl) (by kernel_rfl) (by kernel_rfl) ⟨⟨E105, ⟨⟨tabok, Am ⟨Jw, Q5, trivial⟩⟩, mixed⟩, fun p R K => U105 R p.1.1 p.1.2.1 K⟩, trivial⟩
abbrev E106 : Env := ⟨tab, lookH [(224, c224), (225, c225)], { deep := true, heads := [(5, { live := [0, 1, 5, 16, 17, 18] })], outs := [(5, { live := [4, 5] })], joins := [(2, { live := [0, 1, 15] }), (8, { live := [0, 1, 5, 7, 16, 17, 18, 39] })], ents := [(2, [0, 1]), (8, [0, 1, 5, 6, 7, 16, 17, 18])] }⟩
def Aai (a : (List Ae.V)) (b : (List Ab.V)) (c : Int) (z_ : (Int × Int)) : St := sT 47 [(0, dD (.sl Ae) a), (1, dD (.sl Ab) b), (5, dI z_.1), (16, dD (.sl Ab) b), (17, dI c), (18, dI z_.2)] []
def AbB (a : (List Ae.V)) (b : (List Ab.V)) (c : Int) : (Int ⊕ Int) → Ex × St := Sum.elim (fun d => (.ret, sT 47 [(4, dB false), (5, dI d)] [])) (fun e => ((.exit 0), sT 47 [(5, dI e)] []))
def Ach (a : (List Ae.V)) (b : (List Ab.V)) (g : Int) (i : Int) (c : Int) (j : Ab.V) : St := sT 47 [(0, dD (.sl Ae) a), (1, dD (.sl Ab) b), (5, dI g), (6, dI i), (7, .ptr 0 0 [] 0), (16, dD (.sl Ab) b), (17, dI c), (18, dI i)] [.box (dD Ab j)]
def AbJ (a : (List Ae.V)) (b : (List Ab.V)) (g : Int) (i : Int) (c : Int) (j : Ab.V) : Bool → Ex × St := fun k => (.normal, sT 47 [(0, dD (.sl Ae) a), (1, dD (.sl Ab) b), (5, dI g), (7, .ptr 0 0 [] 0), (16, dD (.sl Ab) b), (17, dI c), (18, dI i), (39, dB k)] [.box (dD Ab j)])
def FZ (a : (List Ae.V)) (b : (List Ab.V)) (g : Int) (i : Int) (c : Int) (j : Ab.V) : Option Bool :=
 (IN a j).bind fun l =>
 bif (!l) then
 some true
 else
 bif (decide (i > 0)) then
 if (0 : Int) ≤ (IntKind.i64.wrap (i - 1)) ∧ (IntKind.i64.wrap (i - 1)) < (b.length : Int) then
 some (A3 (b.getD (IntKind.i64.wrap (i - 1)).toNat (Ty.zero Ab)) j)
 else none
 else
 some false
theorem AcH (a : (List Ae.V)) (b : (List Ab.V)) (g : Int) (i : Int) (c : Int) (j : Ab.V) : JnOk E106 0 8 (sub (code Tryz.f194) [1, 1, 1, 0, 1, 0, 0]) [1, 1, 0, 0, 1, 0, 0] (Ach a b g i c j) (FZ a b g i c j) (AbJ a b g i c j) := by
  unfold JnOk
  simp only [FZ, mC, mI, mN, mB, mE, mM]
  kernel_rfl
def F9 (a : (List Ae.V)) (b : (List Ab.V)) (c : Int) (g : Int) (i : Int) : Option ((Int × Int) ⊕ (Int ⊕ Int)) :=
 bif (decide (i < c)) then
 if (0 : Int) ≤ i ∧ i < (b.length : Int) then
 (FZ a b g i c (b.getD i.toNat (Ty.zero Ab))).bind fun k =>
 bif k then
 some (.inr (.inl g))
 else
 some (.inl ((IntKind.i64.wrap (g + (b.getD i.toNat (Ty.zero Ab)).2.2.1)), (IntKind.i64.wrap (i + 1))))
 else none
 else
 some (.inr (.inr g))
def B1 (a : (List Ae.V)) (b : (List Ab.V)) (c : Int) (z_ : (Int × Int)) := F9 a b c z_.1 z_.2
def JF (a : (List Ae.V)) (b : (List Ab.V)) (c : Int) (g : Int) (i : Int) := fix (B1 a b c) (g, i)
theorem ZL (a : (List Ae.V)) (b : (List Ab.V)) (c : Int) : LpOk E106 0 5 (code Tryz.f194) [1, 1, 1, 0, 1, 0] (Aai a b c) (B1 a b c) (AbB a b c) := by
  intro _
  simp only [B1, F9, mC, mI, mN, mB, mE, mM]
  simp (disch := refine sI ?_ <;> (repeat' refine sA ?_ ?_) <;> intro _ <;> kernel_rfl) only [AX (AcH _ _ _ _ _ _) (K := stepK 0 (E106.hd 5) (E106.ot 5))]
  kernel_rfl
def TT (a : (List Ae.V)) (b : (List Ab.V)) : St := sT 47 [(0, dD (.sl Ae) a), (1, dD (.sl Ab) b)] []
def UE (a : (List Ae.V)) (b : (List Ab.V)) (m0 : Bool) : Ex × St := (.normal, sT 47 [(0, dD (.sl Ae) a), (1, dD (.sl Ab) b), (15, dB m0)] [])
theorem Abx (a : (List Ae.V)) (b : (List Ab.V)) : jnS E106 0 2 (code Tryz.f194) [1, 0, 0] (TT a b) = some (UE a b ((decide ((b.length : Int) < 1)) || (decide ((b.length : Int) > 2000)))) := by
  have h0 : jnS E106 0 2 (code Tryz.f194) [1, 0, 0] (TT a b) =
 bif (decide ((b.length : Int) < 1)) then
 some (UE a b true)
 else
 some (UE a b (decide ((b.length : Int) > 2000))) := by kernel_rfl
  rw [h0]
  cases h1 : (decide ((b.length : Int) < 1))
  · first | rfl | kernel_rfl
  · first | rfl | kernel_rfl
def Gv (a : (List Ae.V)) (b : (List Ab.V)) : Option Bool :=
 mkr (TT a b) (
 bif ((decide ((b.length : Int) < 1)) || (decide ((b.length : Int) > 2000))) then
 some false
 else
 (JF a b (b.length : Int) 0 0).bind (Sum.elim (fun d =>
 some false) (fun e =>
 some (decide (e ≤ 4096)))))
theorem U106 (R : Type) (a : (List Ae.V)) (b : (List Ab.V)) (K : AV → List Blk → Option R) : runF E106 Tryz.f194 R [dD (.sl Ae) a, dD (.sl Ab) b] [] K = (Gv a b).bind fun r => K (dB r) [] := by
  simp only [Gv, bC, bI, bN, bE, bA, bS, bO, bM]
  simp (disch := refine sI ?_ <;> (repeat' refine sA ?_ ?_) <;> intro _ <;> kernel_rfl) only [DB (Abx _ _) (K := finK E106 Tryz.f194 0 R K), JF, AC (ZL _ _ _) (K := finK E106 Tryz.f194 0 R K)]
  kernel_rfl
def c194 : Va.Callee := brC [.d (.sl Ae), .d (.sl Ab)] [⟨[.dat [] (.sl Ae), .dat [] (.sl Ab)], [], Bool, fun p => Gv p.1.1 p.1.2.1, fun r => (dB r, [])⟩]
theorem Ru : SoundC Tryz.prog 194 c194 := Ao (fn := Tryz.f194) (by kernel_rfl) (by kernel_rfl) (by kernel_rfl) ⟨⟨E106, ⟨⟨tabok, Am ⟨Vx, Oe, trivial⟩⟩, mixed⟩, fun p R K => U106 R p.1.1 p.1.2.1 K⟩, trivial⟩
abbrev E107 : Env := ⟨tab, lookH [(167, c167), (194, c194)], { deep := true }⟩
def GD (a : (List Ae.V)) (b : (List Ab.V)) : Option Bool :=
 (EP a).bind fun c =>
 bif c then
 (Gv a b).bind fun d =>
 some d
 else
 some false
theorem U107 (R : Type) (a : (List Ae.V)) (b : (List Ab.V)) (K : AV → List Blk → Option R) : runF E107 Tryz.f192 R [dD (.sl Ae) a, dD (.sl Ab) b] [] K = (GD a b).bind fun r => K (dB r) [] := by
  simp only [GD, bC, bI, bN, bE, bA, bS, bO, bM]
  kernel_rfl
def c192 : Va.Callee := brC [.d (.sl Ae), .d (.sl Ab)] [⟨[.dat [] (.sl Ae), .dat [] (.sl Ab)], [], Bool, fun p => GD p.1.1 p.1.2.1, fun r => (dB r, [])⟩]
theorem Rm : SoundC Tryz.prog 192 c192 := Ao (fn := Tryz.f192) (by kernel_rfl) (by kernel_rfl) (by kernel_rfl) ⟨⟨E107, ⟨⟨tabok, Am ⟨RB, Ru, trivial⟩⟩, mixed⟩, fun p R K => U107 R p.1.1 p.1.2.1 K⟩, trivial⟩
abbrev E108 : Env := ⟨tab, lookH [(101, c101), (129, c129), (192, c192), (193, c193)], { deep := true, joins := [(2, { live := [1, 2, 3, 28] })], ents := [(2, [0, 1, 2, 3])], frzd := [(35, (.sl Ab))], res := [(0, .row [] 196 Ab true)] }⟩
def AaM (a : (List Ae.V)) (b : (List Ab.V)) (c : Int) (d : Int) : St := sT 37 [(0, dD (.sl Ae) a), (1, dD (.sl Ab) b), (2, dI c), (3, dI d)] []
def ZC (a : (List Ae.V)) (b : (List Ab.V)) (c : Int) (d : Int) : Bool → Ex × St := fun e => (.normal, sT 37 [(1, dD (.sl Ab) b), (2, dI c), (3, dI d), (28, dB e)] [])
def D2 (a : (List Ae.V)) (b : (List Ab.V)) (c : Int) (d : Int) : Option Bool :=
 (GD a b).bind fun g =>
 bif (!g) then
 some true
 else
 bif (decide (d < 0)) then
 some true
 else
 bif (decide (d > c)) then
 some true
 else
 (Bg b).bind fun i =>
 some (decide (c ≥ i))
theorem AaW (a : (List Ae.V)) (b : (List Ab.V)) (c : Int) (d : Int) : JnOk E108 0 2 (code Tryz.f158) [1, 0, 0] (AaM a b c d) (D2 a b c d) (ZC a b c d) := by
  unfold JnOk
  simp only [D2, mC, mI, mN, mB, mE, mM]
  kernel_rfl
def DN (a : (List Ae.V)) (b : (List Ab.V)) (c : Int) (d : Int) : Option (Bool × (List Ab.V)) :=
 (D2 a b c d).bind fun e =>
 bif e then
 some (false, ([] : List Ab.V))
 else
 (Bk b d (IntKind.i64.wrap ((IntKind.i64.wrap (c - d)) + 1))).bind fun j =>
 (Ak j).bind fun k =>
 some (true, k)
theorem U108 (R : Type) (a : (List Ae.V)) (b : (List Ab.V)) (c : Int) (d : Int) (K : AV → List Blk → Option R) : runF E108 Tryz.f158 R [dD (.sl Ae) a, dD (.sl Ab) b, dI c, dI d] [] K = (DN a b c d).bind fun r => K (.cons (.ref 0) (.cons (dB r.1) .nil)) [.row 196 .deep Ab r.2] := by
  simp only [DN, bC, bI, bN, bE, bA, bS, bO, bM]
  simp (disch := refine sI ?_ <;> (repeat' refine sA ?_ ?_) <;> intro _ <;> kernel_rfl) only [AX (AaW _ _ _ _) (K := finK E108 Tryz.f158 0 R K)]
  kernel_rfl
def c158 : Va.Callee := brC [.d (.sl Ae), .d (.sl Ab), .d (.int .i64), .d (.int .i64)] [⟨[.dat [] (.sl Ae), .dat [] (.sl Ab), .dat [] (.int .i64), .dat [] (.int .i64)], [], (Bool × (List Ab.V)), fun p => DN p.1.1 p.1.2.1 p.1.2.2.1 p.1.2.2.2.1, fun r => (.cons (.ref 0) (.cons (dB r.1) .nil), [.row 196 .deep Ab r.2])⟩]
theorem WN : SoundC Tryz.prog 158 c158 := Ao (fn := Tryz.f158) (by kernel_rfl) (by kernel_rfl) (by kernel_rfl) ⟨⟨E108, ⟨⟨tabok, Am ⟨L7, Os, Rm, RA, trivial⟩⟩, mixed⟩, fun p R K => U108 R p.1.1 p.1.2.1 p.1.2.2.1 p.1.2.2.2.1 K⟩, trivial⟩
abbrev E109 : Env := ⟨tab, lookH [(101, c101), (129, c129), (192, c192), (194, c194), (195, c195)], { deep := true, joins := [(2, { live := [1, 2, 26] })], ents := [(2, [0, 1, 2])], frzd := [(30, (.sl Ab))], shal := [28], frz := [(0, (.sl Ab)), (1, .bool)] }⟩
def Aam (a : (List Ae.V)) (b : (List Ab.V)) (c : (List Ab.V)) : St := sT 36 [(0, dD (.sl Ae) a), (1, dD (.sl Ab) b), (2, dD (.sl Ab) c)] []
def Aau (a : (List Ae.V)) (b : (List Ab.V)) (c : (List Ab.V)) : Bool → Ex × St := fun d => (.normal, sT 36 [(1, dD (.sl Ab) b), (2, dD (.sl Ab) c), (26, dB d)] [])
def D0 (a : (List Ae.V)) (b : (List Ab.V)) (c : (List Ab.V)) : Option Bool :=
 (GD a b).bind fun e =>
 bif (!e) then
 some true
 else
 (Gv a c).bind fun g =>
 bif (!g) then
 some true
 else
 (Bg b).bind fun i =>
 (Bg c).bind fun j =>
 some (decide ((IntKind.i64.wrap (i + j)) > 4096))
theorem Zr (a : (List Ae.V)) (b : (List Ab.V)) (c : (List Ab.V)) : JnOk E109 0 2 (code Tryz.f159) [1, 0, 0] (Aam a b c) (D0 a b c) (Aau a b c) := by
  unfold JnOk
  simp only [D0, mC, mI, mN, mB, mE, mM]
  kernel_rfl
def DT (a : (List Ae.V)) (b : (List Ab.V)) (c : (List Ab.V)) : Option ((List Ab.V) × Bool) :=
 (D0 a b c).bind fun d =>
 bif d then
 some (([] : List Ab.V), false)
 else
 (Ak c).bind fun k =>
 (Ak b).bind fun l =>
 (AO l k).bind fun n =>
 bif (decide ((n.length : Int) > 2000)) then
 some (([] : List Ab.V), false)
 else
 some (n, true)
theorem U109 (R : Type) (a : (List Ae.V)) (b : (List Ab.V)) (c : (List Ab.V)) (K : AV → List Blk → Option R) : runF E109 Tryz.f159 R [dD (.sl Ae) a, dD (.sl Ab) b, dD (.sl Ab) c] [] K = (DT a b c).bind fun r => K (.cons (dD (.sl Ab) r.1) (.cons (dB r.2) .nil)) [] := by
  simp only [DT, bC, bI, bN, bE, bA, bS, bO, bM]
  simp (disch := refine sI ?_ <;> (repeat' refine sA ?_ ?_) <;> intro _ <;> kernel_rfl) only [AX (Zr _ _ _) (K := finK E109 Tryz.f159 0 R K)]
  kernel_rfl
def c159 : Va.Callee := brC [.d (.sl Ae), .d (.sl Ab), .d (.sl Ab)] [⟨[.dat [] (.sl Ae), .dat [] (.sl Ab), .dat [] (.sl Ab)], [], ((List Ab.V) × Bool), fun p => DT p.1.1 p.1.2.1 p.1.2.2.1, fun r => (.cons (dD (.sl Ab) r.1) (.cons (dB r.2) .nil), [])⟩]
theorem V8 : SoundC Tryz.prog 159 c159 := Ao (fn := Tryz.f159) (by kernel_rfl) (by kernel_rfl) (by kernel_rfl) ⟨⟨E109, ⟨⟨tabok, Am ⟨L7, Os, Rm, Ru, NL, trivial⟩⟩, mixed⟩, fun p R K => U109 R p.1.1 p.1.2.1 p.1.2.2.1 K⟩, trivial⟩
abbrev E110 : Env := ⟨tab, lookH [(153, c153), (154, c154), (155, c155), (156, c156), (157, c157), (158, c158), (159, c159)], { deep := true, joins := [(24, { live := [4, 9, 11, 205] }), (29, { live := [4, 13, 15, 275] })], ents := [(24, [4, 9, 10, 11, 12]), (29, [4, 13, 14, 15, 16])], frz := [(0, Ah), (1, (.int .i64))] }⟩
def TY (a : ((List Ab.V) × Bool)) (b : ((List Ab.V) × Bool)) : St := sT 280 [(4, .ptr 0 0 [] 0), (13, dD (.sl Ab) a.1), (14, dB a.2), (15, dD (.sl Ab) b.1), (16, dB b.2)] [.box (.pr .zs (.pr .zs .u))]
def Us (a : ((List Ab.V) × Bool)) (b : ((List Ab.V) × Bool)) (m0 : Bool) : Ex × St := (.normal, sT 280 [(4, .ptr 0 0 [] 0), (13, dD (.sl Ab) a.1), (15, dD (.sl Ab) b.1), (275, dB m0)] [.box (.pr .zs (.pr .zs .u))])
theorem Aav (a : ((List Ab.V) × Bool)) (b : ((List Ab.V) × Bool)) : jnS E110 0 29 (code Tryz.f100) [1, 1, 1, 1, 1, 1, 0, 0] (TY a b) = some (Us a b ((!a.2) || (!b.2))) := by
  have h0 : jnS E110 0 29 (code Tryz.f100) [1, 1, 1, 1, 1, 1, 0, 0] (TY a b) =
 bif (!a.2) then
 some (Us a b true)
 else
 some (Us a b (!b.2)) := by kernel_rfl
  rw [h0]
  cases h1 : (!a.2)
  · first | rfl | kernel_rfl
  · first | rfl | kernel_rfl
def SB (c : (Bool × (List Ab.V))) (d : (Bool × (List Ab.V))) : St := sT 280 [(4, .ptr 0 0 [] 0), (9, .ref 1), (10, dB c.1), (11, .ref 2), (12, dB d.1)] [.box (.pr .zs (.pr .zs .u)), .row 196 .deep Ab c.2, .row 196 .deep Ab d.2]
def Td (c : (Bool × (List Ab.V))) (d : (Bool × (List Ab.V))) (m0 : Bool) : Ex × St := (.normal, sT 280 [(4, .ptr 0 0 [] 0), (9, .ref 1), (11, .ref 2), (205, dB m0)] [.box (.pr .zs (.pr .zs .u)), .row 196 .deep Ab c.2, .row 196 .deep Ab d.2])
theorem Abd (c : (Bool × (List Ab.V))) (d : (Bool × (List Ab.V))) : jnS E110 0 24 (code Tryz.f100) [1, 1, 1, 0, 1, 0, 1, 1, 1, 1, 1, 1, 1, 1, 1, 0, 1, 1, 0, 0] (SB c d) = some (Td c d ((!c.1) || (!d.1))) := by
  have h0 : jnS E110 0 24 (code Tryz.f100) [1, 1, 1, 0, 1, 0, 1, 1, 1, 1, 1, 1, 1, 1, 1, 0, 1, 1, 0, 0] (SB c d) =
 bif (!c.1) then
 some (Td c d true)
 else
 some (Td c d (!d.1)) := by kernel_rfl
  rw [h0]
  cases h1 : (!c.1)
  · first | rfl | kernel_rfl
  · first | rfl | kernel_rfl
def At (e : Ax.V) (g : Aa.V) : Option (Ah.V × Int) :=
 bif (!(Aw g)) then
 some ((([] : List Ab.V), ([] : List Ab.V), ()), 2)
 else
 (Ar e g).bind fun i =>
 bif (!i) then
 some ((([] : List Ab.V), ([] : List Ab.V), ()), 3)
 else
 bif (g.1 == 1) then
 (BE e g.2.1).bind fun j =>
 if (0 : Int) ≤ j ∧ j < (e.2.2.1.length : Int) then
 some (((e.2.2.1.getD j.toNat (Ty.zero Ah)).1, (e.2.2.1.getD j.toNat (Ty.zero Ah)).2.1, ()), 0)
 else none
 else
 bif (g.1 == 2) then
 (HG e.1 g.2.2.2.2.2.1).bind fun k =>
 bif (!k.1) then
 some ((([] : List Ab.V), ([] : List Ab.V), ()), 4)
 else
 some ((k.2, k.2, ()), 0)
 else
 bif (g.1 == 3) then
 if (0 : Int) ≤ g.2.1 ∧ g.2.1 < (e.2.2.2.1.length : Int) then
 if (0 : Int) ≤ g.2.1 ∧ g.2.1 < (e.2.2.2.1.length : Int) then
 some (((e.2.2.2.1.getD g.2.1.toNat (Ty.zero Ah)).2.1, (e.2.2.2.1.getD g.2.1.toNat (Ty.zero Ah)).1, ()), 0)
 else none
 else none
 else
 bif (g.1 == 4) then
 if (0 : Int) ≤ g.2.1 ∧ g.2.1 < (e.2.2.2.1.length : Int) then
 if (0 : Int) ≤ g.2.2.1 ∧ g.2.2.1 < (e.2.2.2.1.length : Int) then
 (FC (e.2.2.2.1.getD g.2.1.toNat (Ty.zero Ah)).2.1 (e.2.2.2.1.getD g.2.2.1.toNat (Ty.zero Ah)).1).bind fun l =>
 bif (!l) then
 some ((([] : List Ab.V), ([] : List Ab.V), ()), 5)
 else
 if (0 : Int) ≤ g.2.1 ∧ g.2.1 < (e.2.2.2.1.length : Int) then
 if (0 : Int) ≤ g.2.2.1 ∧ g.2.2.1 < (e.2.2.2.1.length : Int) then
 some (((e.2.2.2.1.getD g.2.1.toNat (Ty.zero Ah)).1, (e.2.2.2.1.getD g.2.2.1.toNat (Ty.zero Ah)).2.1, ()), 0)
 else none
 else none
 else none
 else none
 else
 bif (g.1 == 5) then
 if (0 : Int) ≤ g.2.1 ∧ g.2.1 < (e.2.2.2.1.length : Int) then
 (DN e.1 (e.2.2.2.1.getD g.2.1.toNat (Ty.zero Ah)).1 g.2.2.2.1 g.2.2.2.2.1).bind fun c =>
 if (0 : Int) ≤ g.2.1 ∧ g.2.1 < (e.2.2.2.1.length : Int) then
 (DN e.1 (e.2.2.2.1.getD g.2.1.toNat (Ty.zero Ah)).2.1 g.2.2.2.1 g.2.2.2.2.1).bind fun d =>
 mkr (SB c d) (
 bif ((!c.1) || (!d.1)) then
 some ((([] : List Ab.V), ([] : List Ab.V), ()), 6)
 else
 some ((c.2, d.2, ()), 0))
 else none
 else none
 else
 if (0 : Int) ≤ g.2.1 ∧ g.2.1 < (e.2.2.2.1.length : Int) then
 if (0 : Int) ≤ g.2.2.1 ∧ g.2.2.1 < (e.2.2.2.1.length : Int) then
 (DT e.1 (e.2.2.2.1.getD g.2.1.toNat (Ty.zero Ah)).1 (e.2.2.2.1.getD g.2.2.1.toNat (Ty.zero Ah)).1).bind fun a =>
 if (0 : Int) ≤ g.2.1 ∧ g.2.1 < (e.2.2.2.1.length : Int) then
 if (0 : Int) ≤ g.2.2.1 ∧ g.2.2.1 < (e.2.2.2.1.length : Int) then
 (DT e.1 (e.2.2.2.1.getD g.2.1.toNat (Ty.zero Ah)).2.1 (e.2.2.2.1.getD g.2.2.1.toNat (Ty.zero Ah)).2.1).bind fun b =>
 mkr (TY a b) (
 bif ((!a.2) || (!b.2)) then
 some ((([] : List Ab.V), ([] : List Ab.V), ()), 6)
 else
 some ((a.1, b.1, ()), 0))
 else none
 else none
 else none
 else none
theorem U110 (R : Type) (e : Ax.V) (g : Aa.V) (K : AV → List Blk → Option R) : runF E110 Tryz.f100 R [.rop [] Ax e, .rop [] Aa g] [] K = (At e g).bind fun r => K (.cons (dD Ah r.1) (.cons (dI r.2) .nil)) [] := by
  simp only [At, bC, bI, bN, bE, bA, bS, bO, bM]
  simp (disch := refine sI ?_ <;> (repeat' refine sA ?_ ?_) <;> intro _ <;> kernel_rfl) only [DB (Abd _ _) (K := finK E110 Tryz.f100 0 R K), DB (Aav _ _) (K := finK E110 Tryz.f100 0 R K)]
  kernel_rfl
def c100 : Va.Callee := brC [.p Ax, .p Aa] [⟨[.rop [] Ax, .rop [] Aa], [], (Ah.V × Int), fun p => At p.1.1 p.1.2.1, fun r => (.cons (dD Ah r.1) (.cons (dI r.2) .nil), [])⟩]
theorem Wd : SoundC Tryz.prog 100 c100 := Ao (fn := Tryz.f100) (by kernel_rfl) (by kernel_rfl) (by kernel_rfl) ⟨⟨E110, ⟨⟨tabok, Am ⟨VG, Wx, Rp, VA, V2, WN, V8, trivial⟩⟩, mixed⟩, fun p R K => U110 R p.1.1 p.1.2.1 K⟩, trivial⟩
abbrev E111 : Env := ⟨tab, lookH [(72, c72), (99, c99), (100, c100), (101, c101)], { deep := true, heads := [(6, { live := [2, 9, 33, 34], pre := [(9, true, .row [3] 173 Ah true)] })], outs := [(6, { live := [6, 7, 8, 9] })], joins := [(2, { live := [0, 1, 2, 21] })], draws := [(11, { live := [2, 9, 33, 34] })], ents := [(2, [0, 1, 2])], dents := [(11, [2, 9, 11, 33, 34])], res := [(0, .row [] 173 Ah true)] }⟩
def AcL (a : (List Aa.V)) (b : (List Ae.V)) (c : (List Af.V)) (d : Int) (e : (List Ah.V)) (z_ : (Int × (List Ah.V))) : St := sT 63 [(2, dD (.sl Aa) a), (9, .ptr 0 0 [] 0), (33, dI d), (34, dI z_.1)] [.box (.pr (dD (.sl Ae) b) (.pr (dD (.sl Af) c) (.pr (.ref 1) (.pr (.ref 2) .u)))), .row 140 .deep Ah e, .row 173 .deep Ah z_.2]
def Aar (a : (List Aa.V)) (b : (List Ae.V)) (c : (List Af.V)) (d : Int) (e : (List Ah.V)) : ((Int × Int × (List Ah.V)) ⊕ (List Ah.V)) → Ex × St := Sum.elim (fun g => (.ret, sT 63 [(6, .zs), (7, dI g.1), (8, dI g.2.1), (9, .ptr 0 0 [] 0)] [.box (.pr (dD (.sl Ae) b) (.pr (dD (.sl Af) c) (.pr (.ref 1) (.pr (.ref 2) .u)))), .row 140 .deep Ah e, .row 173 .deep Ah g.2.2])) (fun i => ((.exit 0), sT 63 [(9, .ptr 0 0 [] 0)] [.box (.pr (dD (.sl Ae) b) (.pr (dD (.sl Af) c) (.pr (.ref 1) (.pr (.ref 2) .u)))), .row 140 .deep Ah e, .row 173 .deep Ah i]))
def Xc (a : (List Aa.V)) (d : Int) (j : Int) (b : (List Ae.V)) (c : (List Af.V)) (e : (List Ah.V)) (k : (List Ah.V)) (l : Ah.V) : St := sT 63 [(2, dD (.sl Aa) a), (9, .ptr 0 0 [] 0), (11, .ptr 1 0 [] 0), (33, dI d), (34, dI j)] [.box (.pr (dD (.sl Ae) b) (.pr (dD (.sl Af) c) (.pr (.ref 2) (.pr (.ref 3) .u)))), .box (.dat [0, 2, 3] Ah l), .row 140 .deep Ah e, .row 173 .deep Ah k]
def A1 (a : (List Aa.V)) (d : Int) (j : Int) (b : (List Ae.V)) (c : (List Af.V)) (e : (List Ah.V)) (k : (List Ah.V)) (l : Ah.V) : (List Ah.V) → St := fun n => sT 63 [(2, dD (.sl Aa) a), (9, .ptr 0 0 [] 0), (33, dI d), (34, dI j)] [.box (.pr (dD (.sl Ae) b) (.pr (dD (.sl Af) c) (.pr (.ref 1) (.pr (.ref 2) .u)))), .row 140 .deep Ah e, .row 173 .deep Ah n]
def Bx (a : (List Aa.V)) (d : Int) (j : Int) (b : (List Ae.V)) (c : (List Af.V)) (e : (List Ah.V)) (k : (List Ah.V)) (l : Ah.V) : Option (List Ah.V) :=
 (Ak l.1).bind fun o =>
 (Ak l.2.1).bind fun q =>
 if (k.length + ([(o, q, ())] : List Ah.V).length) * 48 ≤ 140737488355328 then
 some (k ++ ([(o, q, ())] : List Ah.V))
 else none
theorem Aa7 (a : (List Aa.V)) (d : Int) (j : Int) (b : (List Ae.V)) (c : (List Af.V)) (e : (List Ah.V)) (k : (List Ah.V)) (l : Ah.V) : DrOk E111 0 11 (sub (code Tryz.f47) [1, 1, 1, 1, 0, 1, 0, 0]) [1, 1, 0, 0, 1, 1, 1] (Xc a d j b c e k l) (Bx a d j b c e k l) (A1 a d j b c e k l) := by
  unfold DrOk
  have h : drS E111 0 11 (sub (code Tryz.f47) [1, 1, 1, 1, 0, 1, 0, 0]) [1, 1, 0, 0, 1, 1, 1] (Xc a d j b c e k l) =
 (Ak l.1).bind fun o =>
 (Ak l.2.1).bind fun q =>
 if (k.length + ([(o, q, ())] : List Ah.V).length) * 48 ≤ 140737488355328 then
 ((((((Ak l.1).bind fun s =>
(Ak l.2.1).bind fun t =>
 if (k.length + ([(s, t, ())] : List Ah.V).length) * 48 ≤ 140737488355328 then
 eqSt (A1 a d j b c e k l (k ++ ([(s, t, ())] : List Ah.V))) (A1 a d j b c e k l (k ++ ([(o, q, ())] : List Ah.V)))
 else none).bind fun _ =>
 (Ak l.1).bind fun u =>
(Ak l.2.1).bind fun v =>
 if (k.length + ([(u, v, ())] : List Ah.V).length) * 48 ≤ 140737488355328 then
 eqSt (A1 a d j b c e k l (k ++ ([(u, v, ())] : List Ah.V))) (A1 a d j b c e k l (k ++ ([(o, q, ())] : List Ah.V)))
 else none).bind fun _ =>
 (Ak l.1).bind fun w =>
(Ak l.2.1).bind fun x =>
 if (k.length + ([(w, x, ())] : List Ah.V).length) * 48 ≤ 140737488355328 then
 eqSt (A1 a d j b c e k l (k ++ ([(w, x, ())] : List Ah.V))) (A1 a d j b c e k l (k ++ ([(o, q, ())] : List Ah.V)))
 else none).bind fun _ =>
  ((((Ak l.1).bind fun y =>
(Ak l.2.1).bind fun a1 =>
 if (k.length + ([(y, a1, ())] : List Ah.V).length) * 48 ≤ 140737488355328 then
 eqSt (A1 a d j b c e k l (k ++ ([(y, a1, ())] : List Ah.V))) (A1 a d j b c e k l (k ++ ([(o, q, ())] : List Ah.V)))
 else none).bind fun _ =>
 (Ak l.1).bind fun b1 =>
(Ak l.2.1).bind fun c1 =>
 if (k.length + ([(b1, c1, ())] : List Ah.V).length) * 48 ≤ 140737488355328 then
 eqSt (A1 a d j b c e k l (k ++ ([(b1, c1, ())] : List Ah.V))) (A1 a d j b c e k l (k ++ ([(o, q, ())] : List Ah.V)))
 else none).bind fun _ =>
  ((Ak l.1).bind fun d1 =>
 ((Ak l.2.1).bind fun e1 =>
 if (k.length + ([(d1, e1, ())] : List Ah.V).length) * 48 ≤ 140737488355328 then
 eqSt (A1 a d j b c e k l (k ++ ([(d1, e1, ())] : List Ah.V))) (A1 a d j b c e k l (k ++ ([(o, q, ())] : List Ah.V)))
 else none).bind fun _ =>
 ((Ak l.2.1).bind fun g1 =>
 if (k.length + ([(d1, g1, ())] : List Ah.V).length) * 48 ≤ 140737488355328 then
 eqSt (A1 a d j b c e k l (k ++ ([(d1, g1, ())] : List Ah.V))) (A1 a d j b c e k l (k ++ ([(o, q, ())] : List Ah.V)))
 else none).bind fun _ =>
 (Ak l.2.1).bind fun i1 =>
 (if (k.length + ([(d1, i1, ())] : List Ah.V).length) * 48 ≤ 140737488355328 then
 eqSt (A1 a d j b c e k l (k ++ ([(d1, i1, ())] : List Ah.V))) (A1 a d j b c e k l (k ++ ([(o, q, ())] : List Ah.V)))
 else none).bind fun _ =>
 (if (k.length + ([(d1, i1, ())] : List Ah.V).length) * 48 ≤ 140737488355328 then
 eqSt (A1 a d j b c e k l (k ++ ([(d1, i1, ())] : List Ah.V))) (A1 a d j b c e k l (k ++ ([(o, q, ())] : List Ah.V)))
 else none).bind fun _ =>
 if (k.length + ([(d1, i1, ())] : List Ah.V).length) * 48 ≤ 140737488355328 then
 eqSt (A1 a d j b c e k l (k ++ ([(d1, i1, ())] : List Ah.V))) (A1 a d j b c e k l (k ++ ([(o, q, ())] : List Ah.V)))
 else none).bind fun _ =>
 ((Ak l.1).bind fun j1 =>
(Ak l.2.1).bind fun k1 =>
 if (k.length + ([(j1, k1, ())] : List Ah.V).length) * 48 ≤ 140737488355328 then
 eqSt (A1 a d j b c e k l (k ++ ([(j1, k1, ())] : List Ah.V))) (A1 a d j b c e k l (k ++ ([(o, q, ())] : List Ah.V)))
 else none).bind fun _ =>
 (Ak l.1).bind fun l1 =>
 ((Ak l.2.1).bind fun n1 =>
 if (k.length + ([(l1, n1, ())] : List Ah.V).length) * 48 ≤ 140737488355328 then
 eqSt (A1 a d j b c e k l (k ++ ([(l1, n1, ())] : List Ah.V))) (A1 a d j b c e k l (k ++ ([(o, q, ())] : List Ah.V)))
 else none).bind fun _ =>
 (Ak l.2.1).bind fun o1 =>
 (if (k.length + ([(l1, o1, ())] : List Ah.V).length) * 48 ≤ 140737488355328 then
 eqSt (A1 a d j b c e k l (k ++ ([(l1, o1, ())] : List Ah.V))) (A1 a d j b c e k l (k ++ ([(o, q, ())] : List Ah.V)))
 else none).bind fun _ =>
 (if (k.length + ([(l1, o1, ())] : List Ah.V).length) * 48 ≤ 140737488355328 then
 eqSt (A1 a d j b c e k l (k ++ ([(l1, o1, ())] : List Ah.V))) (A1 a d j b c e k l (k ++ ([(o, q, ())] : List Ah.V)))
 else none).bind fun _ =>
 if (k.length + ([(l1, o1, ())] : List Ah.V).length) * 48 ≤ 140737488355328 then
 eqSt (A1 a d j b c e k l (k ++ ([(l1, o1, ())] : List Ah.V))) (A1 a d j b c e k l (k ++ ([(o, q, ())] : List Ah.V)))
 else none).bind fun _ =>
 ((Ak l.1).bind fun q1 =>
(Ak l.2.1).bind fun s1 =>
 if (k.length + ([(q1, s1, ())] : List Ah.V).length) * 48 ≤ 140737488355328 then
 eqSt (A1 a d j b c e k l (k ++ ([(q1, s1, ())] : List Ah.V))) (A1 a d j b c e k l (k ++ ([(o, q, ())] : List Ah.V)))
 else none).bind fun _ =>
 ((Ak l.1).bind fun t1 =>
(Ak l.2.1).bind fun u1 =>
 if (k.length + ([(t1, u1, ())] : List Ah.V).length) * 48 ≤ 140737488355328 then
 eqSt (A1 a d j b c e k l (k ++ ([(t1, u1, ())] : List Ah.V))) (A1 a d j b c e k l (k ++ ([(o, q, ())] : List Ah.V)))
 else none).bind fun _ =>
 (Ak l.1).bind fun v1 =>
 ((Ak l.2.1).bind fun w1 =>
 if (k.length + ([(v1, w1, ())] : List Ah.V).length) * 48 ≤ 140737488355328 then
 eqSt (A1 a d j b c e k l (k ++ ([(v1, w1, ())] : List Ah.V))) (A1 a d j b c e k l (k ++ ([(o, q, ())] : List Ah.V)))
 else none).bind fun _ =>
 (Ak l.2.1).bind fun x1 =>
 (if (k.length + ([(v1, x1, ())] : List Ah.V).length) * 48 ≤ 140737488355328 then
 eqSt (A1 a d j b c e k l (k ++ ([(v1, x1, ())] : List Ah.V))) (A1 a d j b c e k l (k ++ ([(o, q, ())] : List Ah.V)))
 else none).bind fun _ =>
 (if (k.length + ([(v1, x1, ())] : List Ah.V).length) * 48 ≤ 140737488355328 then
 eqSt (A1 a d j b c e k l (k ++ ([(v1, x1, ())] : List Ah.V))) (A1 a d j b c e k l (k ++ ([(o, q, ())] : List Ah.V)))
 else none).bind fun _ =>
 if (k.length + ([(v1, x1, ())] : List Ah.V).length) * 48 ≤ 140737488355328 then
 eqSt (A1 a d j b c e k l (k ++ ([(v1, x1, ())] : List Ah.V))) (A1 a d j b c e k l (k ++ ([(o, q, ())] : List Ah.V)))
 else none).bind fun _ => some (A1 a d j b c e k l (k ++ ([(o, q, ())] : List Ah.V))))
 else none := by kernel_rfl
  rw [h]
  unfold Bx
  simp only [mC, mI, mN, mB, mE, mM, mS, mO]
  clear h
  cases hc0 : Ak l.1 with
  | none => rfl
  | some o =>
    simp only [Option.bind_some]
    cases hc1 : Ak l.2.1 with
    | none => rfl
    | some q =>
      simp only [Option.bind_some]
      by_cases hc2 : (k.length + ([(o, q, ())] : List Ah.V).length) * 48 ≤ 140737488355328
      · rw [if_pos hc2, if_pos hc2]
        simp only [hc0, hc1, if_pos hc2, Option.bind_some, I9]
      · simp only [hc0, hc1, if_neg hc2]
def AZ (a : (List Aa.V)) (b : (List Ae.V)) (c : (List Af.V)) (d : Int) (e : (List Ah.V)) (j : Int) (k : (List Ah.V)) : Option ((Int × (List Ah.V)) ⊕ ((Int × Int × (List Ah.V)) ⊕ (List Ah.V))) :=
 bif (decide (j < d)) then
 if (0 : Int) ≤ j ∧ j < (a.length : Int) then
 (At (b, c, e, k, ()) (a.getD j.toNat (Ty.zero Aa))).bind fun y1 =>
 bif (y1.2 != 0) then
 some (.inr (.inl (y1.2, j, k)))
 else
 (Bx a d j b c e k y1.1).bind fun n =>
 some (.inl ((IntKind.i64.wrap (j + 1)), n))
 else none
 else
 some (.inr (.inr k))
def AB (a : (List Aa.V)) (b : (List Ae.V)) (c : (List Af.V)) (d : Int) (e : (List Ah.V)) (z_ : (Int × (List Ah.V))) := AZ a b c d e z_.1 z_.2
def D5 (a : (List Aa.V)) (b : (List Ae.V)) (c : (List Af.V)) (d : Int) (e : (List Ah.V)) (j : Int) (k : (List Ah.V)) := fix (AB a b c d e) (j, k)
theorem ZT (a : (List Aa.V)) (b : (List Ae.V)) (c : (List Af.V)) (d : Int) (e : (List Ah.V)) : LpOk E111 0 6 (code Tryz.f47) [1, 1, 1, 1, 0, 1, 0] (AcL a b c d e) (AB a b c d e) (Aar a b c d e) := by
  intro _
  simp only [AB, AZ, mC, mI, mN, mB, mE, mM]
  simp (disch := refine sI ?_ <;> (repeat' refine sA ?_ ?_) <;> intro _ <;> kernel_rfl) only [Qs (Aa7 _ _ _ _ _ _ _ _) (K := stepK 0 (E111.hd 6) (E111.ot 6))]
  kernel_rfl
def AaT (b : (List Ae.V)) (c : (List Af.V)) (a : (List Aa.V)) : St := sT 63 [(0, dD (.sl Ae) b), (1, dD (.sl Af) c), (2, dD (.sl Aa) a)] []
def Z0 (b : (List Ae.V)) (c : (List Af.V)) (a : (List Aa.V)) : Bool → Ex × St := fun a2 => (.normal, sT 63 [(0, dD (.sl Ae) b), (1, dD (.sl Af) c), (2, dD (.sl Aa) a), (21, dB a2)] [])
def D4 (b : (List Ae.V)) (c : (List Af.V)) (a : (List Aa.V)) : Option Bool :=
 (Cj b c).bind fun b2 =>
 bif (!b2) then
 some true
 else
 some (decide ((a.length : Int) > 200))
theorem AbR (b : (List Ae.V)) (c : (List Af.V)) (a : (List Aa.V)) : JnOk E111 0 2 (code Tryz.f47) [1, 0, 0] (AaT b c a) (D4 b c a) (Z0 b c a) := by
  unfold JnOk
  simp only [D4, mC, mI, mN, mB, mE, mM]
  kernel_rfl
def CP (b : (List Ae.V)) (c : (List Af.V)) (a : (List Aa.V)) : Option (Int × Int × (List Ah.V)) :=
 (D4 b c a).bind fun a2 =>
 bif a2 then
 some (1, (-1), ([] : List Ah.V))
 else
 (GN b c).bind fun c2 =>
 (D5 a b c (a.length : Int) c2.2 0 ([] : List Ah.V)).bind (Sum.elim (fun g =>
 some (g.1, g.2.1, ([] : List Ah.V))) (fun i =>
 some (0, (-1), i)))
theorem U111 (R : Type) (b : (List Ae.V)) (c : (List Af.V)) (a : (List Aa.V)) (K : AV → List Blk → Option R) : runF E111 Tryz.f47 R [dD (.sl Ae) b, dD (.sl Af) c, dD (.sl Aa) a] [] K = (CP b c a).bind fun r => K (.cons (.ref 0) (.cons (dI r.1) (.cons (dI r.2.1) .nil))) [.row 173 .deep Ah r.2.2] := by
  simp only [CP, bC, bI, bN, bE, bA, bS, bO, bM]
  simp (disch := refine sI ?_ <;> (repeat' refine sA ?_ ?_) <;> intro _ <;> kernel_rfl) only [AX (AbR _ _ _) (K := finK E111 Tryz.f47 0 R K), D5, AC (ZT _ _ _ _ _) (K := finK E111 Tryz.f47 0 R K)]
  kernel_rfl
def c47 : Va.Callee := brC [.d (.sl Ae), .d (.sl Af), .d (.sl Aa)] [⟨[.dat [] (.sl Ae), .dat [] (.sl Af), .dat [] (.sl Aa)], [], (Int × Int × (List Ah.V)), fun p => CP p.1.1 p.1.2.1 p.1.2.2.1, fun r => (.cons (.ref 0) (.cons (dI r.1) (.cons (dI r.2.1) .nil)), [.row 173 .deep Ah r.2.2])⟩]
theorem Zp : SoundC Tryz.prog 47 c47 := Ao (fn := Tryz.f47) (by kernel_rfl) (by kernel_rfl) (by kernel_rfl) ⟨⟨E111, ⟨⟨tabok, Am ⟨S6, XH, Wd, L7, trivial⟩⟩, mixed⟩, fun p R K => U111 R p.1.1 p.1.2.1 p.1.2.2.1 K⟩, trivial⟩
end
end Go.Proofs.X
namespace Go.Proofs.X
open Go Go.Va
set_option maxRecDepth 100000
noncomputable section
noncomputable def c132 : Va.Callee := cloneC 2 (.int .i64) 8
noncomputable abbrev e132 : Env := { tab := tab, fns := lookH [], fi := { } }
theorem X6 : ProgOk Tryz.prog e132 := ⟨⟨tabok, Am trivial⟩, mixed⟩
theorem UU : SoundC Tryz.prog 132 c132 :=
  Mz (fn := Tryz.f132) X6 (by kernel_rfl) (by kernel_rfl) rfl rfl rfl ⟨rfl, rfl, rfl⟩ ⟨rfl, rfl, rfl⟩ (ti := ⟨.sl (.int .i64), [], 2, 24, 0⟩) (by kernel_rfl) rfl (by kernel_rfl) (fun xs => by kernel_rfl) (fun xs => by kernel_rfl)
    fun xs h => by
      have h0 : ev e132 0 (sub (code Tryz.f132) [1, 1]) (Ex × St) ⟨[.dat [] (.sl (.int .i64)) xs, .un 0, .zs, .dat [] (.sl (.int .i64)) xs, .bool false, .un 0, .un 0, .un 0], []⟩ pair2 = if xs.length * 8 ≤ 140737488355328 then some (.ret, ⟨[.dat [] (.sl (.int .i64)) xs, .un 0, .ref 0, .dat [] (.sl (.int .i64)) xs, .bool false, .zs, .dat [] (.sl (.int .i64)) xs, .ref 0], [.row 2 .deep (.int .i64) xs]⟩) else none := by kernel_rfl
      exact h0.trans (if_pos h)
abbrev E112 : Env := ⟨tab, lookH [(132, c132), (160, c160)], { deep := true }⟩
def Ee (a : Ad.V) : Option (Int × Int × Int × Int × Int × (List Int) × (List Int)) :=
 (Bh a.2.2.2.2.1).bind fun b =>
 if a.2.2.2.2.2.1.length * 8 ≤ 140737488355328 then
 some (a.1, a.2.1, a.2.2.1, a.2.2.2.1, b.1, b.2, a.2.2.2.2.2.1)
 else none
theorem U112 (R : Type) (a : Ad.V) (K : AV → List Blk → Option R) : runF E112 Tryz.f102 R [dD Ad a] [] K = (Ee a).bind fun r => K (.pr (dI r.1) (.pr (dI r.2.1) (.pr (dI r.2.2.1) (.pr (dI r.2.2.2.1) (.pr (.pr (dI r.2.2.2.2.1) (.pr (.ref 0) .u)) (.pr (.ref 1) .u)))))) [.row 221 .deep (.int .u64) r.2.2.2.2.2.1, .row 2 .deep (.int .i64) r.2.2.2.2.2.2] := by
  simp only [Ee, bC, bI, bN, bE, bA, bS, bO, bM]
  kernel_rfl
def c102 : Va.Callee := brC [.d Ad] [⟨[.dat [] Ad], [], (Int × Int × Int × Int × Int × (List Int) × (List Int)), fun p => Ee p.1.1, fun r => (.pr (dI r.1) (.pr (dI r.2.1) (.pr (dI r.2.2.1) (.pr (dI r.2.2.2.1) (.pr (.pr (dI r.2.2.2.2.1) (.pr (.ref 0) .u)) (.pr (.ref 1) .u))))), [.row 221 .deep (.int .u64) r.2.2.2.2.2.1, .row 2 .deep (.int .i64) r.2.2.2.2.2.2])⟩]
theorem Wu : SoundC Tryz.prog 102 c102 := Ao (fn := Tryz.f102) (by kernel_rfl) (by kernel_rfl) (by kernel_rfl) ⟨⟨E112, ⟨⟨tabok, Am ⟨UU, Oq, trivial⟩⟩, mixed⟩, fun p R K => U112 R p.1.1 K⟩, trivial⟩
abbrev E113 : Env := ⟨tab, lookH [(102, c102)], { deep := true, heads := [(3, { live := [2, 3, 12, 13, 14] })], outs := [(3, { live := [2, 3] })] }⟩
def AaU (a : (List Ad.V)) (b : Int) (z_ : (Int × (List Ad.V))) : St := sT 27 [(2, .ptr 0 0 [] 0), (3, .ptr 1 0 [] 0), (12, dD (.sl Ad) a), (13, dI b), (14, dI z_.1)] [.box (.pr .zs .u), .box (.pr (.ref 2) .u), .row 177 .deep Ad z_.2]
def Aco (a : (List Ad.V)) (b : Int) : (List Ad.V) → Ex × St := fun c => ((.exit 0), sT 27 [(2, .ptr 0 0 [] 0), (3, .ptr 1 0 [] 0)] [.box (.pr .zs .u), .box (.pr (.ref 2) .u), .row 177 .deep Ad c])
def DK (a : (List Ad.V)) (b : Int) (d : Int) (e : (List Ad.V)) : Option ((Int × (List Ad.V)) ⊕ (List Ad.V)) :=
 bif (decide (d < b)) then
 if (0 : Int) ≤ d ∧ d < (a.length : Int) then
 (Ee (a.getD d.toNat (Ty.zero Ad))).bind fun g =>
 if (0 : Int) ≤ d ∧ d < (e.length : Int) then
 some (.inl ((IntKind.i64.wrap (d + 1)), (e.set d.toNat (g.1, g.2.1, g.2.2.1, g.2.2.2.1, (g.2.2.2.2.1, g.2.2.2.2.2.1, ()), g.2.2.2.2.2.2, ()))))
 else none
 else none
 else
 some (.inr e)
def A8 (a : (List Ad.V)) (b : Int) (z_ : (Int × (List Ad.V))) := DK a b z_.1 z_.2
def HN (a : (List Ad.V)) (b : Int) (d : Int) (e : (List Ad.V)) := fix (A8 a b) (d, e)
theorem AbK (a : (List Ad.V)) (b : Int) : LpOk E113 0 3 (code Tryz.f49) [1, 1, 0, 1, 0] (AaU a b) (A8 a b) (Aco a b) := by
  intro _
  simp only [A8, DK, mC, mI, mN, mB, mE, mM]
  kernel_rfl
def Ef (i : Ai.V) : Option (List Ad.V) :=
 if Ty.row Ad = true ∧ (0 : Int) ≤ (i.1.length : Int) ∧ (i.1.length : Int) ≤ (i.1.length : Int) ∧ ((88 : Nat) : Int) * (i.1.length : Int) ≤ (281474976710656 : Int) ∧ (i.1.length : Int) ≤ (9223372036854775807 : Int) then
 (HN i.1 (i.1.length : Int) 0 (List.replicate (i.1.length : Int).toNat (0, 0, 0, 0, (0, ([] : List Int), ()), ([] : List Int), ()))).bind fun c =>
 some c
 else none
theorem U113 (R : Type) (i : Ai.V) (K : AV → List Blk → Option R) : runF E113 Tryz.f49 R [dD Ai i] [] K = (Ef i).bind fun r => K (.pr (.ref 0) .u) [.row 177 .deep Ad r] := by
  simp only [Ef, bC, bI, bN, bE, bA, bS, bO, bM]
  simp (disch := refine sI ?_ <;> (repeat' refine sA ?_ ?_) <;> intro _ <;> kernel_rfl) only [HN, AC (AbK _ _) (K := finK E113 Tryz.f49 0 R K)]
  kernel_rfl
def c49 : Va.Callee := brC [.d Ai] [⟨[.dat [] Ai], [], (List Ad.V), fun p => Ef p.1.1, fun r => (.pr (.ref 0) .u, [.row 177 .deep Ad r])⟩]
theorem Y5 : SoundC Tryz.prog 49 c49 := Ao (fn := Tryz.f49) (by kernel_rfl) (by kernel_rfl) (by kernel_rfl) ⟨⟨E113, ⟨⟨tabok, Am ⟨Wu, trivial⟩⟩, mixed⟩, fun p R K => U113 R p.1.1 K⟩, trivial⟩
abbrev E9048 : Env := ⟨tab, lookH [], { deep := true }⟩
def c48 : Va.Callee := inlC [.raw] E9048 Tryz.f48
theorem Xj : SoundC Tryz.prog 48 c48 := YV (by kernel_rfl) (by kernel_rfl) (by kernel_rfl) ⟨⟨tabok, Am trivial⟩, mixed⟩
abbrev E114 : Env := ⟨tab, lookH [(47, c47), (48, c48), (49, c49)], { deep := true, heads := [(7, { live := [2, 11, 12] }), (17, { live := [11, 15, 16, 74, 75, 76], pre := [(16, false, .row [] 92 Aa true)] })], outs := [(7, { live := [2, 11], frz := [(11, false, (.sl .bool))] }), (17, { live := [16] })], joins := [(3, { live := [2, 35] }), (8, { live := [2, 11, 12] }), (28, { live := [11, 15, 16, 74, 75, 76], pre := [(16, false, .row [] 92 Aa true)] })], ents := [(3, [2, 9]), (8, [2, 11, 12]), (28, [11, 15, 16, 74, 75, 76])], unr := [(11, 8), (23, 8)], res := [(0, .row [] 92 Aa true)] }⟩
def ZI (a : (List Bool)) (b : (List Aa.V)) (c : Int) (z_ : (Int × (List Int) × (List Aa.V))) : St := sT 116 [(11, dD (.sl .bool) a), (15, .ref 0), (16, .ref 1), (74, dD (.sl Aa) b), (75, dI c), (76, dI z_.1)] [.row 2 .deep (.int .i64) z_.2.1, .row 92 .deep Aa z_.2.2]
def Ab4 (a : (List Bool)) (b : (List Aa.V)) (c : Int) : (List Aa.V) → Ex × St := fun d => ((.exit 4), sT 116 [(16, .ref 0)] [.row 92 .deep Aa d])
def Acv (a : (List Bool)) (b : (List Aa.V)) (c : Int) (e : Int) (g : (List Int)) (i : (List Aa.V)) : St := sT 116 [(11, dD (.sl .bool) a), (15, .ref 0), (16, .ref 1), (74, dD (.sl Aa) b), (75, dI c), (76, dI e)] [.row 2 .deep (.int .i64) g, .row 92 .deep Aa i]
def Abh (a : (List Bool)) (b : (List Aa.V)) (c : Int) (e : Int) (g : (List Int)) (i : (List Aa.V)) : ((List Int) × (List Aa.V)) → Ex × St := fun j => (.normal, sT 116 [(11, dD (.sl .bool) a), (15, .ref 0), (16, .ref 1), (74, dD (.sl Aa) b), (75, dI c), (76, dI e)] [.row 2 .deep (.int .i64) j.1, .row 92 .deep Aa j.2])
def Ik (a : (List Bool)) (b : (List Aa.V)) (c : Int) (e : Int) (g : (List Int)) (i : (List Aa.V)) : Option ((List Int) × (List Aa.V)) :=
 if (0 : Int) ≤ e ∧ e < (b.length : Int) then
 if (0 : Int) ≤ e ∧ e < (a.length : Int) then
 bif (!(a.getD e.toNat (Ty.zero .bool))) then
 some (g, i)
 else
 if (0 : Int) ≤ e ∧ e < (g.length : Int) then
 (Ef (b.getD e.toNat (Ty.zero Aa)).2.2.2.2.2.1).bind fun k =>
 bif ((b.getD e.toNat (Ty.zero Aa)).1 == 3) then
 bif ((b.getD e.toNat (Ty.zero Aa)).1 == 3) then
 if (0 : Int) ≤ (b.getD e.toNat (Ty.zero Aa)).2.1 ∧ (b.getD e.toNat (Ty.zero Aa)).2.1 < ((g.set e.toNat (i.length : Int)).length : Int) then
 if (i.length + ([((b.getD e.toNat (Ty.zero Aa)).1, ((g.set e.toNat (i.length : Int)).getD (b.getD e.toNat (Ty.zero Aa)).2.1.toNat (Ty.zero (.int .i64))), (b.getD e.toNat (Ty.zero Aa)).2.2.1, (b.getD e.toNat (Ty.zero Aa)).2.2.2.1, (b.getD e.toNat (Ty.zero Aa)).2.2.2.2.1, (k, ()), (b.getD e.toNat (Ty.zero Aa)).2.2.2.2.2.2)] : List Aa.V).length) * 64 ≤ 140737488355328 then
 some ((g.set e.toNat (i.length : Int)), (i ++ ([((b.getD e.toNat (Ty.zero Aa)).1, ((g.set e.toNat (i.length : Int)).getD (b.getD e.toNat (Ty.zero Aa)).2.1.toNat (Ty.zero (.int .i64))), (b.getD e.toNat (Ty.zero Aa)).2.2.1, (b.getD e.toNat (Ty.zero Aa)).2.2.2.1, (b.getD e.toNat (Ty.zero Aa)).2.2.2.2.1, (k, ()), (b.getD e.toNat (Ty.zero Aa)).2.2.2.2.2.2)] : List Aa.V)))
 else none
 else none
 else
 bif ((b.getD e.toNat (Ty.zero Aa)).1 == 4) then
 bif ((b.getD e.toNat (Ty.zero Aa)).1 == 4) then
 if (0 : Int) ≤ (b.getD e.toNat (Ty.zero Aa)).2.1 ∧ (b.getD e.toNat (Ty.zero Aa)).2.1 < ((g.set e.toNat (i.length : Int)).length : Int) then
 if (0 : Int) ≤ (b.getD e.toNat (Ty.zero Aa)).2.2.1 ∧ (b.getD e.toNat (Ty.zero Aa)).2.2.1 < ((g.set e.toNat (i.length : Int)).length : Int) then
 if (i.length + ([((b.getD e.toNat (Ty.zero Aa)).1, ((g.set e.toNat (i.length : Int)).getD (b.getD e.toNat (Ty.zero Aa)).2.1.toNat (Ty.zero (.int .i64))), ((g.set e.toNat (i.length : Int)).getD (b.getD e.toNat (Ty.zero Aa)).2.2.1.toNat (Ty.zero (.int .i64))), (b.getD e.toNat (Ty.zero Aa)).2.2.2.1, (b.getD e.toNat (Ty.zero Aa)).2.2.2.2.1, (k, ()), (b.getD e.toNat (Ty.zero Aa)).2.2.2.2.2.2)] : List Aa.V).length) * 64 ≤ 140737488355328 then
 some ((g.set e.toNat (i.length : Int)), (i ++ ([((b.getD e.toNat (Ty.zero Aa)).1, ((g.set e.toNat (i.length : Int)).getD (b.getD e.toNat (Ty.zero Aa)).2.1.toNat (Ty.zero (.int .i64))), ((g.set e.toNat (i.length : Int)).getD (b.getD e.toNat (Ty.zero Aa)).2.2.1.toNat (Ty.zero (.int .i64))), (b.getD e.toNat (Ty.zero Aa)).2.2.2.1, (b.getD e.toNat (Ty.zero Aa)).2.2.2.2.1, (k, ()), (b.getD e.toNat (Ty.zero Aa)).2.2.2.2.2.2)] : List Aa.V)))
 else none
 else none
 else none
 else
 if (i.length + ([((b.getD e.toNat (Ty.zero Aa)).1, (b.getD e.toNat (Ty.zero Aa)).2.1, (b.getD e.toNat (Ty.zero Aa)).2.2.1, (b.getD e.toNat (Ty.zero Aa)).2.2.2.1, (b.getD e.toNat (Ty.zero Aa)).2.2.2.2.1, (k, ()), (b.getD e.toNat (Ty.zero Aa)).2.2.2.2.2.2)] : List Aa.V).length) * 64 ≤ 140737488355328 then
 some ((g.set e.toNat (i.length : Int)), (i ++ ([((b.getD e.toNat (Ty.zero Aa)).1, (b.getD e.toNat (Ty.zero Aa)).2.1, (b.getD e.toNat (Ty.zero Aa)).2.2.1, (b.getD e.toNat (Ty.zero Aa)).2.2.2.1, (b.getD e.toNat (Ty.zero Aa)).2.2.2.2.1, (k, ()), (b.getD e.toNat (Ty.zero Aa)).2.2.2.2.2.2)] : List Aa.V)))
 else none
 else
 bif ((b.getD e.toNat (Ty.zero Aa)).1 == 6) then
 if (0 : Int) ≤ (b.getD e.toNat (Ty.zero Aa)).2.1 ∧ (b.getD e.toNat (Ty.zero Aa)).2.1 < ((g.set e.toNat (i.length : Int)).length : Int) then
 if (0 : Int) ≤ (b.getD e.toNat (Ty.zero Aa)).2.2.1 ∧ (b.getD e.toNat (Ty.zero Aa)).2.2.1 < ((g.set e.toNat (i.length : Int)).length : Int) then
 if (i.length + ([((b.getD e.toNat (Ty.zero Aa)).1, ((g.set e.toNat (i.length : Int)).getD (b.getD e.toNat (Ty.zero Aa)).2.1.toNat (Ty.zero (.int .i64))), ((g.set e.toNat (i.length : Int)).getD (b.getD e.toNat (Ty.zero Aa)).2.2.1.toNat (Ty.zero (.int .i64))), (b.getD e.toNat (Ty.zero Aa)).2.2.2.1, (b.getD e.toNat (Ty.zero Aa)).2.2.2.2.1, (k, ()), (b.getD e.toNat (Ty.zero Aa)).2.2.2.2.2.2)] : List Aa.V).length) * 64 ≤ 140737488355328 then
 some ((g.set e.toNat (i.length : Int)), (i ++ ([((b.getD e.toNat (Ty.zero Aa)).1, ((g.set e.toNat (i.length : Int)).getD (b.getD e.toNat (Ty.zero Aa)).2.1.toNat (Ty.zero (.int .i64))), ((g.set e.toNat (i.length : Int)).getD (b.getD e.toNat (Ty.zero Aa)).2.2.1.toNat (Ty.zero (.int .i64))), (b.getD e.toNat (Ty.zero Aa)).2.2.2.1, (b.getD e.toNat (Ty.zero Aa)).2.2.2.2.1, (k, ()), (b.getD e.toNat (Ty.zero Aa)).2.2.2.2.2.2)] : List Aa.V)))
 else none
 else none
 else none
 else
 if (i.length + ([((b.getD e.toNat (Ty.zero Aa)).1, (b.getD e.toNat (Ty.zero Aa)).2.1, (b.getD e.toNat (Ty.zero Aa)).2.2.1, (b.getD e.toNat (Ty.zero Aa)).2.2.2.1, (b.getD e.toNat (Ty.zero Aa)).2.2.2.2.1, (k, ()), (b.getD e.toNat (Ty.zero Aa)).2.2.2.2.2.2)] : List Aa.V).length) * 64 ≤ 140737488355328 then
 some ((g.set e.toNat (i.length : Int)), (i ++ ([((b.getD e.toNat (Ty.zero Aa)).1, (b.getD e.toNat (Ty.zero Aa)).2.1, (b.getD e.toNat (Ty.zero Aa)).2.2.1, (b.getD e.toNat (Ty.zero Aa)).2.2.2.1, (b.getD e.toNat (Ty.zero Aa)).2.2.2.2.1, (k, ()), (b.getD e.toNat (Ty.zero Aa)).2.2.2.2.2.2)] : List Aa.V)))
 else none
 else
 bif ((b.getD e.toNat (Ty.zero Aa)).1 == 5) then
 if (0 : Int) ≤ (b.getD e.toNat (Ty.zero Aa)).2.1 ∧ (b.getD e.toNat (Ty.zero Aa)).2.1 < ((g.set e.toNat (i.length : Int)).length : Int) then
 if (i.length + ([((b.getD e.toNat (Ty.zero Aa)).1, ((g.set e.toNat (i.length : Int)).getD (b.getD e.toNat (Ty.zero Aa)).2.1.toNat (Ty.zero (.int .i64))), (b.getD e.toNat (Ty.zero Aa)).2.2.1, (b.getD e.toNat (Ty.zero Aa)).2.2.2.1, (b.getD e.toNat (Ty.zero Aa)).2.2.2.2.1, (k, ()), (b.getD e.toNat (Ty.zero Aa)).2.2.2.2.2.2)] : List Aa.V).length) * 64 ≤ 140737488355328 then
 some ((g.set e.toNat (i.length : Int)), (i ++ ([((b.getD e.toNat (Ty.zero Aa)).1, ((g.set e.toNat (i.length : Int)).getD (b.getD e.toNat (Ty.zero Aa)).2.1.toNat (Ty.zero (.int .i64))), (b.getD e.toNat (Ty.zero Aa)).2.2.1, (b.getD e.toNat (Ty.zero Aa)).2.2.2.1, (b.getD e.toNat (Ty.zero Aa)).2.2.2.2.1, (k, ()), (b.getD e.toNat (Ty.zero Aa)).2.2.2.2.2.2)] : List Aa.V)))
 else none
 else none
 else
 bif ((b.getD e.toNat (Ty.zero Aa)).1 == 4) then
 bif ((b.getD e.toNat (Ty.zero Aa)).1 == 4) then
 if (0 : Int) ≤ (b.getD e.toNat (Ty.zero Aa)).2.1 ∧ (b.getD e.toNat (Ty.zero Aa)).2.1 < ((g.set e.toNat (i.length : Int)).length : Int) then
 if (0 : Int) ≤ (b.getD e.toNat (Ty.zero Aa)).2.2.1 ∧ (b.getD e.toNat (Ty.zero Aa)).2.2.1 < ((g.set e.toNat (i.length : Int)).length : Int) then
 if (i.length + ([((b.getD e.toNat (Ty.zero Aa)).1, ((g.set e.toNat (i.length : Int)).getD (b.getD e.toNat (Ty.zero Aa)).2.1.toNat (Ty.zero (.int .i64))), ((g.set e.toNat (i.length : Int)).getD (b.getD e.toNat (Ty.zero Aa)).2.2.1.toNat (Ty.zero (.int .i64))), (b.getD e.toNat (Ty.zero Aa)).2.2.2.1, (b.getD e.toNat (Ty.zero Aa)).2.2.2.2.1, (k, ()), (b.getD e.toNat (Ty.zero Aa)).2.2.2.2.2.2)] : List Aa.V).length) * 64 ≤ 140737488355328 then
 some ((g.set e.toNat (i.length : Int)), (i ++ ([((b.getD e.toNat (Ty.zero Aa)).1, ((g.set e.toNat (i.length : Int)).getD (b.getD e.toNat (Ty.zero Aa)).2.1.toNat (Ty.zero (.int .i64))), ((g.set e.toNat (i.length : Int)).getD (b.getD e.toNat (Ty.zero Aa)).2.2.1.toNat (Ty.zero (.int .i64))), (b.getD e.toNat (Ty.zero Aa)).2.2.2.1, (b.getD e.toNat (Ty.zero Aa)).2.2.2.2.1, (k, ()), (b.getD e.toNat (Ty.zero Aa)).2.2.2.2.2.2)] : List Aa.V)))
 else none
 else none
 else none
 else
 if (i.length + ([((b.getD e.toNat (Ty.zero Aa)).1, (b.getD e.toNat (Ty.zero Aa)).2.1, (b.getD e.toNat (Ty.zero Aa)).2.2.1, (b.getD e.toNat (Ty.zero Aa)).2.2.2.1, (b.getD e.toNat (Ty.zero Aa)).2.2.2.2.1, (k, ()), (b.getD e.toNat (Ty.zero Aa)).2.2.2.2.2.2)] : List Aa.V).length) * 64 ≤ 140737488355328 then
 some ((g.set e.toNat (i.length : Int)), (i ++ ([((b.getD e.toNat (Ty.zero Aa)).1, (b.getD e.toNat (Ty.zero Aa)).2.1, (b.getD e.toNat (Ty.zero Aa)).2.2.1, (b.getD e.toNat (Ty.zero Aa)).2.2.2.1, (b.getD e.toNat (Ty.zero Aa)).2.2.2.2.1, (k, ()), (b.getD e.toNat (Ty.zero Aa)).2.2.2.2.2.2)] : List Aa.V)))
 else none
 else
 bif ((b.getD e.toNat (Ty.zero Aa)).1 == 6) then
 if (0 : Int) ≤ (b.getD e.toNat (Ty.zero Aa)).2.1 ∧ (b.getD e.toNat (Ty.zero Aa)).2.1 < ((g.set e.toNat (i.length : Int)).length : Int) then
 if (0 : Int) ≤ (b.getD e.toNat (Ty.zero Aa)).2.2.1 ∧ (b.getD e.toNat (Ty.zero Aa)).2.2.1 < ((g.set e.toNat (i.length : Int)).length : Int) then
 if (i.length + ([((b.getD e.toNat (Ty.zero Aa)).1, ((g.set e.toNat (i.length : Int)).getD (b.getD e.toNat (Ty.zero Aa)).2.1.toNat (Ty.zero (.int .i64))), ((g.set e.toNat (i.length : Int)).getD (b.getD e.toNat (Ty.zero Aa)).2.2.1.toNat (Ty.zero (.int .i64))), (b.getD e.toNat (Ty.zero Aa)).2.2.2.1, (b.getD e.toNat (Ty.zero Aa)).2.2.2.2.1, (k, ()), (b.getD e.toNat (Ty.zero Aa)).2.2.2.2.2.2)] : List Aa.V).length) * 64 ≤ 140737488355328 then
 some ((g.set e.toNat (i.length : Int)), (i ++ ([((b.getD e.toNat (Ty.zero Aa)).1, ((g.set e.toNat (i.length : Int)).getD (b.getD e.toNat (Ty.zero Aa)).2.1.toNat (Ty.zero (.int .i64))), ((g.set e.toNat (i.length : Int)).getD (b.getD e.toNat (Ty.zero Aa)).2.2.1.toNat (Ty.zero (.int .i64))), (b.getD e.toNat (Ty.zero Aa)).2.2.2.1, (b.getD e.toNat (Ty.zero Aa)).2.2.2.2.1, (k, ()), (b.getD e.toNat (Ty.zero Aa)).2.2.2.2.2.2)] : List Aa.V)))
 else none
 else none
 else none
 else
 if (i.length + ([((b.getD e.toNat (Ty.zero Aa)).1, (b.getD e.toNat (Ty.zero Aa)).2.1, (b.getD e.toNat (Ty.zero Aa)).2.2.1, (b.getD e.toNat (Ty.zero Aa)).2.2.2.1, (b.getD e.toNat (Ty.zero Aa)).2.2.2.2.1, (k, ()), (b.getD e.toNat (Ty.zero Aa)).2.2.2.2.2.2)] : List Aa.V).length) * 64 ≤ 140737488355328 then
 some ((g.set e.toNat (i.length : Int)), (i ++ ([((b.getD e.toNat (Ty.zero Aa)).1, (b.getD e.toNat (Ty.zero Aa)).2.1, (b.getD e.toNat (Ty.zero Aa)).2.2.1, (b.getD e.toNat (Ty.zero Aa)).2.2.2.1, (b.getD e.toNat (Ty.zero Aa)).2.2.2.2.1, (k, ()), (b.getD e.toNat (Ty.zero Aa)).2.2.2.2.2.2)] : List Aa.V)))
 else none
 else none
 else none
 else none
theorem AbE (a : (List Bool)) (b : (List Aa.V)) (c : Int) (e : Int) (g : (List Int)) (i : (List Aa.V)) : JnOk E114 0 28 (sub (code Tryz.f13) [1, 1, 1, 1, 1, 1, 0, 1, 0, 0]) [1, 1, 0] (Acv a b c e g i) (Ik a b c e g i) (Abh a b c e g i) := by
  unfold JnOk
  simp only [Ik, mC, mI, mN, mB, mE, mM]
  kernel_rfl
def HY (a : (List Bool)) (b : (List Aa.V)) (c : Int) (e : Int) (g : (List Int)) (i : (List Aa.V)) : Option ((Int × (List Int) × (List Aa.V)) ⊕ (List Aa.V)) :=
 bif (decide (e < c)) then
 (Ik a b c e g i).bind fun j =>
 some (.inl ((IntKind.i64.wrap (e + 1)), j.1, j.2))
 else
 some (.inr i)
def F3 (a : (List Bool)) (b : (List Aa.V)) (c : Int) (z_ : (Int × (List Int) × (List Aa.V))) := HY a b c z_.1 z_.2.1 z_.2.2
def Js (a : (List Bool)) (b : (List Aa.V)) (c : Int) (e : Int) (g : (List Int)) (i : (List Aa.V)) := fix (F3 a b c) (e, g, i)
theorem AbA (a : (List Bool)) (b : (List Aa.V)) (c : Int) : LpOk E114 0 17 (code Tryz.f13) [1, 1, 1, 1, 1, 1, 0, 1, 0] (ZI a b c) (F3 a b c) (Ab4 a b c) := by
  intro _
  simp only [F3, HY, mC, mI, mN, mB, mE, mM]
  simp (disch := refine sI ?_ <;> (repeat' refine sA ?_ ?_) <;> intro _ <;> kernel_rfl) only [AX (AbE _ _ _ _ _ _) (K := stepK 0 (E114.hd 17) (E114.ot 17))]
  kernel_rfl
def Aaj (b : (List Aa.V)) (z_ : (Int × (List Bool))) : St := sT 116 [(2, dD (.sl Aa) b), (11, .ref 0), (12, dI z_.1)] [.row 4 .deep .bool z_.2]
def Zs (b : (List Aa.V)) : (List Bool) → Ex × St := fun a => ((.exit 0), sT 116 [(2, dD (.sl Aa) b), (11, dD (.sl .bool) a)] [])
def AaV (b : (List Aa.V)) (l : Int) (n : (List Bool)) : St := sT 116 [(2, dD (.sl Aa) b), (11, .ref 0), (12, dI l)] [.row 4 .deep .bool n]
def Acp (b : (List Aa.V)) (l : Int) (n : (List Bool)) : (List Bool) → Ex × St := fun o => (.normal, sT 116 [(2, dD (.sl Aa) b), (11, .ref 0), (12, dI l)] [.row 4 .deep .bool o])
def In (b : (List Aa.V)) (l : Int) (n : (List Bool)) : Option (List Bool) :=
 if (0 : Int) ≤ l ∧ l < (n.length : Int) then
 bif (n.getD l.toNat (Ty.zero .bool)) then
 if (0 : Int) ≤ l ∧ l < (b.length : Int) then
 bif ((b.getD l.toNat (Ty.zero Aa)).1 == 3) then
 bif ((b.getD l.toNat (Ty.zero Aa)).1 == 3) then
 if (0 : Int) ≤ (b.getD l.toNat (Ty.zero Aa)).2.1 ∧ (b.getD l.toNat (Ty.zero Aa)).2.1 < (n.length : Int) then
 some (n.set (b.getD l.toNat (Ty.zero Aa)).2.1.toNat true)
 else none
 else
 bif ((b.getD l.toNat (Ty.zero Aa)).1 == 4) then
 bif ((b.getD l.toNat (Ty.zero Aa)).1 == 4) then
 if (0 : Int) ≤ (b.getD l.toNat (Ty.zero Aa)).2.1 ∧ (b.getD l.toNat (Ty.zero Aa)).2.1 < (n.length : Int) then
 if (0 : Int) ≤ (b.getD l.toNat (Ty.zero Aa)).2.2.1 ∧ (b.getD l.toNat (Ty.zero Aa)).2.2.1 < ((n.set (b.getD l.toNat (Ty.zero Aa)).2.1.toNat true).length : Int) then
 some ((n.set (b.getD l.toNat (Ty.zero Aa)).2.1.toNat true).set (b.getD l.toNat (Ty.zero Aa)).2.2.1.toNat true)
 else none
 else none
 else
 some n
 else
 bif ((b.getD l.toNat (Ty.zero Aa)).1 == 6) then
 if (0 : Int) ≤ (b.getD l.toNat (Ty.zero Aa)).2.1 ∧ (b.getD l.toNat (Ty.zero Aa)).2.1 < (n.length : Int) then
 if (0 : Int) ≤ (b.getD l.toNat (Ty.zero Aa)).2.2.1 ∧ (b.getD l.toNat (Ty.zero Aa)).2.2.1 < ((n.set (b.getD l.toNat (Ty.zero Aa)).2.1.toNat true).length : Int) then
 some ((n.set (b.getD l.toNat (Ty.zero Aa)).2.1.toNat true).set (b.getD l.toNat (Ty.zero Aa)).2.2.1.toNat true)
 else none
 else none
 else
 some n
 else
 bif ((b.getD l.toNat (Ty.zero Aa)).1 == 5) then
 if (0 : Int) ≤ (b.getD l.toNat (Ty.zero Aa)).2.1 ∧ (b.getD l.toNat (Ty.zero Aa)).2.1 < (n.length : Int) then
 some (n.set (b.getD l.toNat (Ty.zero Aa)).2.1.toNat true)
 else none
 else
 bif ((b.getD l.toNat (Ty.zero Aa)).1 == 4) then
 bif ((b.getD l.toNat (Ty.zero Aa)).1 == 4) then
 if (0 : Int) ≤ (b.getD l.toNat (Ty.zero Aa)).2.1 ∧ (b.getD l.toNat (Ty.zero Aa)).2.1 < (n.length : Int) then
 if (0 : Int) ≤ (b.getD l.toNat (Ty.zero Aa)).2.2.1 ∧ (b.getD l.toNat (Ty.zero Aa)).2.2.1 < ((n.set (b.getD l.toNat (Ty.zero Aa)).2.1.toNat true).length : Int) then
 some ((n.set (b.getD l.toNat (Ty.zero Aa)).2.1.toNat true).set (b.getD l.toNat (Ty.zero Aa)).2.2.1.toNat true)
 else none
 else none
 else
 some n
 else
 bif ((b.getD l.toNat (Ty.zero Aa)).1 == 6) then
 if (0 : Int) ≤ (b.getD l.toNat (Ty.zero Aa)).2.1 ∧ (b.getD l.toNat (Ty.zero Aa)).2.1 < (n.length : Int) then
 if (0 : Int) ≤ (b.getD l.toNat (Ty.zero Aa)).2.2.1 ∧ (b.getD l.toNat (Ty.zero Aa)).2.2.1 < ((n.set (b.getD l.toNat (Ty.zero Aa)).2.1.toNat true).length : Int) then
 some ((n.set (b.getD l.toNat (Ty.zero Aa)).2.1.toNat true).set (b.getD l.toNat (Ty.zero Aa)).2.2.1.toNat true)
 else none
 else none
 else
 some n
 else none
 else
 some n
 else none
theorem Zw (b : (List Aa.V)) (l : Int) (n : (List Bool)) : JnOk E114 0 8 (sub (code Tryz.f13) [1, 1, 1, 1, 0, 1, 0, 0]) [1, 0] (AaV b l n) (In b l n) (Acp b l n) := by
  unfold JnOk
  simp only [In, mC, mI, mN, mB, mE, mM]
  kernel_rfl
def JN (b : (List Aa.V)) (l : Int) (n : (List Bool)) : Option ((Int × (List Bool)) ⊕ (List Bool)) :=
 bif (decide (l ≥ 0)) then
 (In b l n).bind fun o =>
 some (.inl ((IntKind.i64.wrap (l - 1)), o))
 else
 some (.inr n)
def Ia (b : (List Aa.V)) (z_ : (Int × (List Bool))) := JN b z_.1 z_.2
def Jq (b : (List Aa.V)) (l : Int) (n : (List Bool)) := fix (Ia b) (l, n)
theorem Aan (b : (List Aa.V)) : LpOk E114 0 7 (code Tryz.f13) [1, 1, 1, 1, 0, 1, 0] (Aaj b) (Ia b) (Zs b) := by
  intro _
  simp only [Ia, JN, mC, mI, mN, mB, mE, mM]
  simp (disch := refine sI ?_ <;> (repeat' refine sA ?_ ?_) <;> intro _ <;> kernel_rfl) only [AX (Zw _ _ _) (K := stepK 0 (E114.hd 7) (E114.ot 7))]
  kernel_rfl
def SS (b : (List Aa.V)) (q : (Int × Int × (List Ah.V))) : St := sT 116 [(2, dD (.sl Aa) b), (9, dI q.1)] []
def SO (b : (List Aa.V)) (m0 : Bool) : Ex × St := (.normal, sT 116 [(2, dD (.sl Aa) b), (35, dB m0)] [])
theorem Aa2 (b : (List Aa.V)) (q : (Int × Int × (List Ah.V))) : jnS E114 0 3 (code Tryz.f13) [1, 0, 1, 0] (SS b q) = some (SO b ((q.1 != 0) || ((b.length : Int) == 0))) := by
  have h0 : jnS E114 0 3 (code Tryz.f13) [1, 0, 1, 0] (SS b q) =
 bif (q.1 != 0) then
 some (SO b true)
 else
 some (SO b ((b.length : Int) == 0)) := by kernel_rfl
  rw [h0]
  cases h1 : (q.1 != 0)
  · first | rfl | kernel_rfl
  · first | rfl | kernel_rfl
def I3 (s : (List Ae.V)) (t : (List Af.V)) (b : (List Aa.V)) : Option (Bool × (List Aa.V)) :=
 (CP s t b).bind fun q =>
 mkr (SS b q) (
 bif ((q.1 != 0) || ((b.length : Int) == 0)) then
 some (false, ([] : List Aa.V))
 else
 if Ty.row .bool = true ∧ (0 : Int) ≤ (b.length : Int) ∧ (b.length : Int) ≤ (b.length : Int) ∧ ((1 : Nat) : Int) * (b.length : Int) ≤ (281474976710656 : Int) ∧ (b.length : Int) ≤ (9223372036854775807 : Int) then
 if (0 : Int) ≤ (IntKind.i64.wrap ((b.length : Int) - 1)) ∧ (IntKind.i64.wrap ((b.length : Int) - 1)) < ((List.replicate (b.length : Int).toNat false).length : Int) then
 (Jq b (IntKind.i64.wrap ((b.length : Int) - 1)) ((List.replicate (b.length : Int).toNat false).set (IntKind.i64.wrap ((b.length : Int) - 1)).toNat true)).bind fun a =>
 if Ty.row (.int .i64) = true ∧ (0 : Int) ≤ (b.length : Int) ∧ (b.length : Int) ≤ (b.length : Int) ∧ ((8 : Nat) : Int) * (b.length : Int) ≤ (281474976710656 : Int) ∧ (b.length : Int) ≤ (9223372036854775807 : Int) then
 (Js a b (b.length : Int) 0 (List.replicate (b.length : Int).toNat 0) ([] : List Aa.V)).bind fun d =>
 some (true, d)
 else none
 else none
 else none)
theorem U114 (R : Type) (s : (List Ae.V)) (t : (List Af.V)) (b : (List Aa.V)) (K : AV → List Blk → Option R) : runF E114 Tryz.f13 R [dD (.sl Ae) s, dD (.sl Af) t, dD (.sl Aa) b] [] K = (I3 s t b).bind fun r => K (.cons (.ref 0) (.cons (dB r.1) .nil)) [.row 92 .deep Aa r.2] := by
  simp only [I3, bC, bI, bN, bE, bA, bS, bO, bM]
  simp (disch := refine sI ?_ <;> (repeat' refine sA ?_ ?_) <;> intro _ <;> kernel_rfl) only [DB (Aa2 _ _) (K := finK E114 Tryz.f13 0 R K), Jq, AC (Aan _) (K := finK E114 Tryz.f13 0 R K), Js, AC (AbA _ _ _) (K := finK E114 Tryz.f13 0 R K)]
  kernel_rfl
def c13 : Va.Callee := brC [.d (.sl Ae), .d (.sl Af), .d (.sl Aa)] [⟨[.dat [] (.sl Ae), .dat [] (.sl Af), .dat [] (.sl Aa)], [], (Bool × (List Aa.V)), fun p => I3 p.1.1 p.1.2.1 p.1.2.2.1, fun r => (.cons (.ref 0) (.cons (dB r.1) .nil), [.row 92 .deep Aa r.2])⟩]
theorem YB : SoundC Tryz.prog 13 c13 := Ao (fn := Tryz.f13) (by kernel_rfl) (by kernel_rfl) (by kernel_rfl) ⟨⟨E114, ⟨⟨tabok, Am ⟨Zp, Xj, Y5, trivial⟩⟩, mixed⟩, fun p R K => U114 R p.1.1 p.1.2.1 p.1.2.2.1 K⟩, trivial⟩
abbrev E115 : Env := ⟨tab, lookH [], { deep := true, heads := [(4, { live := [0, 1, 5] })], outs := [(4, { live := [4] })] }⟩
def AaX (a : (List Int)) (b : (List Int)) (z_ : Int) : St := sT 26 [(0, dD (.sl (.int .u64)) a), (1, dD (.sl (.int .u64)) b), (5, dI z_)] []
def Ab9 (a : (List Int)) (b : (List Int)) : (Unit ⊕ Unit) → Ex × St := Sum.elim (fun c => (.ret, sT 26 [(4, dB false)] [])) (fun d => ((.exit 0), sT 26 [] []))
def I4 (a : (List Int)) (b : (List Int)) (e : Int) : Option (Int ⊕ (Unit ⊕ Unit)) :=
 bif (decide (e < (a.length : Int))) then
 if (0 : Int) ≤ e ∧ e < (a.length : Int) then
 if (0 : Int) ≤ e ∧ e < (b.length : Int) then
 bif ((a.getD e.toNat (Ty.zero (.int .u64))) != (b.getD e.toNat (Ty.zero (.int .u64)))) then
 some (.inr (.inl ()))
 else
 some (.inl (IntKind.i64.wrap (e + 1)))
 else none
 else none
 else
 some (.inr (.inr ()))
def DH (a : (List Int)) (b : (List Int)) (z_ : Int) := I4 a b z_
def JZ (a : (List Int)) (b : (List Int)) (e : Int) := fix (DH a b) e
theorem AcB (a : (List Int)) (b : (List Int)) : LpOk E115 0 4 (code Tryz.f220) [1, 1, 0, 1, 0] (AaX a b) (DH a b) (Ab9 a b) := by
  intro _
  simp only [DH, I4, mC, mI, mN, mB, mE, mM]
  kernel_rfl
def FS (a : (List Int)) (b : (List Int)) : Option Bool :=
 bif ((a.length : Int) != (b.length : Int)) then
 some false
 else
 (JZ a b 0).bind (Sum.elim (fun c =>
 some false) (fun d =>
 some true))
theorem U115 (R : Type) (a : (List Int)) (b : (List Int)) (K : AV → List Blk → Option R) : runF E115 Tryz.f220 R [dD (.sl (.int .u64)) a, dD (.sl (.int .u64)) b] [] K = (FS a b).bind fun r => K (dB r) [] := by
  simp only [FS, bC, bI, bN, bE, bA, bS, bO, bM]
  simp (disch := refine sI ?_ <;> (repeat' refine sA ?_ ?_) <;> intro _ <;> kernel_rfl) only [JZ, AC (AcB _ _) (K := finK E115 Tryz.f220 0 R K)]
  kernel_rfl
def c220 : Va.Callee := brC [.d (.sl (.int .u64)), .d (.sl (.int .u64))] [⟨[.dat [] (.sl (.int .u64)), .dat [] (.sl (.int .u64))], [], Bool, fun p => FS p.1.1 p.1.2.1, fun r => (dB r, [])⟩]
theorem V0 : SoundC Tryz.prog 220 c220 := Ao (fn := Tryz.f220) (by kernel_rfl) (by kernel_rfl) (by kernel_rfl) ⟨⟨E115, ⟨⟨tabok, Am trivial⟩, mixed⟩, fun p R K => U115 R p.1.1 p.1.2.1 K⟩, trivial⟩
abbrev E116 : Env := ⟨tab, lookH [(220, c220)], { deep := true }⟩
def HC (a : Aj.V) (b : Aj.V) : Option Bool :=
 bif (a.1 != b.1) then
 some false
 else
 (FS a.2.1 b.2.1).bind fun c =>
 bif (!c) then
 some false
 else
 some true
theorem U116 (R : Type) (a : Aj.V) (b : Aj.V) (K : AV → List Blk → Option R) : runF E116 Tryz.f179 R [dD Aj a, dD Aj b] [] K = (HC a b).bind fun r => K (dB r) [] := by
  simp only [HC, bC, bI, bN, bE, bA, bS, bO, bM]
  kernel_rfl
def c179 : Va.Callee := brC [.d Aj, .d Aj] [⟨[.dat [] Aj, .dat [] Aj], [], Bool, fun p => HC p.1.1 p.1.2.1, fun r => (dB r, [])⟩]
theorem UT : SoundC Tryz.prog 179 c179 := Ao (fn := Tryz.f179) (by kernel_rfl) (by kernel_rfl) (by kernel_rfl) ⟨⟨E116, ⟨⟨tabok, Am ⟨V0, trivial⟩⟩, mixed⟩, fun p R K => U116 R p.1.1 p.1.2.1 K⟩, trivial⟩
abbrev E117 : Env := ⟨tab, lookH [], { deep := true, heads := [(4, { live := [0, 1, 5] })], outs := [(4, { live := [4] })] }⟩
def Abj (a : (List Int)) (b : (List Int)) (z_ : Int) : St := sT 26 [(0, dD (.sl (.int .i64)) a), (1, dD (.sl (.int .i64)) b), (5, dI z_)] []
def AcC (a : (List Int)) (b : (List Int)) : (Unit ⊕ Unit) → Ex × St := Sum.elim (fun c => (.ret, sT 26 [(4, dB false)] [])) (fun d => ((.exit 0), sT 26 [] []))
def Jh (a : (List Int)) (b : (List Int)) (e : Int) : Option (Int ⊕ (Unit ⊕ Unit)) :=
 bif (decide (e < (a.length : Int))) then
 if (0 : Int) ≤ e ∧ e < (a.length : Int) then
 if (0 : Int) ≤ e ∧ e < (b.length : Int) then
 bif ((a.getD e.toNat (Ty.zero (.int .i64))) != (b.getD e.toNat (Ty.zero (.int .i64)))) then
 some (.inr (.inl ()))
 else
 some (.inl (IntKind.i64.wrap (e + 1)))
 else none
 else none
 else
 some (.inr (.inr ()))
def Ey (a : (List Int)) (b : (List Int)) (z_ : Int) := Jh a b z_
def Ks (a : (List Int)) (b : (List Int)) (e : Int) := fix (Ey a b) e
theorem AbM (a : (List Int)) (b : (List Int)) : LpOk E117 0 4 (code Tryz.f90) [1, 1, 0, 1, 0] (Abj a b) (Ey a b) (AcC a b) := by
  intro _
  simp only [Ey, Jh, mC, mI, mN, mB, mE, mM]
  kernel_rfl
def Hk (a : (List Int)) (b : (List Int)) : Option Bool :=
 bif ((a.length : Int) != (b.length : Int)) then
 some false
 else
 (Ks a b 0).bind (Sum.elim (fun c =>
 some false) (fun d =>
 some true))
theorem U117 (R : Type) (a : (List Int)) (b : (List Int)) (K : AV → List Blk → Option R) : runF E117 Tryz.f90 R [dD (.sl (.int .i64)) a, dD (.sl (.int .i64)) b] [] K = (Hk a b).bind fun r => K (dB r) [] := by
  simp only [Hk, bC, bI, bN, bE, bA, bS, bO, bM]
  simp (disch := refine sI ?_ <;> (repeat' refine sA ?_ ?_) <;> intro _ <;> kernel_rfl) only [Ks, AC (AbM _ _) (K := finK E117 Tryz.f90 0 R K)]
  kernel_rfl
def c90 : Va.Callee := brC [.d (.sl (.int .i64)), .d (.sl (.int .i64))] [⟨[.dat [] (.sl (.int .i64)), .dat [] (.sl (.int .i64))], [], Bool, fun p => Hk p.1.1 p.1.2.1, fun r => (dB r, [])⟩]
theorem YP : SoundC Tryz.prog 90 c90 := Ao (fn := Tryz.f90) (by kernel_rfl) (by kernel_rfl) (by kernel_rfl) ⟨⟨E117, ⟨⟨tabok, Am trivial⟩, mixed⟩, fun p R K => U117 R p.1.1 p.1.2.1 K⟩, trivial⟩
abbrev E118 : Env := ⟨tab, lookH [(90, c90), (179, c179)], { deep := true }⟩
def Fc (a : Ad.V) (b : Ad.V) : Option Bool :=
 bif (a.1 != b.1) then
 some false
 else
 bif (a.2.1 != b.2.1) then
 some false
 else
 bif (a.2.2.1 != b.2.2.1) then
 some false
 else
 bif (a.2.2.2.1 != b.2.2.2.1) then
 some false
 else
 (HC a.2.2.2.2.1 b.2.2.2.2.1).bind fun c =>
 bif (!c) then
 some false
 else
 (Hk a.2.2.2.2.2.1 b.2.2.2.2.2.1).bind fun d =>
 bif (!d) then
 some false
 else
 some true
theorem U118 (R : Type) (a : Ad.V) (b : Ad.V) (K : AV → List Blk → Option R) : runF E118 Tryz.f180 R [dD Ad a, dD Ad b] [] K = (Fc a b).bind fun r => K (dB r) [] := by
  simp only [Fc, bC, bI, bN, bE, bA, bS, bO, bM]
  kernel_rfl
def c180 : Va.Callee := brC [.d Ad, .d Ad] [⟨[.dat [] Ad, .dat [] Ad], [], Bool, fun p => Fc p.1.1 p.1.2.1, fun r => (dB r, [])⟩]
theorem UY : SoundC Tryz.prog 180 c180 := Ao (fn := Tryz.f180) (by kernel_rfl) (by kernel_rfl) (by kernel_rfl) ⟨⟨E118, ⟨⟨tabok, Am ⟨YP, UT, trivial⟩⟩, mixed⟩, fun p R K => U118 R p.1.1 p.1.2.1 K⟩, trivial⟩
abbrev E119 : Env := ⟨tab, lookH [(180, c180)], { deep := true, heads := [(4, { live := [0, 1, 5] })], outs := [(4, { live := [4] })] }⟩
def Z2 (a : (List Ad.V)) (b : (List Ad.V)) (z_ : Int) : St := sT 27 [(0, dD (.sl Ad) a), (1, dD (.sl Ad) b), (5, dI z_)] []
def Aaw (a : (List Ad.V)) (b : (List Ad.V)) : (Unit ⊕ Unit) → Ex × St := Sum.elim (fun c => (.ret, sT 27 [(4, dB false)] [])) (fun d => ((.exit 0), sT 27 [] []))
def Jj (a : (List Ad.V)) (b : (List Ad.V)) (e : Int) : Option (Int ⊕ (Unit ⊕ Unit)) :=
 bif (decide (e < (a.length : Int))) then
 if (0 : Int) ≤ e ∧ e < (a.length : Int) then
 if (0 : Int) ≤ e ∧ e < (b.length : Int) then
 (Fc (a.getD e.toNat (Ty.zero Ad)) (b.getD e.toNat (Ty.zero Ad))).bind fun g =>
 bif (!g) then
 some (.inr (.inl ()))
 else
 some (.inl (IntKind.i64.wrap (e + 1)))
 else none
 else none
 else
 some (.inr (.inr ()))
def EJ (a : (List Ad.V)) (b : (List Ad.V)) (z_ : Int) := Jj a b z_
def Kr (a : (List Ad.V)) (b : (List Ad.V)) (e : Int) := fix (EJ a b) e
theorem Abu (a : (List Ad.V)) (b : (List Ad.V)) : LpOk E119 0 4 (code Tryz.f134) [1, 1, 0, 1, 0] (Z2 a b) (EJ a b) (Aaw a b) := by
  intro _
  simp only [EJ, Jj, mC, mI, mN, mB, mE, mM]
  kernel_rfl
def Hy (a : (List Ad.V)) (b : (List Ad.V)) : Option Bool :=
 bif ((a.length : Int) != (b.length : Int)) then
 some false
 else
 (Kr a b 0).bind (Sum.elim (fun c =>
 some false) (fun d =>
 some true))
theorem U119 (R : Type) (a : (List Ad.V)) (b : (List Ad.V)) (K : AV → List Blk → Option R) : runF E119 Tryz.f134 R [dD (.sl Ad) a, dD (.sl Ad) b] [] K = (Hy a b).bind fun r => K (dB r) [] := by
  simp only [Hy, bC, bI, bN, bE, bA, bS, bO, bM]
  simp (disch := refine sI ?_ <;> (repeat' refine sA ?_ ?_) <;> intro _ <;> kernel_rfl) only [Kr, AC (Abu _ _) (K := finK E119 Tryz.f134 0 R K)]
  kernel_rfl
def c134 : Va.Callee := brC [.d (.sl Ad), .d (.sl Ad)] [⟨[.dat [] (.sl Ad), .dat [] (.sl Ad)], [], Bool, fun p => Hy p.1.1 p.1.2.1, fun r => (dB r, [])⟩]
theorem Vd : SoundC Tryz.prog 134 c134 := Ao (fn := Tryz.f134) (by kernel_rfl) (by kernel_rfl) (by kernel_rfl) ⟨⟨E119, ⟨⟨tabok, Am ⟨UY, trivial⟩⟩, mixed⟩, fun p R K => U119 R p.1.1 p.1.2.1 K⟩, trivial⟩
end
end Go.Proofs.X
namespace Go.Proofs.X
open Go Go.Va
set_option maxRecDepth 100000
noncomputable section
abbrev E120 : Env := ⟨tab, lookH [(134, c134)], { deep := true }⟩
def EM (a : Ai.V) (b : Ai.V) : Option Bool :=
 (Hy a.1 b.1).bind fun c =>
 bif (!c) then
 some false
 else
 some true
theorem U120 (R : Type) (a : Ai.V) (b : Ai.V) (K : AV → List Blk → Option R) : runF E120 Tryz.f77 R [dD Ai a, dD Ai b] [] K = (EM a b).bind fun r => K (dB r) [] := by
  simp only [EM, bC, bI, bN, bE, bA, bS, bO, bM]
  kernel_rfl
def c77 : Va.Callee := brC [.d Ai, .d Ai] [⟨[.dat [] Ai, .dat [] Ai], [], Bool, fun p => EM p.1.1 p.1.2.1, fun r => (dB r, [])⟩]
theorem T1 : SoundC Tryz.prog 77 c77 := Ao (fn := Tryz.f77) (by kernel_rfl) (by kernel_rfl) (by kernel_rfl) ⟨⟨E120, ⟨⟨tabok, Am ⟨Vd, trivial⟩⟩, mixed⟩, fun p R K => U120 R p.1.1 p.1.2.1 K⟩, trivial⟩
abbrev E121 : Env := ⟨tab, lookH [(77, c77)], { deep := true }⟩
def EX (a : Aa.V) (b : Aa.V) : Option Bool :=
 bif (a.1 != b.1) then
 some false
 else
 bif (a.2.1 != b.2.1) then
 some false
 else
 bif (a.2.2.1 != b.2.2.1) then
 some false
 else
 bif (a.2.2.2.1 != b.2.2.2.1) then
 some false
 else
 bif (a.2.2.2.2.1 != b.2.2.2.2.1) then
 some false
 else
 (EM a.2.2.2.2.2.1 b.2.2.2.2.2.1).bind fun c =>
 bif (!c) then
 some false
 else
 some true
theorem U121 (R : Type) (a : Aa.V) (b : Aa.V) (K : AV → List Blk → Option R) : runF E121 Tryz.f50 R [dD Aa a, dD Aa b] [] K = (EX a b).bind fun r => K (dB r) [] := by
  simp only [EX, bC, bI, bN, bE, bA, bS, bO, bM]
  kernel_rfl
def c50 : Va.Callee := brC [.d Aa, .d Aa] [⟨[.dat [] Aa, .dat [] Aa], [], Bool, fun p => EX p.1.1 p.1.2.1, fun r => (dB r, [])⟩]
theorem YX : SoundC Tryz.prog 50 c50 := Ao (fn := Tryz.f50) (by kernel_rfl) (by kernel_rfl) (by kernel_rfl) ⟨⟨E121, ⟨⟨tabok, Am ⟨T1, trivial⟩⟩, mixed⟩, fun p R K => U121 R p.1.1 p.1.2.1 K⟩, trivial⟩
abbrev E122 : Env := ⟨tab, lookH [(50, c50)], { deep := true, heads := [(4, { live := [0, 1, 5] })], outs := [(4, { live := [4] })] }⟩
def ZY (a : (List Aa.V)) (b : (List Aa.V)) (z_ : Int) : St := sT 27 [(0, dD (.sl Aa) a), (1, dD (.sl Aa) b), (5, dI z_)] []
def Ab8 (a : (List Aa.V)) (b : (List Aa.V)) : (Unit ⊕ Unit) → Ex × St := Sum.elim (fun c => (.ret, sT 27 [(4, dB false)] [])) (fun d => ((.exit 0), sT 27 [] []))
def Jk (a : (List Aa.V)) (b : (List Aa.V)) (e : Int) : Option (Int ⊕ (Unit ⊕ Unit)) :=
 bif (decide (e < (a.length : Int))) then
 if (0 : Int) ≤ e ∧ e < (a.length : Int) then
 if (0 : Int) ≤ e ∧ e < (b.length : Int) then
 (EX (a.getD e.toNat (Ty.zero Aa)) (b.getD e.toNat (Ty.zero Aa))).bind fun g =>
 bif (!g) then
 some (.inr (.inl ()))
 else
 some (.inl (IntKind.i64.wrap (e + 1)))
 else none
 else none
 else
 some (.inr (.inr ()))
def EB (a : (List Aa.V)) (b : (List Aa.V)) (z_ : Int) := Jk a b z_
def Kp (a : (List Aa.V)) (b : (List Aa.V)) (e : Int) := fix (EB a b) e
theorem ZA (a : (List Aa.V)) (b : (List Aa.V)) : LpOk E122 0 4 (code Tryz.f14) [1, 1, 0, 1, 0] (ZY a b) (EB a b) (Ab8 a b) := by
  intro _
  simp only [EB, Jk, mC, mI, mN, mB, mE, mM]
  kernel_rfl
def CM (a : (List Aa.V)) (b : (List Aa.V)) : Option Bool :=
 bif ((a.length : Int) != (b.length : Int)) then
 some false
 else
 (Kp a b 0).bind (Sum.elim (fun c =>
 some false) (fun d =>
 some true))
theorem U122 (R : Type) (a : (List Aa.V)) (b : (List Aa.V)) (K : AV → List Blk → Option R) : runF E122 Tryz.f14 R [dD (.sl Aa) a, dD (.sl Aa) b] [] K = (CM a b).bind fun r => K (dB r) [] := by
  simp only [CM, bC, bI, bN, bE, bA, bS, bO, bM]
  simp (disch := refine sI ?_ <;> (repeat' refine sA ?_ ?_) <;> intro _ <;> kernel_rfl) only [Kp, AC (ZA _ _) (K := finK E122 Tryz.f14 0 R K)]
  kernel_rfl
def c14 : Va.Callee := brC [.d (.sl Aa), .d (.sl Aa)] [⟨[.dat [] (.sl Aa), .dat [] (.sl Aa)], [], Bool, fun p => CM p.1.1 p.1.2.1, fun r => (dB r, [])⟩]
theorem Yr : SoundC Tryz.prog 14 c14 := Ao (fn := Tryz.f14) (by kernel_rfl) (by kernel_rfl) (by kernel_rfl) ⟨⟨E122, ⟨⟨tabok, Am ⟨YX, trivial⟩⟩, mixed⟩, fun p R K => U122 R p.1.1 p.1.2.1 K⟩, trivial⟩
abbrev E123 : Env := ⟨tab, lookH [], { deep := true }⟩
def GA (a : Ae.V) (b : Ae.V) : Bool := ((!(!(strEq a.1 b.1))) && ((!(a.2.1 != b.2.1)) && true))
theorem U123 (R : Type) (a : Ae.V) (b : Ae.V) (K : AV → List Blk → Option R) : runF E123 Tryz.f51 R [dD Ae a, dD Ae b] [] K = K (dB (GA a b)) [] := by
  have h : runF E123 Tryz.f51 R [dD Ae a, dD Ae b] [] K =
 bif (!(strEq a.1 b.1)) then
 K (dB false) []
 else
 bif (a.2.1 != b.2.1) then
 K (dB false) []
 else
 K (dB true) [] := by kernel_rfl
  rw [h]
  unfold GA
  cases h1 : (!(strEq a.1 b.1))
  · cases h2 : (a.2.1 != b.2.1)
    · first | rfl | kernel_rfl
    · first | rfl | kernel_rfl
  · first | rfl | kernel_rfl
def c51 : Va.Callee := brC [.d Ae, .d Ae] [⟨[.dat [] Ae, .dat [] Ae], [], Bool, fun p => some (GA p.1.1 p.1.2.1), fun r => (dB r, [])⟩]
theorem XQ : SoundC Tryz.prog 51 c51 := Ao (fn := Tryz.f51) (by kernel_rfl) (by kernel_rfl) (by kernel_rfl) ⟨⟨E123, ⟨⟨tabok, Am trivial⟩, mixed⟩, fun p R K => U123 R p.1.1 p.1.2.1 K⟩, trivial⟩
abbrev E124 : Env := ⟨tab, lookH [(51, c51)], { deep := true, heads := [(4, { live := [0, 1, 5] })], outs := [(4, { live := [4] })] }⟩
def Abl (a : (List Ae.V)) (b : (List Ae.V)) (z_ : Int) : St := sT 27 [(0, dD (.sl Ae) a), (1, dD (.sl Ae) b), (5, dI z_)] []
def Aap (a : (List Ae.V)) (b : (List Ae.V)) : (Unit ⊕ Unit) → Ex × St := Sum.elim (fun c => (.ret, sT 27 [(4, dB false)] [])) (fun d => ((.exit 0), sT 27 [] []))
def J5 (a : (List Ae.V)) (b : (List Ae.V)) (e : Int) : Option (Int ⊕ (Unit ⊕ Unit)) :=
 bif (decide (e < (a.length : Int))) then
 if (0 : Int) ≤ e ∧ e < (a.length : Int) then
 if (0 : Int) ≤ e ∧ e < (b.length : Int) then
 bif (!(GA (a.getD e.toNat (Ty.zero Ae)) (b.getD e.toNat (Ty.zero Ae)))) then
 some (.inr (.inl ()))
 else
 some (.inl (IntKind.i64.wrap (e + 1)))
 else none
 else none
 else
 some (.inr (.inr ()))
def Fv (a : (List Ae.V)) (b : (List Ae.V)) (z_ : Int) := J5 a b z_
def KG (a : (List Ae.V)) (b : (List Ae.V)) (e : Int) := fix (Fv a b) e
theorem Zu (a : (List Ae.V)) (b : (List Ae.V)) : LpOk E124 0 4 (code Tryz.f15) [1, 1, 0, 1, 0] (Abl a b) (Fv a b) (Aap a b) := by
  intro _
  simp only [Fv, J5, mC, mI, mN, mB, mE, mM]
  kernel_rfl
def Il (a : (List Ae.V)) (b : (List Ae.V)) : Option Bool :=
 bif ((a.length : Int) != (b.length : Int)) then
 some false
 else
 (KG a b 0).bind (Sum.elim (fun c =>
 some false) (fun d =>
 some true))
theorem U124 (R : Type) (a : (List Ae.V)) (b : (List Ae.V)) (K : AV → List Blk → Option R) : runF E124 Tryz.f15 R [dD (.sl Ae) a, dD (.sl Ae) b] [] K = (Il a b).bind fun r => K (dB r) [] := by
  simp only [Il, bC, bI, bN, bE, bA, bS, bO, bM]
  simp (disch := refine sI ?_ <;> (repeat' refine sA ?_ ?_) <;> intro _ <;> kernel_rfl) only [KG, AC (Zu _ _) (K := finK E124 Tryz.f15 0 R K)]
  kernel_rfl
def c15 : Va.Callee := brC [.d (.sl Ae), .d (.sl Ae)] [⟨[.dat [] (.sl Ae), .dat [] (.sl Ae)], [], Bool, fun p => Il p.1.1 p.1.2.1, fun r => (dB r, [])⟩]
theorem YZ : SoundC Tryz.prog 15 c15 := Ao (fn := Tryz.f15) (by kernel_rfl) (by kernel_rfl) (by kernel_rfl) ⟨⟨E124, ⟨⟨tabok, Am ⟨XQ, trivial⟩⟩, mixed⟩, fun p R K => U124 R p.1.1 p.1.2.1 K⟩, trivial⟩
abbrev E125 : Env := ⟨tab, lookH [(77, c77)], { deep := true }⟩
def C9 (a : Af.V) (b : Af.V) : Option Bool :=
 bif (a.1 != b.1) then
 some false
 else
 bif (!(a.2.1 == b.2.1)) then
 some false
 else
 (EM a.2.2.1 b.2.2.1).bind fun c =>
 bif (!c) then
 some false
 else
 (EM a.2.2.2.1 b.2.2.2.1).bind fun d =>
 bif (!d) then
 some false
 else
 some true
theorem U125 (R : Type) (a : Af.V) (b : Af.V) (K : AV → List Blk → Option R) : runF E125 Tryz.f28 R [dD Af a, dD Af b] [] K = (C9 a b).bind fun r => K (dB r) [] := by
  simp only [C9, bC, bI, bN, bE, bA, bS, bO, bM]
  kernel_rfl
def c28 : Va.Callee := brC [.d Af, .d Af] [⟨[.dat [] Af, .dat [] Af], [], Bool, fun p => C9 p.1.1 p.1.2.1, fun r => (dB r, [])⟩]
theorem Zh : SoundC Tryz.prog 28 c28 := Ao (fn := Tryz.f28) (by kernel_rfl) (by kernel_rfl) (by kernel_rfl) ⟨⟨E125, ⟨⟨tabok, Am ⟨T1, trivial⟩⟩, mixed⟩, fun p R K => U125 R p.1.1 p.1.2.1 K⟩, trivial⟩
abbrev E126 : Env := ⟨tab, lookH [(28, c28)], { deep := true, heads := [(4, { live := [0, 1, 5] })], outs := [(4, { live := [4] })] }⟩
def AbD (a : (List Af.V)) (b : (List Af.V)) (z_ : Int) : St := sT 27 [(0, dD (.sl Af) a), (1, dD (.sl Af) b), (5, dI z_)] []
def Ack (a : (List Af.V)) (b : (List Af.V)) : (Unit ⊕ Unit) → Ex × St := Sum.elim (fun c => (.ret, sT 27 [(4, dB false)] [])) (fun d => ((.exit 0), sT 27 [] []))
def IE (a : (List Af.V)) (b : (List Af.V)) (e : Int) : Option (Int ⊕ (Unit ⊕ Unit)) :=
 bif (decide (e < (a.length : Int))) then
 if (0 : Int) ≤ e ∧ e < (a.length : Int) then
 if (0 : Int) ≤ e ∧ e < (b.length : Int) then
 (C9 (a.getD e.toNat (Ty.zero Af)) (b.getD e.toNat (Ty.zero Af))).bind fun g =>
 bif (!g) then
 some (.inr (.inl ()))
 else
 some (.inl (IntKind.i64.wrap (e + 1)))
 else none
 else none
 else
 some (.inr (.inr ()))
def De (a : (List Af.V)) (b : (List Af.V)) (z_ : Int) := IE a b z_
def Jp (a : (List Af.V)) (b : (List Af.V)) (e : Int) := fix (De a b) e
theorem Abm (a : (List Af.V)) (b : (List Af.V)) : LpOk E126 0 4 (code Tryz.f16) [1, 1, 0, 1, 0] (AbD a b) (De a b) (Ack a b) := by
  intro _
  simp only [De, IE, mC, mI, mN, mB, mE, mM]
  kernel_rfl
def Fb (a : (List Af.V)) (b : (List Af.V)) : Option Bool :=
 bif ((a.length : Int) != (b.length : Int)) then
 some false
 else
 (Jp a b 0).bind (Sum.elim (fun c =>
 some false) (fun d =>
 some true))
theorem U126 (R : Type) (a : (List Af.V)) (b : (List Af.V)) (K : AV → List Blk → Option R) : runF E126 Tryz.f16 R [dD (.sl Af) a, dD (.sl Af) b] [] K = (Fb a b).bind fun r => K (dB r) [] := by
  simp only [Fb, bC, bI, bN, bE, bA, bS, bO, bM]
  simp (disch := refine sI ?_ <;> (repeat' refine sA ?_ ?_) <;> intro _ <;> kernel_rfl) only [Jp, AC (Abm _ _) (K := finK E126 Tryz.f16 0 R K)]
  kernel_rfl
def c16 : Va.Callee := brC [.d (.sl Af), .d (.sl Af)] [⟨[.dat [] (.sl Af), .dat [] (.sl Af)], [], Bool, fun p => Fb p.1.1 p.1.2.1, fun r => (dB r, [])⟩]
theorem XJ : SoundC Tryz.prog 16 c16 := Ao (fn := Tryz.f16) (by kernel_rfl) (by kernel_rfl) (by kernel_rfl) ⟨⟨E126, ⟨⟨tabok, Am ⟨Zh, trivial⟩⟩, mixed⟩, fun p R K => U126 R p.1.1 p.1.2.1 K⟩, trivial⟩
abbrev E127 : Env := ⟨tab, lookH [], { deep := true, heads := [(4, { live := [0, 3] })], outs := [(4, { live := [3] })] }⟩
def Aas (z_ : (Int × ByteArray)) : St := sT 20 [(0, dI z_.1), (3, dD .str z_.2)] []
def AbL : ByteArray → Ex × St := fun a => ((.exit 0), sT 20 [(3, dD .str a)] [])
def GQ (b : Int) (c : ByteArray) : Option ((Int × ByteArray) ⊕ ByteArray) :=
 bif (decide (b > 0)) then
 if (bytesOf ([(IntKind.u8.wrap (IntKind.i64.wrap (48 + (Int.tmod b 10))))] : List Int)).size + c.size ≤ 9223372036854775807 then
 some (.inl ((IntKind.i64.wrap (Int.tdiv b 10)), ((bytesOf ([(IntKind.u8.wrap (IntKind.i64.wrap (48 + (Int.tmod b 10))))] : List Int)) ++ c)))
 else none
 else
 some (.inr c)
def Er (z_ : (Int × ByteArray)) := GQ z_.1 z_.2
def IA (b : Int) (c : ByteArray) := fix (Er) (b, c)
theorem Aao : LpOk E127 0 4 (code Tryz.f52) [1, 1, 1, 0, 0] (Aas) (Er) (AbL) := by
  intro _
  simp only [Er, GQ, mC, mI, mN, mB, mE, mM]
  kernel_rfl
def Fu (d : Int) : Option ByteArray :=
 bif (decide (d ≤ 0)) then
 some (⟨#[109, 48]⟩ : ByteArray)
 else
 (IA d (⟨#[]⟩ : ByteArray)).bind fun a =>
 if (⟨#[109]⟩ : ByteArray).size + a.size ≤ 9223372036854775807 then
 some ((⟨#[109]⟩ : ByteArray) ++ a)
 else none
theorem U127 (R : Type) (d : Int) (K : AV → List Blk → Option R) : runF E127 Tryz.f52 R [dI d] [] K = (Fu d).bind fun r => K (dD .str r) [] := by
  simp only [Fu, bC, bI, bN, bE, bA, bS, bO, bM]
  simp (disch := refine sI ?_ <;> (repeat' refine sA ?_ ?_) <;> intro _ <;> kernel_rfl) only [IA, AC (Aao) (K := finK E127 Tryz.f52 0 R K)]
  kernel_rfl
def c52 : Va.Callee := brC [.d (.int .i64)] [⟨[.dat [] (.int .i64)], [], ByteArray, fun p => Fu p.1.1, fun r => (dD .str r, [])⟩]
theorem Xw : SoundC Tryz.prog 52 c52 := Ao (fn := Tryz.f52) (by kernel_rfl) (by kernel_rfl) (by kernel_rfl) ⟨⟨E127, ⟨⟨tabok, Am trivial⟩, mixed⟩, fun p R K => U127 R p.1.1 K⟩, trivial⟩
end
end Go.Proofs.X
