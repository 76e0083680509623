import Derived.KernelRfl
import Derived.Test.YtgdiapoacpahdaaGreatK9
set_option linter.unusedVariables false
set_option linter.unusedSimpArgs false
namespace Go.Proofs.X
open Go Go.Va
set_option maxRecDepth 100000
noncomputable section
abbrev E64 : Env := ⟨tab, lookH [(232, c232)], { deep := true }⟩
def DF (a : (List Ae.V)) (b : ByteArray) : Option Int :=
 (BM a 0 b).bind fun c =>
 some c.1
theorem U64 (R : Type) (a : (List Ae.V)) (b : ByteArray) (K : AV → List Blk → Option R) : runF E64 Tryz.f203 R [dD (.sl Ae) a, dD .str b] [] K = (DF a b).bind fun r => K (dI r) [] := by
  simp only [DF, bC, bI, bN, bE, bA, bS, bO, bM]
  kernel_rfl
def c203 : Va.Callee := brC [.d (.sl Ae), .d .str] [⟨[.dat [] (.sl Ae), .dat [] .str], [], Int, fun p => DF p.1.1 p.1.2.1, fun r => (dI r, [])⟩]
theorem Wy : SoundC Tryz.prog 203 c203 := Ao (fn := Tryz.f203) (by kernel_rfl) (by kernel_rfl) (by kernel_rfl) ⟨⟨E64, ⟨⟨tabok, Am ⟨Vs, trivial⟩⟩, mixed⟩, fun p R K => U64 R p.1.1 p.1.2.1 K⟩, trivial⟩
abbrev E65 : Env := ⟨tab, lookH [(170, c170), (202, c202), (203, c203)], { deep := true, heads := [(5, { live := [0, 3, 9, 10, 11] })], outs := [(5, { live := [2, 3] })], joins := [(8, { live := [0, 3, 5, 9, 10, 11, 34] })], ents := [(8, [0, 3, 4, 5, 9, 10, 11])] }⟩
def AhN (a : (List Ae.V)) (b : Int) (z_ : (Int × Int)) : St := sT 42 [(0, dD (.sl Ae) a), (3, dI z_.1), (9, dD (.sl Ae) a), (10, dI b), (11, dI z_.2)] []
def Ahb (a : (List Ae.V)) (b : Int) : (Int ⊕ Int) → Ex × St := Sum.elim (fun c => (.ret, sT 42 [(2, dB false), (3, dI c)] [])) (fun d => ((.exit 0), sT 42 [(3, dI d)] []))
def Afi (a : (List Ae.V)) (e : Int) (g : Int) (b : Int) (i : Ae.V) : St := sT 42 [(0, dD (.sl Ae) a), (3, dI e), (4, dI g), (5, .ptr 0 0 [] 0), (9, dD (.sl Ae) a), (10, dI b), (11, dI g)] [.box (dD Ae i)]
def Aio (a : (List Ae.V)) (e : Int) (g : Int) (b : Int) (i : Ae.V) : Bool → Ex × St := fun j => (.normal, sT 42 [(0, dD (.sl Ae) a), (3, dI e), (5, .ptr 0 0 [] 0), (9, dD (.sl Ae) a), (10, dI b), (11, dI g), (34, dB j)] [.box (dD Ae i)])
def GU (a : (List Ae.V)) (e : Int) (g : Int) (b : Int) (i : Ae.V) : Option Bool :=
 (GE i.1).bind fun k =>
 bif (!k) then
 some true
 else
 bif (!(Ap i.2.1 1 4096)) then
 some true
 else
 if (0 : Int) ≤ (0 : Int) ∧ (0 : Int) ≤ g ∧ g ≤ (a.length : Int) then
 (DF ((a.take g.toNat).drop 0) i.1).bind fun l =>
 some (decide (l ≥ 0))
 else none
theorem Ahk (a : (List Ae.V)) (e : Int) (g : Int) (b : Int) (i : Ae.V) : JnOk E65 0 8 (sub (code Tryz.f167) [1, 1, 1, 0, 1, 0, 0]) [1, 1, 0, 0, 1, 0, 0] (Afi a e g b i) (GU a e g b i) (Aio a e g b i) := by
  unfold JnOk
  simp only [GU, mC, mI, mN, mB, mE, mM]
  kernel_rfl
def Fn (a : (List Ae.V)) (b : Int) (e : Int) (g : Int) : Option ((Int × Int) ⊕ (Int ⊕ Int)) :=
 bif (decide (g < b)) then
 if (0 : Int) ≤ g ∧ g < (a.length : Int) then
 (GU a e g b (a.getD g.toNat (Ty.zero Ae))).bind fun j =>
 bif j then
 some (.inr (.inl e))
 else
 some (.inl ((IntKind.i64.wrap (e + (a.getD g.toNat (Ty.zero Ae)).2.1)), (IntKind.i64.wrap (g + 1))))
 else none
 else
 some (.inr (.inr e))
def Dq (a : (List Ae.V)) (b : Int) (z_ : (Int × Int)) := Fn a b z_.1 z_.2
def IW (a : (List Ae.V)) (b : Int) (e : Int) (g : Int) := fix (Dq a b) (e, g)
theorem Adg (a : (List Ae.V)) (b : Int) : LpOk E65 0 5 (code Tryz.f167) [1, 1, 1, 0, 1, 0] (AhN a b) (Dq a b) (Ahb a b) := by
  intro _
  simp only [Dq, Fn, mC, mI, mN, mB, mE, mM]
  simp (disch := refine sI ?_ <;> (repeat' refine sA ?_ ?_) <;> intro _ <;> kernel_rfl) only [AX (Ahk _ _ _ _ _) (K := stepK 0 (E65.hd 5) (E65.ot 5))]
  kernel_rfl
def EP (a : (List Ae.V)) : Option Bool :=
 bif (decide ((a.length : Int) > 60)) then
 some false
 else
 (IW a (a.length : Int) 0 0).bind (Sum.elim (fun c =>
 some false) (fun d =>
 some (decide (d ≤ 20000))))
theorem U65 (R : Type) (a : (List Ae.V)) (K : AV → List Blk → Option R) : runF E65 Tryz.f167 R [dD (.sl Ae) a] [] K = (EP a).bind fun r => K (dB r) [] := by
  simp only [EP, bC, bI, bN, bE, bA, bS, bO, bM]
  simp (disch := refine sI ?_ <;> (repeat' refine sA ?_ ?_) <;> intro _ <;> kernel_rfl) only [IW, AC (Adg _ _) (K := finK E65 Tryz.f167 0 R K)]
  kernel_rfl
def c167 : Va.Callee := brC [.d (.sl Ae)] [⟨[.dat [] (.sl Ae)], [], Bool, fun p => EP p.1.1, fun r => (dB r, [])⟩]
theorem RB : SoundC Tryz.prog 167 c167 := Ao (fn := Tryz.f167) (by kernel_rfl) (by kernel_rfl) (by kernel_rfl) ⟨⟨E65, ⟨⟨tabok, Am ⟨Jw, WJ, Wy, trivial⟩⟩, mixed⟩, fun p R K => U65 R p.1.1 K⟩, trivial⟩
abbrev E66 : Env := ⟨tab, lookH [], { deep := true }⟩
def AM (a : Int) : Int := (IntKind.i64.wrap (Int.tdiv (IntKind.i64.wrap (a + 63)) 64))
theorem U66 (R : Type) (a : Int) (K : AV → List Blk → Option R) : runF E66 Tryz.f237 R [dI a] [] K = K (dI (AM a)) [] := by
  kernel_rfl
def c237 : Va.Callee := brC [.d (.int .i64)] [⟨[.dat [] (.int .i64)], [], Int, fun p => some (AM p.1.1), fun r => (dI r, [])⟩]
theorem Rr : SoundC Tryz.prog 237 c237 := Ao (fn := Tryz.f237) (by kernel_rfl) (by kernel_rfl) (by kernel_rfl) ⟨⟨E66, ⟨⟨tabok, Am trivial⟩, mixed⟩, fun p R K => U66 R p.1.1 K⟩, trivial⟩
abbrev E67 : Env := ⟨tab, lookH [(170, c170), (237, c237)], { deep := true, joins := [(2, { live := [1, 16] })], ents := [(2, [1])] }⟩
def Zl (a : Aj.V) : St := sT 35 [(1, .ptr 0 0 [] 0)] [.box (dD Aj a)]
def YH (a : Aj.V) (m0 : Bool) : Ex × St := (.normal, sT 35 [(1, .ptr 0 0 [] 0), (16, dB m0)] [.box (dD Aj a)])
theorem Aia (a : Aj.V) : jnS E67 0 2 (code Tryz.f244) [1, 0, 0] (Zl a) = some (YH a ((!(Ap a.1 1 4096)) || ((a.2.1.length : Int) != (AM a.1)))) := by
  have h0 : jnS E67 0 2 (code Tryz.f244) [1, 0, 0] (Zl a) =
 bif (!(Ap a.1 1 4096)) then
 some (YH a true)
 else
 some (YH a ((a.2.1.length : Int) != (AM a.1))) := by kernel_rfl
  rw [h0]
  cases h1 : (!(Ap a.1 1 4096))
  · first | rfl | kernel_rfl
  · first | rfl | kernel_rfl
def DG (a : Aj.V) : Option Bool :=
 mkr (Zl a) (
 bif ((!(Ap a.1 1 4096)) || ((a.2.1.length : Int) != (AM a.1))) then
 some false
 else
 bif ((Int.tmod a.1 64) == 0) then
 some true
 else
 if (0 : Int) ≤ (IntKind.i64.wrap ((a.2.1.length : Int) - 1)) ∧ (IntKind.i64.wrap ((a.2.1.length : Int) - 1)) < (a.2.1.length : Int) then
 if (Int.tmod a.1 64) < (0 : Int) then none else
 some ((shrI .u64 (a.2.1.getD (IntKind.i64.wrap ((a.2.1.length : Int) - 1)).toNat (Ty.zero (.int .u64))) (Int.tmod a.1 64)) == 0)
 else none)
theorem U67 (R : Type) (a : Aj.V) (K : AV → List Blk → Option R) : runF E67 Tryz.f244 R [dD Aj a] [] K = (DG a).bind fun r => K (dB r) [] := by
  simp only [DG, bC, bI, bN, bE, bA, bS, bO, bM]
  simp (disch := refine sI ?_ <;> (repeat' refine sA ?_ ?_) <;> intro _ <;> kernel_rfl) only [DB (Aia _) (K := finK E67 Tryz.f244 0 R K)]
  kernel_rfl
def c244 : Va.Callee := brC [.d Aj] [⟨[.dat [] Aj], [], Bool, fun p => DG p.1.1, fun r => (dB r, [])⟩]
theorem Q5 : SoundC Tryz.prog 244 c244 := Ao (fn := Tryz.f244) (by kernel_rfl) (by kernel_rfl) (by kernel_rfl) ⟨⟨E67, ⟨⟨tabok, Am ⟨Jw, Rr, trivial⟩⟩, mixed⟩, fun p R K => U67 R p.1.1 K⟩, trivial⟩
abbrev E68 : Env := ⟨tab, lookH [(170, c170), (244, c244)], { deep := true, heads := [(11, { live := [8, 80, 81, 82] })], outs := [(11, { live := [8] })], joins := [(4, { live := [0, 1, 2, 7] }), (5, { live := [0, 1, 2, 7, 17] }), (7, { live := [0, 2, 7, 46] }), (9, { live := [0, 2, 7, 69] }), (19, { live := [0, 7, 95] }), (21, { live := [0, 7, 137] }), (23, { live := [0, 7, 163] }), (25, { live := [0, 7, 184] })], ents := [(4, [0, 1, 2, 7]), (5, [0, 1, 2, 7]), (7, [0, 2, 7]), (9, [0, 2, 7]), (19, [0, 7]), (21, [0, 7]), (23, [0, 7]), (25, [0, 7])] }⟩
def XO (a : Ad.V) (b : Int) : St := sT 203 [(0, .rop [] Ad a), (7, dI b)] []
def Zo (a : Ad.V) (b : Int) (m0 : Bool) : Ex × St := (.normal, sT 203 [(0, .rop [] Ad a), (7, dI b), (184, dB m0)] [])
theorem Ahd (a : Ad.V) (b : Int) : jnS E68 0 25 (code Tryz.f234) [1, 1, 1, 0, 0, 1, 1, 1, 1, 1, 1, 1, 1, 1, 1, 1, 1, 1, 1, 0] (XO a b) = some (Zo a b ((a.1 == 9) && (Ap a.2.2.1 1 4096))) := by
  have h0 : jnS E68 0 25 (code Tryz.f234) [1, 1, 1, 0, 0, 1, 1, 1, 1, 1, 1, 1, 1, 1, 1, 1, 1, 1, 1, 0] (XO a b) =
 bif (a.1 == 9) then
 some (Zo a b (Ap a.2.2.1 1 4096))
 else
 some (Zo a b false) := by kernel_rfl
  rw [h0]
  cases h1 : (a.1 == 9)
  · first | rfl | kernel_rfl
  · first | rfl | kernel_rfl
def Xk (a : Ad.V) (b : Int) : St := sT 203 [(0, .rop [] Ad a), (7, dI b)] []
def Wv (a : Ad.V) (b : Int) (m0 : Bool) : Ex × St := (.normal, sT 203 [(0, .rop [] Ad a), (7, dI b), (163, dB m0)] [])
theorem Ahn (a : Ad.V) (b : Int) : jnS E68 0 23 (code Tryz.f234) [1, 1, 1, 0, 0, 1, 1, 1, 1, 1, 1, 1, 1, 1, 1, 1, 1, 0] (Xk a b) = some (Wv a b (bif (a.1 == 7) then (Ap a.2.2.1 0 4096) else ((a.1 == 8) && (Ap a.2.2.1 0 4096)))) := by
  have h0 : jnS E68 0 23 (code Tryz.f234) [1, 1, 1, 0, 0, 1, 1, 1, 1, 1, 1, 1, 1, 1, 1, 1, 1, 0] (Xk a b) =
 bif (a.1 == 7) then
 some (Wv a b (Ap a.2.2.1 0 4096))
 else
 bif (a.1 == 8) then
 some (Wv a b (Ap a.2.2.1 0 4096))
 else
 some (Wv a b false) := by kernel_rfl
  rw [h0]
  cases h1 : (a.1 == 7)
  · cases h2 : (a.1 == 8)
    · first | rfl | kernel_rfl
    · first | rfl | kernel_rfl
  · first | rfl | kernel_rfl
def YI (a : Ad.V) (b : Int) : St := sT 203 [(0, .rop [] Ad a), (7, dI b)] []
def Vz (a : Ad.V) (b : Int) (m0 : Bool) : Ex × St := (.normal, sT 203 [(0, .rop [] Ad a), (7, dI b), (137, dB m0)] [])
theorem AfW (a : Ad.V) (b : Int) : jnS E68 0 21 (code Tryz.f234) [1, 1, 1, 0, 0, 1, 1, 1, 1, 1, 1, 1, 1, 1, 1, 0] (YI a b) = some (Vz a b (bif (a.1 == 5) then (Ap a.2.2.1 0 4096) else ((a.1 == 6) && (Ap a.2.2.1 0 4096)))) := by
  have h0 : jnS E68 0 21 (code Tryz.f234) [1, 1, 1, 0, 0, 1, 1, 1, 1, 1, 1, 1, 1, 1, 1, 0] (YI a b) =
 bif (a.1 == 5) then
 some (Vz a b (Ap a.2.2.1 0 4096))
 else
 bif (a.1 == 6) then
 some (Vz a b (Ap a.2.2.1 0 4096))
 else
 some (Vz a b false) := by kernel_rfl
  rw [h0]
  cases h1 : (a.1 == 5)
  · cases h2 : (a.1 == 6)
    · first | rfl | kernel_rfl
    · first | rfl | kernel_rfl
  · first | rfl | kernel_rfl
def XV (a : Ad.V) (b : Int) : St := sT 203 [(0, .rop [] Ad a), (7, dI b)] []
def TW (a : Ad.V) (b : Int) (m0 : Bool) : Ex × St := (.normal, sT 203 [(0, .rop [] Ad a), (7, dI b), (95, dB m0)] [])
theorem AdI (a : Ad.V) (b : Int) : jnS E68 0 19 (code Tryz.f234) [1, 1, 1, 0, 0, 1, 1, 1, 1, 1, 1, 1, 1, 0] (XV a b) = some (TW a b ((a.1 == 4) && ((decide (a.2.2.2.1 ≥ 0)) && ((decide (a.2.2.2.1 ≤ a.2.2.1)) && (decide (a.2.2.1 < b)))))) := by
  have h0 : jnS E68 0 19 (code Tryz.f234) [1, 1, 1, 0, 0, 1, 1, 1, 1, 1, 1, 1, 1, 0] (XV a b) =
 bif (a.1 == 4) then
 bif (decide (a.2.2.2.1 ≥ 0)) then
 bif (decide (a.2.2.2.1 ≤ a.2.2.1)) then
 some (TW a b (decide (a.2.2.1 < b)))
 else
 some (TW a b false)
 else
 some (TW a b false)
 else
 some (TW a b false) := by kernel_rfl
  rw [h0]
  cases h1 : (a.1 == 4)
  · first | rfl | kernel_rfl
  · cases h2 : (decide (a.2.2.2.1 ≥ 0))
    · first | rfl | kernel_rfl
    · cases h3 : (decide (a.2.2.2.1 ≤ a.2.2.1))
      · first | rfl | kernel_rfl
      · first | rfl | kernel_rfl
def AhE (c : (List Int)) (d : Int) (z_ : (Int × Int)) : St := sT 203 [(8, dI z_.1), (80, dD (.sl (.int .i64)) c), (81, dI d), (82, dI z_.2)] []
def AeY (c : (List Int)) (d : Int) : Int → Ex × St := fun e => ((.exit 1), sT 203 [(8, dI e)] [])
def CQ (c : (List Int)) (d : Int) (g : Int) (i : Int) : Option ((Int × Int) ⊕ Int) :=
 bif (decide (i < d)) then
 if (0 : Int) ≤ i ∧ i < (c.length : Int) then
 some (.inl ((IntKind.i64.wrap (g + (c.getD i.toNat (Ty.zero (.int .i64))))), (IntKind.i64.wrap (i + 1))))
 else none
 else
 some (.inr g)
def AN (c : (List Int)) (d : Int) (z_ : (Int × Int)) := CQ c d z_.1 z_.2
def GB (c : (List Int)) (d : Int) (g : Int) (i : Int) := fix (AN c d) (g, i)
theorem Agi (c : (List Int)) (d : Int) : LpOk E68 0 11 (code Tryz.f234) [1, 1, 1, 0, 0, 1, 1, 1, 1, 1, 0, 1, 0, 1, 0] (AhE c d) (AN c d) (AeY c d) := by
  intro _
  simp only [AN, CQ, mC, mI, mN, mB, mE, mM]
  kernel_rfl
def XS (a : Ad.V) (c : (List Int)) (b : Int) : St := sT 203 [(0, .rop [] Ad a), (2, dD (.sl (.int .i64)) c), (7, dI b)] []
def YN (a : Ad.V) (c : (List Int)) (b : Int) (m0 : Bool) : Ex × St := (.normal, sT 203 [(0, .rop [] Ad a), (2, dD (.sl (.int .i64)) c), (7, dI b), (69, dB m0)] [])
theorem Ah5 (a : Ad.V) (c : (List Int)) (b : Int) : jnS E68 0 9 (code Tryz.f234) [1, 1, 1, 0, 0, 1, 1, 1, 1, 0] (XS a c b) = some (YN a c b ((a.1 == 3) && (decide ((c.length : Int) > 1)))) := by
  have h0 : jnS E68 0 9 (code Tryz.f234) [1, 1, 1, 0, 0, 1, 1, 1, 1, 0] (XS a c b) =
 bif (a.1 == 3) then
 some (YN a c b (decide ((c.length : Int) > 1)))
 else
 some (YN a c b false) := by kernel_rfl
  rw [h0]
  cases h1 : (a.1 == 3)
  · first | rfl | kernel_rfl
  · first | rfl | kernel_rfl
def Aeo (a : Ad.V) (c : (List Int)) (b : Int) : St := sT 203 [(0, .rop [] Ad a), (2, dD (.sl (.int .i64)) c), (7, dI b)] []
def Aif (a : Ad.V) (c : (List Int)) (b : Int) : Bool → Ex × St := fun j => (.normal, sT 203 [(0, .rop [] Ad a), (2, dD (.sl (.int .i64)) c), (7, dI b), (46, dB j)] [])
def Cs (a : Ad.V) (c : (List Int)) (b : Int) : Option Bool :=
 bif (a.1 == 2) then
 bif ((c.length : Int) == 0) then
 (DG a.2.2.2.2.1).bind fun k =>
 some k
 else
 some false
 else
 some false
theorem Ae8 (a : Ad.V) (c : (List Int)) (b : Int) : JnOk E68 0 7 (code Tryz.f234) [1, 1, 1, 0, 0, 1, 1, 0] (Aeo a c b) (Cs a c b) (Aif a c b) := by
  unfold JnOk
  simp only [Cs, mC, mI, mN, mB, mE, mM]
  kernel_rfl
def XU (a : Ad.V) (l : (List Ae.V)) (c : (List Int)) (b : Int) : St := sT 203 [(0, .rop [] Ad a), (1, dD (.sl Ae) l), (2, dD (.sl (.int .i64)) c), (7, dI b)] []
def Vy (a : Ad.V) (l : (List Ae.V)) (c : (List Int)) (b : Int) (m0 : Bool) : Ex × St := (.normal, sT 203 [(0, .rop [] Ad a), (1, dD (.sl Ae) l), (2, dD (.sl (.int .i64)) c), (7, dI b), (17, dB m0)] [])
theorem Ad7 (a : Ad.V) (l : (List Ae.V)) (c : (List Int)) (b : Int) : jnS E68 0 5 (code Tryz.f234) [1, 1, 1, 0, 0, 0] (XU a l c b) = some (Vy a l c b ((a.1 == 1) && (((c.length : Int) == 0) && (Ap a.2.1 0 (IntKind.i64.wrap ((l.length : Int) - 1)))))) := by
  have h0 : jnS E68 0 5 (code Tryz.f234) [1, 1, 1, 0, 0, 0] (XU a l c b) =
 bif (a.1 == 1) then
 bif ((c.length : Int) == 0) then
 some (Vy a l c b (Ap a.2.1 0 (IntKind.i64.wrap ((l.length : Int) - 1))))
 else
 some (Vy a l c b false)
 else
 some (Vy a l c b false) := by kernel_rfl
  rw [h0]
  cases h1 : (a.1 == 1)
  · first | rfl | kernel_rfl
  · cases h2 : ((c.length : Int) == 0)
    · first | rfl | kernel_rfl
    · first | rfl | kernel_rfl
def Afs (a : Ad.V) (l : (List Ae.V)) (c : (List Int)) : St := sT 203 [(0, .rop [] Ad a), (1, dD (.sl Ae) l), (2, dD (.sl (.int .i64)) c), (7, dI 0)] []
def Ac8 (a : Ad.V) (l : (List Ae.V)) (c : (List Int)) : Int → Ex × St := fun b => (.normal, sT 203 [(0, .rop [] Ad a), (1, dD (.sl Ae) l), (2, dD (.sl (.int .i64)) c), (7, dI b)] [])
def Cx (a : Ad.V) (l : (List Ae.V)) (c : (List Int)) : Option Int :=
 bif (decide ((c.length : Int) > 0)) then
 if (0 : Int) ≤ (0 : Int) ∧ (0 : Int) < (c.length : Int) then
 some (c.getD 0 (Ty.zero (.int .i64)))
 else none
 else
 some 0
theorem Adb (a : Ad.V) (l : (List Ae.V)) (c : (List Int)) : JnOk E68 0 4 (code Tryz.f234) [1, 1, 0] (Afs a l c) (Cx a l c) (Ac8 a l c) := by
  unfold JnOk
  simp only [Cx, mC, mI, mN, mB, mE, mM]
  kernel_rfl
def B3 (a : Ad.V) (l : (List Ae.V)) (c : (List Int)) : Option Int :=
 (Cx a l c).bind fun b =>
 mkr (XU a l c b) (
 bif ((a.1 == 1) && (((c.length : Int) == 0) && (Ap a.2.1 0 (IntKind.i64.wrap ((l.length : Int) - 1))))) then
 if (0 : Int) ≤ a.2.1 ∧ a.2.1 < (l.length : Int) then
 some (l.getD a.2.1.toNat (Ty.zero Ae)).2.1
 else none
 else
 (Cs a c b).bind fun j =>
 bif j then
 some a.2.2.2.2.1.1
 else
 mkr (XS a c b) (
 bif ((a.1 == 3) && (decide ((c.length : Int) > 1))) then
 (GB c (c.length : Int) 0 0).bind fun e =>
 some e
 else
 bif ((c.length : Int) != 1) then
 some (-1)
 else
 mkr (XV a b) (
 bif ((a.1 == 4) && ((decide (a.2.2.2.1 ≥ 0)) && ((decide (a.2.2.2.1 ≤ a.2.2.1)) && (decide (a.2.2.1 < b))))) then
 some (IntKind.i64.wrap ((IntKind.i64.wrap (a.2.2.1 - a.2.2.2.1)) + 1))
 else
 mkr (YI a b) (
 bif (bif (a.1 == 5) then (Ap a.2.2.1 0 4096) else ((a.1 == 6) && (Ap a.2.2.1 0 4096))) then
 some (IntKind.i64.wrap (b + a.2.2.1))
 else
 mkr (Xk a b) (
 bif (bif (a.1 == 7) then (Ap a.2.2.1 0 4096) else ((a.1 == 8) && (Ap a.2.2.1 0 4096))) then
 some b
 else
 mkr (XO a b) (
 bif ((a.1 == 9) && (Ap a.2.2.1 1 4096)) then
 some (IntKind.i64.wrap (b * a.2.2.1))
 else
 some (-1)))))))
theorem U68 (R : Type) (a : Ad.V) (l : (List Ae.V)) (c : (List Int)) (K : AV → List Blk → Option R) : runF E68 Tryz.f234 R [.rop [] Ad a, dD (.sl Ae) l, dD (.sl (.int .i64)) c] [] K = (B3 a l c).bind fun r => K (dI r) [] := by
  simp only [B3, bC, bI, bN, bE, bA, bS, bO, bM]
  simp (disch := refine sI ?_ <;> (repeat' refine sA ?_ ?_) <;> intro _ <;> kernel_rfl) only [AX (Adb _ _ _) (K := finK E68 Tryz.f234 0 R K), DB (Ad7 _ _ _ _) (K := finK E68 Tryz.f234 0 R K), AX (Ae8 _ _ _) (K := finK E68 Tryz.f234 0 R K), DB (Ah5 _ _ _) (K := finK E68 Tryz.f234 0 R K), GB, AC (Agi _ _) (K := finK E68 Tryz.f234 0 R K), DB (AdI _ _) (K := finK E68 Tryz.f234 0 R K), DB (AfW _ _) (K := finK E68 Tryz.f234 0 R K), DB (Ahn _ _) (K := finK E68 Tryz.f234 0 R K), DB (Ahd _ _) (K := finK E68 Tryz.f234 0 R K)]
  kernel_rfl
def c234 : Va.Callee := brC [.p Ad, .d (.sl Ae), .d (.sl (.int .i64))] [⟨[.rop [] Ad, .dat [] (.sl Ae), .dat [] (.sl (.int .i64))], [], Int, fun p => B3 p.1.1 p.1.2.1 p.1.2.2.1, fun r => (dI r, [])⟩]
theorem UK : SoundC Tryz.prog 234 c234 := Ao (fn := Tryz.f234) (by kernel_rfl) (by kernel_rfl) (by kernel_rfl) ⟨⟨E68, ⟨⟨tabok, Am ⟨Jw, Q5, trivial⟩⟩, mixed⟩, fun p R K => U68 R p.1.1 p.1.2.1 p.1.2.2.1 K⟩, trivial⟩
abbrev E69 : Env := ⟨tab, lookH [], { deep := true, joins := [(2, { live := [0, 3] }), (3, { live := [0, 52] })], ents := [(2, [0]), (3, [0, 3])] }⟩
def XM (a : Ad.V) : St := sT 75 [(0, .rop [] Ad a), (3, dB ((decide (a.1 ≥ 4)) && (decide (a.1 ≤ 9))))] []
def L3 (a : Ad.V) (m0 : Bool) : Ex × St := (.normal, sT 75 [(0, .rop [] Ad a), (52, dB m0)] [])
theorem Ait (a : Ad.V) : jnS E69 0 3 (code Tryz.f235) [1, 1, 0, 0] (XM a) = some (L3 a (bif (!((decide (a.1 ≥ 4)) && (decide (a.1 ≤ 9)))) then ((a.2.2.1 != 0) || (bif (a.1 != 4) then ((a.2.2.2.1 != 0) || ((a.1 != 1) && (a.2.1 != 0))) else ((a.1 != 1) && (a.2.1 != 0)))) else (bif (a.1 != 4) then ((a.2.2.2.1 != 0) || ((a.1 != 1) && (a.2.1 != 0))) else ((a.1 != 1) && (a.2.1 != 0))))) := by
  have h0 : jnS E69 0 3 (code Tryz.f235) [1, 1, 0, 0] (XM a) =
 bif (!((decide (a.1 ≥ 4)) && (decide (a.1 ≤ 9)))) then
 bif (a.2.2.1 != 0) then
 some (L3 a true)
 else
 bif (a.1 != 4) then
 bif (a.2.2.2.1 != 0) then
 some (L3 a true)
 else
 bif (a.1 != 1) then
 some (L3 a (a.2.1 != 0))
 else
 some (L3 a false)
 else
 bif (a.1 != 1) then
 some (L3 a (a.2.1 != 0))
 else
 some (L3 a false)
 else
 bif (a.1 != 4) then
 bif (a.2.2.2.1 != 0) then
 some (L3 a true)
 else
 bif (a.1 != 1) then
 some (L3 a (a.2.1 != 0))
 else
 some (L3 a false)
 else
 bif (a.1 != 1) then
 some (L3 a (a.2.1 != 0))
 else
 some (L3 a false) := by kernel_rfl
  rw [h0]
  cases h1 : (!((decide (a.1 ≥ 4)) && (decide (a.1 ≤ 9))))
  · cases h2 : (a.1 != 4)
    · cases h3 : (a.1 != 1)
      · first | rfl | kernel_rfl
      · first | rfl | kernel_rfl
    · cases h3 : (a.2.2.2.1 != 0)
      · cases h4 : (a.1 != 1)
        · first | rfl | kernel_rfl
        · first | rfl | kernel_rfl
      · first | rfl | kernel_rfl
  · cases h2 : (a.2.2.1 != 0)
    · cases h3 : (a.1 != 4)
      · cases h4 : (a.1 != 1)
        · first | rfl | kernel_rfl
        · first | rfl | kernel_rfl
      · cases h4 : (a.2.2.2.1 != 0)
        · cases h5 : (a.1 != 1)
          · first | rfl | kernel_rfl
          · first | rfl | kernel_rfl
        · first | rfl | kernel_rfl
    · first | rfl | kernel_rfl
def XL (a : Ad.V) : St := sT 75 [(0, .rop [] Ad a)] []
def Xr (a : Ad.V) (m0 : Bool) : Ex × St := (.normal, sT 75 [(0, .rop [] Ad a), (3, dB m0)] [])
theorem AeS (a : Ad.V) : jnS E69 0 2 (code Tryz.f235) [1, 0] (XL a) = some (Xr a ((decide (a.1 ≥ 4)) && (decide (a.1 ≤ 9)))) := by
  have h0 : jnS E69 0 2 (code Tryz.f235) [1, 0] (XL a) =
 bif (decide (a.1 ≥ 4)) then
 some (Xr a (decide (a.1 ≤ 9)))
 else
 some (Xr a false) := by kernel_rfl
  rw [h0]
  cases h1 : (decide (a.1 ≥ 4))
  · first | rfl | kernel_rfl
  · first | rfl | kernel_rfl
def BY (a : Ad.V) : Bool := ((!(bif (!((decide (a.1 ≥ 4)) && (decide (a.1 ≤ 9)))) then ((a.2.2.1 != 0) || (bif (a.1 != 4) then ((a.2.2.2.1 != 0) || ((a.1 != 1) && (a.2.1 != 0))) else ((a.1 != 1) && (a.2.1 != 0)))) else (bif (a.1 != 4) then ((a.2.2.2.1 != 0) || ((a.1 != 1) && (a.2.1 != 0))) else ((a.1 != 1) && (a.2.1 != 0))))) && ((a.1 == 2) || ((a.2.2.2.2.1.1 == 0) && ((a.2.2.2.2.1.2.1.length : Int) == 0))))
theorem U69 (R : Type) (a : Ad.V) (K : AV → List Blk → Option R) : runF E69 Tryz.f235 R [.rop [] Ad a] [] K = K (dB (BY a)) [] := by
  have h : runF E69 Tryz.f235 R [.rop [] Ad a] [] K =
 mkr (XL a) (
 mkr (XM a) (
 bif (bif (!((decide (a.1 ≥ 4)) && (decide (a.1 ≤ 9)))) then ((a.2.2.1 != 0) || (bif (a.1 != 4) then ((a.2.2.2.1 != 0) || ((a.1 != 1) && (a.2.1 != 0))) else ((a.1 != 1) && (a.2.1 != 0)))) else (bif (a.1 != 4) then ((a.2.2.2.1 != 0) || ((a.1 != 1) && (a.2.1 != 0))) else ((a.1 != 1) && (a.2.1 != 0)))) then
 K (dB false) []
 else
 bif (a.1 == 2) then
 K (dB true) []
 else
 bif (a.2.2.2.2.1.1 == 0) then
 K (dB ((a.2.2.2.2.1.2.1.length : Int) == 0)) []
 else
 K (dB false) [])) := by
    simp (disch := refine sI ?_ <;> (repeat' refine sA ?_ ?_) <;> intro _ <;> kernel_rfl) only [DB (AeS _) (K := finK E69 Tryz.f235 0 R K), DB (Ait _) (K := finK E69 Tryz.f235 0 R K)]
    kernel_rfl
  rw [h]
  unfold BY
  cases h1 : (bif (!((decide (a.1 ≥ 4)) && (decide (a.1 ≤ 9)))) then ((a.2.2.1 != 0) || (bif (a.1 != 4) then ((a.2.2.2.1 != 0) || ((a.1 != 1) && (a.2.1 != 0))) else ((a.1 != 1) && (a.2.1 != 0)))) else (bif (a.1 != 4) then ((a.2.2.2.1 != 0) || ((a.1 != 1) && (a.2.1 != 0))) else ((a.1 != 1) && (a.2.1 != 0))))
  · cases h2 : (a.1 == 2)
    · cases h3 : (a.2.2.2.2.1.1 == 0)
      · first | rfl | kernel_rfl
      · first | rfl | kernel_rfl
    · first | rfl | kernel_rfl
  · first | rfl | kernel_rfl
def c235 : Va.Callee := brC [.p Ad] [⟨[.rop [] Ad], [], Bool, fun p => some (BY p.1.1), fun r => (dB r, [])⟩]
theorem VS : SoundC Tryz.prog 235 c235 := Ao (fn := Tryz.f235) (by kernel_rfl) (by kernel_rfl) (by kernel_rfl) ⟨⟨E69, ⟨⟨tabok, Am trivial⟩, mixed⟩, fun p R K => U69 R p.1.1 K⟩, trivial⟩
abbrev E70 : Env := ⟨tab, lookH [], { deep := true, heads := [(2, { live := [0, 1, 7, 8] })], outs := [(2, { live := [4] })] }⟩
def AgC (a : (List Bool)) (b : Bool) (c : Int) (z_ : Int) : St := sT 19 [(0, dD (.sl .bool) a), (1, dB b), (7, dI c), (8, dI z_)] []
def Aeh (a : (List Bool)) (b : Bool) (c : Int) : (Int ⊕ Unit) → Ex × St := Sum.elim (fun d => (.ret, sT 19 [(4, dI d)] [])) (fun e => ((.exit 0), sT 19 [] []))
def CB (a : (List Bool)) (b : Bool) (c : Int) (g : Int) : Option (Int ⊕ (Int ⊕ Unit)) :=
 bif (decide (g < c)) then
 if (0 : Int) ≤ g ∧ g < (a.length : Int) then
 bif (b == (a.getD g.toNat (Ty.zero .bool))) then
 some (.inr (.inl g))
 else
 some (.inl (IntKind.i64.wrap (g + 1)))
 else none
 else
 some (.inr (.inr ()))
def BA (a : (List Bool)) (b : Bool) (c : Int) (z_ : Int) := CB a b c z_
def FN (a : (List Bool)) (b : Bool) (c : Int) (g : Int) := fix (BA a b c) g
theorem Adc (a : (List Bool)) (b : Bool) (c : Int) : LpOk E70 0 2 (code Tryz.f246) [1, 0, 1, 0] (AgC a b c) (BA a b c) (Aeh a b c) := by
  intro _
  simp only [BA, CB, mC, mI, mN, mB, mE, mM]
  kernel_rfl
def Ds (a : (List Bool)) (b : Bool) : Option Int :=
 (FN a b (a.length : Int) 0).bind (Sum.elim (fun d =>
 some d) (fun e =>
 some (-1)))
theorem U70 (R : Type) (a : (List Bool)) (b : Bool) (K : AV → List Blk → Option R) : runF E70 Tryz.f246 R [dD (.sl .bool) a, dB b] [] K = (Ds a b).bind fun r => K (dI r) [] := by
  simp only [Ds, bC, bI, bN, bE, bA, bS, bO, bM]
  simp (disch := refine sI ?_ <;> (repeat' refine sA ?_ ?_) <;> intro _ <;> kernel_rfl) only [FN, AC (Adc _ _ _) (K := finK E70 Tryz.f246 0 R K)]
  kernel_rfl
def c246 : Va.Callee := brC [.d (.sl .bool), .d .bool] [⟨[.dat [] (.sl .bool), .dat [] .bool], [], Int, fun p => Ds p.1.1 p.1.2.1, fun r => (dI r, [])⟩]
theorem WT : SoundC Tryz.prog 246 c246 := Ao (fn := Tryz.f246) (by kernel_rfl) (by kernel_rfl) (by kernel_rfl) ⟨⟨E70, ⟨⟨tabok, Am trivial⟩, mixed⟩, fun p R K => U70 R p.1.1 p.1.2.1 K⟩, trivial⟩
abbrev E71 : Env := ⟨tab, lookH [(246, c246)], { deep := true }⟩
def Bv (a : (List Bool)) (b : Bool) : Option Bool :=
 (Ds a b).bind fun c =>
 some (decide (c ≥ 0))
theorem U71 (R : Type) (a : (List Bool)) (b : Bool) (K : AV → List Blk → Option R) : runF E71 Tryz.f236 R [dD (.sl .bool) a, dB b] [] K = (Bv a b).bind fun r => K (dB r) [] := by
  simp only [Bv, bC, bI, bN, bE, bA, bS, bO, bM]
  kernel_rfl
def c236 : Va.Callee := brC [.d (.sl .bool), .d .bool] [⟨[.dat [] (.sl .bool), .dat [] .bool], [], Bool, fun p => Bv p.1.1 p.1.2.1, fun r => (dB r, [])⟩]
theorem Vl : SoundC Tryz.prog 236 c236 := Ao (fn := Tryz.f236) (by kernel_rfl) (by kernel_rfl) (by kernel_rfl) ⟨⟨E71, ⟨⟨tabok, Am ⟨WT, trivial⟩⟩, mixed⟩, fun p R K => U71 R p.1.1 p.1.2.1 K⟩, trivial⟩
end
end Go.Proofs.X
namespace Go.Proofs.X
open Go Go.Va
set_option maxRecDepth 100000
noncomputable section
abbrev E72 : Env := ⟨tab, lookH [(170, c170), (234, c234), (235, c235), (236, c236)], { deep := true, heads := [(6, { live := [0, 3, 6, 7, 8, 29, 30] }), (13, { live := [0, 3, 6, 7, 8, 9, 10, 11, 29, 30, 52, 53, 54] })], outs := [(6, { live := [4, 5, 6, 7, 8], frz := [(8, false, (.sl .bool))] }), (13, { live := [0, 3, 4, 5, 6, 7, 8, 9, 10, 11, 29, 30], frz := [(11, false, (.sl (.int .i64)))] })], joins := [(3, { live := [0, 3, 6, 22] }), (21, { live := [0, 3, 6, 7, 8, 29, 30, 92] })], draws := [(4, { live := [0, 3, 6, 7, 8] })], ents := [(3, [0, 3, 6]), (21, [0, 3, 6, 7, 8, 9, 10, 29, 30])], dents := [(4, [0, 3, 6])], res := [(0, .row [] 2 (.int .i64) true)] }⟩
def Afd (a : (List Ae.V)) (b : Ai.V) (c : Int) (d : Int) (z_ : (Int × (List Int) × (List Bool))) : St := sT 101 [(0, dD (.sl Ae) a), (3, .ptr 0 0 [] 0), (6, dI c), (7, .ref 1), (8, .ref 2), (29, dI d), (30, dI z_.1)] [.box (dD Ai b), .row 2 .deep (.int .i64) z_.2.1, .row 4 .deep .bool z_.2.2]
def AeB (a : (List Ae.V)) (b : Ai.V) (c : Int) (d : Int) : (((List Bool) × (List Int)) ⊕ ((List Bool) × (List Int))) → Ex × St := Sum.elim (fun e => (.ret, sT 101 [(4, .zs), (5, dB false), (6, dI c), (7, .ref 0), (8, dD (.sl .bool) e.1)] [.row 2 .deep (.int .i64) e.2])) (fun g => ((.exit 0), sT 101 [(6, dI c), (7, .ref 0), (8, dD (.sl .bool) g.1)] [.row 2 .deep (.int .i64) g.2]))
def Ah4 (a : (List Ae.V)) (c : Int) (i : Int) (d : Int) (b : Ai.V) (j : Ad.V) (k : (List Int)) (l : (List Bool)) : St := sT 101 [(0, dD (.sl Ae) a), (3, .ptr 0 0 [] 0), (6, dI c), (7, .ref 1), (8, .ref 2), (9, dI i), (10, .rop [] Ad j), (29, dI d), (30, dI i)] [.box (dD Ai b), .row 2 .deep (.int .i64) k, .row 4 .deep .bool l]
def Afh (a : (List Ae.V)) (c : Int) (i : Int) (d : Int) (b : Ai.V) (j : Ad.V) (k : (List Int)) (l : (List Bool)) : Bool → Ex × St := fun n => (.normal, sT 101 [(0, dD (.sl Ae) a), (3, .ptr 0 0 [] 0), (6, dI c), (7, .ref 1), (8, .ref 2), (29, dI d), (30, dI i), (92, dB n)] [.box (dD Ai b), .row 2 .deep (.int .i64) k, .row 4 .deep .bool l])
def H7 (a : (List Ae.V)) (c : Int) (i : Int) (d : Int) (b : Ai.V) (j : Ad.V) (k : (List Int)) (l : (List Bool)) : Option Bool :=
 bif (!(BY j)) then
 some true
 else
 if (0 : Int) ≤ i ∧ i < (k.length : Int) then
 some (!(Ap (k.getD i.toNat (Ty.zero (.int .i64))) 1 4096))
 else none
theorem Ae9 (a : (List Ae.V)) (c : Int) (i : Int) (d : Int) (b : Ai.V) (j : Ad.V) (k : (List Int)) (l : (List Bool)) : JnOk E72 0 21 (sub (code Tryz.f204) [1, 1, 1, 1, 0, 1, 0, 0]) [1, 1, 0, 0, 1, 1, 1, 1, 1, 1, 0] (Ah4 a c i d b j k l) (H7 a c i d b j k l) (Afh a c i d b j k l) := by
  unfold JnOk
  simp only [H7, mC, mI, mN, mB, mE, mM]
  kernel_rfl
def Ad0 (a : (List Ae.V)) (c : Int) (i : Int) (d : Int) (b : Ai.V) (o : (List Int)) (q : Ad.V) (s : (List Int)) (t : Int) (z_ : (Int × (List Bool) × (List Int))) : St := sT 101 [(0, dD (.sl Ae) a), (3, .ptr 0 0 [] 0), (6, dI c), (7, .ref 1), (8, .ref 2), (9, dI i), (10, .rop [] Ad q), (11, .ref 3), (29, dI d), (30, dI i), (52, dD (.sl (.int .i64)) s), (53, dI t), (54, dI z_.1)] [.box (dD Ai b), .row 2 .deep (.int .i64) o, .row 4 .deep .bool z_.2.1, .row 2 .deep (.int .i64) z_.2.2]
def Afw (a : (List Ae.V)) (c : Int) (i : Int) (d : Int) (b : Ai.V) (o : (List Int)) (q : Ad.V) (s : (List Int)) (t : Int) : (((List Int) × (List Bool)) ⊕ ((List Int) × (List Bool))) → Ex × St := Sum.elim (fun u => (.ret, sT 101 [(0, dD (.sl Ae) a), (3, .ptr 0 0 [] 0), (4, .zs), (5, dB false), (6, dI c), (7, .ref 1), (8, .ref 2), (9, dI i), (10, .rop [] Ad q), (11, dD (.sl (.int .i64)) u.1), (29, dI d), (30, dI i)] [.box (dD Ai b), .row 2 .deep (.int .i64) o, .row 4 .deep .bool u.2])) (fun v => ((.exit 2), sT 101 [(0, dD (.sl Ae) a), (3, .ptr 0 0 [] 0), (6, dI c), (7, .ref 1), (8, .ref 2), (9, dI i), (10, .rop [] Ad q), (11, dD (.sl (.int .i64)) v.1), (29, dI d), (30, dI i)] [.box (dD Ai b), .row 2 .deep (.int .i64) o, .row 4 .deep .bool v.2]))
def Gt (a : (List Ae.V)) (c : Int) (i : Int) (d : Int) (b : Ai.V) (o : (List Int)) (q : Ad.V) (s : (List Int)) (t : Int) (w : Int) (x : (List Bool)) (y : (List Int)) : Option ((Int × (List Bool) × (List Int)) ⊕ (((List Int) × (List Bool)) ⊕ ((List Int) × (List Bool)))) :=
 bif (decide (w < t)) then
 if (0 : Int) ≤ w ∧ w < (s.length : Int) then
 bif (!(Ap (s.getD w.toNat (Ty.zero (.int .i64))) 0 (IntKind.i64.wrap (i - 1)))) then
 some (.inr (.inl (y, x)))
 else
 if (0 : Int) ≤ (s.getD w.toNat (Ty.zero (.int .i64))) ∧ (s.getD w.toNat (Ty.zero (.int .i64))) < (o.length : Int) then
 if (0 : Int) ≤ (s.getD w.toNat (Ty.zero (.int .i64))) ∧ (s.getD w.toNat (Ty.zero (.int .i64))) < (x.length : Int) then
 if (0 : Int) ≤ w ∧ w < (y.length : Int) then
 some (.inl ((IntKind.i64.wrap (w + 1)), (x.set (s.getD w.toNat (Ty.zero (.int .i64))).toNat true), (y.set w.toNat (o.getD (s.getD w.toNat (Ty.zero (.int .i64))).toNat (Ty.zero (.int .i64))))))
 else none
 else none
 else none
 else none
 else
 some (.inr (.inr (y, x)))
def CE (a : (List Ae.V)) (c : Int) (i : Int) (d : Int) (b : Ai.V) (o : (List Int)) (q : Ad.V) (s : (List Int)) (t : Int) (z_ : (Int × (List Bool) × (List Int))) := Gt a c i d b o q s t z_.1 z_.2.1 z_.2.2
def FX (a : (List Ae.V)) (c : Int) (i : Int) (d : Int) (b : Ai.V) (o : (List Int)) (q : Ad.V) (s : (List Int)) (t : Int) (w : Int) (x : (List Bool)) (y : (List Int)) := fix (CE a c i d b o q s t) (w, x, y)
theorem AgF (a : (List Ae.V)) (c : Int) (i : Int) (d : Int) (b : Ai.V) (o : (List Int)) (q : Ad.V) (s : (List Int)) (t : Int) : LpOk E72 0 13 (sub (code Tryz.f204) [1, 1, 1, 1, 0, 1, 0, 0]) [1, 1, 0, 0, 1, 1, 1, 1, 0, 1, 0] (Ad0 a c i d b o q s t) (CE a c i d b o q s t) (Afw a c i d b o q s t) := by
  intro _
  simp only [CE, Gt, mC, mI, mN, mB, mE, mM]
  kernel_rfl
def F7 (a : (List Ae.V)) (b : Ai.V) (c : Int) (d : Int) (i : Int) (o : (List Int)) (a1 : (List Bool)) : Option ((Int × (List Int) × (List Bool)) ⊕ (((List Bool) × (List Int)) ⊕ ((List Bool) × (List Int)))) :=
 bif (decide (i < d)) then
 if (0 : Int) ≤ i ∧ i < (b.1.length : Int) then
 bif (decide (((b.1.getD i.toNat (Ty.zero Ad)).2.2.2.2.2.1.length : Int) > 4096)) then
 some (.inr (.inl (a1, o)))
 else
 if Ty.row (.int .i64) = true ∧ (0 : Int) ≤ ((b.1.getD i.toNat (Ty.zero Ad)).2.2.2.2.2.1.length : Int) ∧ ((b.1.getD i.toNat (Ty.zero Ad)).2.2.2.2.2.1.length : Int) ≤ ((b.1.getD i.toNat (Ty.zero Ad)).2.2.2.2.2.1.length : Int) ∧ ((8 : Nat) : Int) * ((b.1.getD i.toNat (Ty.zero Ad)).2.2.2.2.2.1.length : Int) ≤ (281474976710656 : Int) ∧ ((b.1.getD i.toNat (Ty.zero Ad)).2.2.2.2.2.1.length : Int) ≤ (9223372036854775807 : Int) then
 (FX a c i d b o (b.1.getD i.toNat (Ty.zero Ad)) (b.1.getD i.toNat (Ty.zero Ad)).2.2.2.2.2.1 ((b.1.getD i.toNat (Ty.zero Ad)).2.2.2.2.2.1.length : Int) 0 a1 (List.replicate ((b.1.getD i.toNat (Ty.zero Ad)).2.2.2.2.2.1.length : Int).toNat 0)).bind (Sum.elim (fun u =>
 some (.inr (.inl (u.2, o)))) (fun v =>
 (B3 (b.1.getD i.toNat (Ty.zero Ad)) a v.1).bind fun b1 =>
 if (0 : Int) ≤ i ∧ i < (o.length : Int) then
 (H7 a c i d b (b.1.getD i.toNat (Ty.zero Ad)) (o.set i.toNat b1) v.2).bind fun n =>
 bif n then
 some (.inr (.inl (v.2, (o.set i.toNat b1))))
 else
 some (.inl ((IntKind.i64.wrap (i + 1)), (o.set i.toNat b1), v.2))
 else none))
 else none
 else none
 else
 some (.inr (.inr (a1, o)))
def CC (a : (List Ae.V)) (b : Ai.V) (c : Int) (d : Int) (z_ : (Int × (List Int) × (List Bool))) := F7 a b c d z_.1 z_.2.1 z_.2.2
def JO (a : (List Ae.V)) (b : Ai.V) (c : Int) (d : Int) (i : Int) (o : (List Int)) (a1 : (List Bool)) := fix (CC a b c d) (i, o, a1)
theorem Aeq (a : (List Ae.V)) (b : Ai.V) (c : Int) (d : Int) : LpOk E72 0 6 (code Tryz.f204) [1, 1, 1, 1, 0, 1, 0] (Afd a b c d) (CC a b c d) (AeB a b c d) := by
  intro _
  simp only [CC, F7, mC, mI, mN, mB, mE, mM]
  simp (disch := refine sI ?_ <;> (repeat' refine sA ?_ ?_) <;> intro _ <;> kernel_rfl) only [FX, AC (AgF _ _ _ _ _ _ _ _ _) (K := stepK 0 (E72.hd 6) (E72.ot 6)), AX (Ae9 _ _ _ _ _ _ _ _) (K := stepK 0 (E72.hd 6) (E72.ot 6))]
  kernel_rfl
def AaS (a : (List Ae.V)) (b : Ai.V) (c1 : Int) : St := sT 101 [(0, dD (.sl Ae) a), (3, .ptr 0 0 [] 0), (6, dI c1)] [.box (dD Ai b)]
def R4 (a : (List Ae.V)) (b : Ai.V) (c1 : Int) : ((List Int) × (List Bool)) → St := fun d1 => sT 101 [(0, dD (.sl Ae) a), (3, .ptr 0 0 [] 0), (6, dI c1), (7, .ref 1), (8, .ref 2)] [.box (dD Ai b), .row 2 .deep (.int .i64) d1.1, .row 4 .deep .bool d1.2]
def FT (a : (List Ae.V)) (b : Ai.V) (c1 : Int) : Option ((List Int) × (List Bool)) :=
 if Ty.row (.int .i64) = true ∧ (0 : Int) ≤ c1 ∧ c1 ≤ c1 ∧ ((8 : Nat) : Int) * c1 ≤ (281474976710656 : Int) ∧ c1 ≤ (9223372036854775807 : Int) then
 if Ty.row .bool = true ∧ (0 : Int) ≤ c1 ∧ c1 ≤ c1 ∧ ((1 : Nat) : Int) * c1 ≤ (281474976710656 : Int) ∧ c1 ≤ (9223372036854775807 : Int) then
 some ((List.replicate c1.toNat 0), (List.replicate c1.toNat false))
 else none
 else none
theorem Aga (a : (List Ae.V)) (b : Ai.V) (c1 : Int) : DrOk E72 0 4 (code Tryz.f204) [1, 1, 1, 0] (AaS a b c1) (FT a b c1) (R4 a b c1) := by
  unfold DrOk
  have h : drS E72 0 4 (code Tryz.f204) [1, 1, 1, 0] (AaS a b c1) =
 if Ty.row (.int .i64) = true ∧ (0 : Int) ≤ c1 ∧ c1 ≤ c1 ∧ ((8 : Nat) : Int) * c1 ≤ (281474976710656 : Int) ∧ c1 ≤ (9223372036854775807 : Int) then
 if Ty.row .bool = true ∧ (0 : Int) ≤ c1 ∧ c1 ≤ c1 ∧ ((1 : Nat) : Int) * c1 ≤ (281474976710656 : Int) ∧ c1 ≤ (9223372036854775807 : Int) then
 (((if Ty.row (.int .i64) = true ∧ (0 : Int) ≤ c1 ∧ c1 ≤ c1 ∧ ((8 : Nat) : Int) * c1 ≤ (281474976710656 : Int) ∧ c1 ≤ (9223372036854775807 : Int) then
 if Ty.row .bool = true ∧ (0 : Int) ≤ c1 ∧ c1 ≤ c1 ∧ ((1 : Nat) : Int) * c1 ≤ (281474976710656 : Int) ∧ c1 ≤ (9223372036854775807 : Int) then
 eqSt (R4 a b c1 ((List.replicate c1.toNat 0), (List.replicate c1.toNat false))) (R4 a b c1 ((List.replicate c1.toNat 0), (List.replicate c1.toNat false)))
 else none
 else none).bind fun _ =>
 if Ty.row .bool = true ∧ (0 : Int) ≤ c1 ∧ c1 ≤ c1 ∧ ((1 : Nat) : Int) * c1 ≤ (281474976710656 : Int) ∧ c1 ≤ (9223372036854775807 : Int) then
 if Ty.row (.int .i64) = true ∧ (0 : Int) ≤ c1 ∧ c1 ≤ c1 ∧ ((8 : Nat) : Int) * c1 ≤ (281474976710656 : Int) ∧ c1 ≤ (9223372036854775807 : Int) then
 eqSt (R4 a b c1 ((List.replicate c1.toNat 0), (List.replicate c1.toNat false))) (R4 a b c1 ((List.replicate c1.toNat 0), (List.replicate c1.toNat false)))
 else none
 else none).bind fun _ => some (R4 a b c1 ((List.replicate c1.toNat 0), (List.replicate c1.toNat false))))
 else none
 else none := by kernel_rfl
  rw [h]
  unfold FT
  simp only [mC, mI, mN, mB, mE, mM, mS, mO]
  clear h
  by_cases hc0 : Ty.row (.int .i64) = true ∧ (0 : Int) ≤ c1 ∧ c1 ≤ c1 ∧ ((8 : Nat) : Int) * c1 ≤ (281474976710656 : Int) ∧ c1 ≤ (9223372036854775807 : Int)
  · rw [if_pos hc0, if_pos hc0]
    by_cases hc1 : Ty.row .bool = true ∧ (0 : Int) ≤ c1 ∧ c1 ≤ c1 ∧ ((1 : Nat) : Int) * c1 ≤ (281474976710656 : Int) ∧ c1 ≤ (9223372036854775807 : Int)
    · rw [if_pos hc1, if_pos hc1]
      simp only [if_pos hc0, if_pos hc1, Option.bind_some, I9]
    · simp only [if_pos hc0, if_neg hc1]
  · simp only [if_neg hc0]
def X3 (a : (List Ae.V)) (b : Ai.V) : St := sT 101 [(0, dD (.sl Ae) a), (3, .ptr 0 0 [] 0), (6, dI (b.1.length : Int))] [.box (dD Ai b)]
def Zc (a : (List Ae.V)) (b : Ai.V) (m0 : Bool) : Ex × St := (.normal, sT 101 [(0, dD (.sl Ae) a), (3, .ptr 0 0 [] 0), (6, dI (b.1.length : Int)), (22, dB m0)] [.box (dD Ai b)])
theorem Adl (a : (List Ae.V)) (b : Ai.V) : jnS E72 0 3 (code Tryz.f204) [1, 1, 0, 0] (X3 a b) = some (Zc a b ((decide ((b.1.length : Int) < 1)) || (decide ((b.1.length : Int) > 400)))) := by
  have h0 : jnS E72 0 3 (code Tryz.f204) [1, 1, 0, 0] (X3 a b) =
 bif (decide ((b.1.length : Int) < 1)) then
 some (Zc a b true)
 else
 some (Zc a b (decide ((b.1.length : Int) > 400))) := by kernel_rfl
  rw [h0]
  cases h1 : (decide ((b.1.length : Int) < 1))
  · first | rfl | kernel_rfl
  · first | rfl | kernel_rfl
def HL (a : (List Ae.V)) (b : Ai.V) : Option (Bool × (List Int)) :=
 mkr (X3 a b) (
 bif ((decide ((b.1.length : Int) < 1)) || (decide ((b.1.length : Int) > 400))) then
 some (false, ([] : List Int))
 else
 (FT a b (b.1.length : Int)).bind fun d1 =>
 (JO a b (b.1.length : Int) (b.1.length : Int) 0 d1.1 d1.2).bind (Sum.elim (fun e =>
 some (false, ([] : List Int))) (fun g =>
 if (0 : Int) ≤ (0 : Int) ∧ (0 : Int) ≤ (IntKind.i64.wrap ((b.1.length : Int) - 1)) ∧ (IntKind.i64.wrap ((b.1.length : Int) - 1)) ≤ (g.1.length : Int) then
 (Bv ((g.1.take (IntKind.i64.wrap ((b.1.length : Int) - 1)).toNat).drop 0) false).bind fun e1 =>
 some ((!e1), g.2)
 else none)))
theorem U72 (R : Type) (a : (List Ae.V)) (b : Ai.V) (K : AV → List Blk → Option R) : runF E72 Tryz.f204 R [dD (.sl Ae) a, dD Ai b] [] K = (HL a b).bind fun r => K (.cons (.ref 0) (.cons (dB r.1) .nil)) [.row 2 .deep (.int .i64) r.2] := by
  simp only [HL, bC, bI, bN, bE, bA, bS, bO, bM]
  simp (disch := refine sI ?_ <;> (repeat' refine sA ?_ ?_) <;> intro _ <;> kernel_rfl) only [DB (Adl _ _) (K := finK E72 Tryz.f204 0 R K), Qs (Aga _ _ _) (K := finK E72 Tryz.f204 0 R K), JO, AC (Aeq _ _ _ _) (K := finK E72 Tryz.f204 0 R K)]
  kernel_rfl
def c204 : Va.Callee := brC [.d (.sl Ae), .d Ai] [⟨[.dat [] (.sl Ae), .dat [] Ai], [], (Bool × (List Int)), fun p => HL p.1.1 p.1.2.1, fun r => (.cons (.ref 0) (.cons (dB r.1) .nil), [.row 2 .deep (.int .i64) r.2])⟩]
theorem V5 : SoundC Tryz.prog 204 c204 := Ao (fn := Tryz.f204) (by kernel_rfl) (by kernel_rfl) (by kernel_rfl) ⟨⟨E72, ⟨⟨tabok, Am ⟨Jw, UK, VS, Vl, trivial⟩⟩, mixed⟩, fun p R K => U72 R p.1.1 p.1.2.1 K⟩, trivial⟩
abbrev E73 : Env := ⟨tab, lookH [(204, c204)], { deep := true }⟩
def Cf (a : (List Ae.V)) (b : Ai.V) : Option Int :=
 (HL a b).bind fun c =>
 bif (!c.1) then
 some (-1)
 else
 if (0 : Int) ≤ (IntKind.i64.wrap ((c.2.length : Int) - 1)) ∧ (IntKind.i64.wrap ((c.2.length : Int) - 1)) < (c.2.length : Int) then
 some (c.2.getD (IntKind.i64.wrap ((c.2.length : Int) - 1)).toNat (Ty.zero (.int .i64)))
 else none
theorem U73 (R : Type) (a : (List Ae.V)) (b : Ai.V) (K : AV → List Blk → Option R) : runF E73 Tryz.f169 R [dD (.sl Ae) a, dD Ai b] [] K = (Cf a b).bind fun r => K (dI r) [] := by
  simp only [Cf, bC, bI, bN, bE, bA, bS, bO, bM]
  kernel_rfl
def c169 : Va.Callee := brC [.d (.sl Ae), .d Ai] [⟨[.dat [] (.sl Ae), .dat [] Ai], [], Int, fun p => Cf p.1.1 p.1.2.1, fun r => (dI r, [])⟩]
theorem Rx : SoundC Tryz.prog 169 c169 := Ao (fn := Tryz.f169) (by kernel_rfl) (by kernel_rfl) (by kernel_rfl) ⟨⟨E73, ⟨⟨tabok, Am ⟨V5, trivial⟩⟩, mixed⟩, fun p R K => U73 R p.1.1 p.1.2.1 K⟩, trivial⟩
abbrev E74 : Env := ⟨tab, lookH [(169, c169), (170, c170)], { deep := true, heads := [(5, { live := [0, 5, 12, 13, 14] })], outs := [(5, { live := [4] })], joins := [(9, { live := [0, 7, 12, 13, 14, 39] })], ents := [(9, [0, 5, 7, 8, 12, 13, 14])] }⟩
def Agu (a : (List Ae.V)) (b : (List Af.V)) (c : Int) (z_ : (Int × Int)) : St := sT 43 [(0, dD (.sl Ae) a), (5, dI z_.1), (12, dD (.sl Af) b), (13, dI c), (14, dI z_.2)] []
def AeM (a : (List Ae.V)) (b : (List Af.V)) (c : Int) : (Unit ⊕ Unit) → Ex × St := Sum.elim (fun d => (.ret, sT 43 [(4, dB false)] [])) (fun e => ((.exit 0), sT 43 [] []))
def AfB (a : (List Ae.V)) (g : Int) (i : Int) (b : (List Af.V)) (c : Int) (j : Int) (k : Af.V) : St := sT 43 [(0, dD (.sl Ae) a), (5, dI g), (7, .ptr 0 0 [] 0), (8, dI i), (12, dD (.sl Af) b), (13, dI c), (14, dI j)] [.box (dD Af k)]
def Adw (a : (List Ae.V)) (g : Int) (i : Int) (b : (List Af.V)) (c : Int) (j : Int) (k : Af.V) : Bool → Ex × St := fun l => (.normal, sT 43 [(0, dD (.sl Ae) a), (7, .ptr 0 0 [] 0), (12, dD (.sl Af) b), (13, dI c), (14, dI j), (39, dB l)] [.box (dD Af k)])
def C1 (a : (List Ae.V)) (g : Int) (i : Int) (b : (List Af.V)) (c : Int) (j : Int) (k : Af.V) : Option Bool :=
 bif (!(Ap k.1 (IntKind.i64.wrap (g + 1)) 1000000)) then
 some true
 else
 bif (decide (i < 0)) then
 some true
 else
 (Cf a k.2.2.2.1).bind fun n =>
 some (i != n)
theorem AgJ (a : (List Ae.V)) (g : Int) (i : Int) (b : (List Af.V)) (c : Int) (j : Int) (k : Af.V) : JnOk E74 0 9 (sub (code Tryz.f117) [1, 1, 1, 0, 1, 0, 0]) [1, 1, 0, 0, 1, 1, 0, 0] (AfB a g i b c j k) (C1 a g i b c j k) (Adw a g i b c j k) := by
  unfold JnOk
  simp only [C1, mC, mI, mN, mB, mE, mM]
  kernel_rfl
def Dg (a : (List Ae.V)) (b : (List Af.V)) (c : Int) (g : Int) (j : Int) : Option ((Int × Int) ⊕ (Unit ⊕ Unit)) :=
 bif (decide (j < c)) then
 if (0 : Int) ≤ j ∧ j < (b.length : Int) then
 (Cf a (b.getD j.toNat (Ty.zero Af)).2.2.1).bind fun i =>
 (C1 a g i b c j (b.getD j.toNat (Ty.zero Af))).bind fun l =>
 bif l then
 some (.inr (.inl ()))
 else
 some (.inl ((b.getD j.toNat (Ty.zero Af)).1, (IntKind.i64.wrap (j + 1))))
 else none
 else
 some (.inr (.inr ()))
def Bm (a : (List Ae.V)) (b : (List Af.V)) (c : Int) (z_ : (Int × Int)) := Dg a b c z_.1 z_.2
def G5 (a : (List Ae.V)) (b : (List Af.V)) (c : Int) (g : Int) (j : Int) := fix (Bm a b c) (g, j)
theorem AdK (a : (List Ae.V)) (b : (List Af.V)) (c : Int) : LpOk E74 0 5 (code Tryz.f117) [1, 1, 1, 0, 1, 0] (Agu a b c) (Bm a b c) (AeM a b c) := by
  intro _
  simp only [Bm, Dg, mC, mI, mN, mB, mE, mM]
  simp (disch := refine sI ?_ <;> (repeat' refine sA ?_ ?_) <;> intro _ <;> kernel_rfl) only [AX (AgJ _ _ _ _ _ _ _) (K := stepK 0 (E74.hd 5) (E74.ot 5))]
  kernel_rfl
def EQ (a : (List Ae.V)) (b : (List Af.V)) : Option Bool :=
 bif (decide ((b.length : Int) > 60)) then
 some false
 else
 (G5 a b (b.length : Int) 0 0).bind (Sum.elim (fun d =>
 some false) (fun e =>
 some true))
theorem U74 (R : Type) (a : (List Ae.V)) (b : (List Af.V)) (K : AV → List Blk → Option R) : runF E74 Tryz.f117 R [dD (.sl Ae) a, dD (.sl Af) b] [] K = (EQ a b).bind fun r => K (dB r) [] := by
  simp only [EQ, bC, bI, bN, bE, bA, bS, bO, bM]
  simp (disch := refine sI ?_ <;> (repeat' refine sA ?_ ?_) <;> intro _ <;> kernel_rfl) only [G5, AC (AdK _ _ _) (K := finK E74 Tryz.f117 0 R K)]
  kernel_rfl
def c117 : Va.Callee := brC [.d (.sl Ae), .d (.sl Af)] [⟨[.dat [] (.sl Ae), .dat [] (.sl Af)], [], Bool, fun p => EQ p.1.1 p.1.2.1, fun r => (dB r, [])⟩]
theorem VZ : SoundC Tryz.prog 117 c117 := Ao (fn := Tryz.f117) (by kernel_rfl) (by kernel_rfl) (by kernel_rfl) ⟨⟨E74, ⟨⟨tabok, Am ⟨Rx, Jw, trivial⟩⟩, mixed⟩, fun p R K => U74 R p.1.1 p.1.2.1 K⟩, trivial⟩
abbrev E75 : Env := ⟨tab, lookH [(117, c117), (167, c167)], { deep := true }⟩
def Dy (a : (List Ae.V)) (b : (List Af.V)) : Option Bool :=
 (EP a).bind fun c =>
 bif c then
 (EQ a b).bind fun d =>
 some d
 else
 some false
theorem U75 (R : Type) (a : (List Ae.V)) (b : (List Af.V)) (K : AV → List Blk → Option R) : runF E75 Tryz.f152 R [dD (.sl Ae) a, dD (.sl Af) b] [] K = (Dy a b).bind fun r => K (dB r) [] := by
  simp only [Dy, bC, bI, bN, bE, bA, bS, bO, bM]
  kernel_rfl
def c152 : Va.Callee := brC [.d (.sl Ae), .d (.sl Af)] [⟨[.dat [] (.sl Ae), .dat [] (.sl Af)], [], Bool, fun p => Dy p.1.1 p.1.2.1, fun r => (dB r, [])⟩]
theorem Vq : SoundC Tryz.prog 152 c152 := Ao (fn := Tryz.f152) (by kernel_rfl) (by kernel_rfl) (by kernel_rfl) ⟨⟨E75, ⟨⟨tabok, Am ⟨VZ, RB, trivial⟩⟩, mixed⟩, fun p R K => U75 R p.1.1 p.1.2.1 K⟩, trivial⟩
noncomputable def c196 : Va.Callee := cloneC 221 (.int .u64) 8
noncomputable abbrev e196 : Env := { tab := tab, fns := lookH [], fi := { } }
theorem Xl : ProgOk Tryz.prog e196 := ⟨⟨tabok, Am trivial⟩, mixed⟩
theorem Vp : SoundC Tryz.prog 196 c196 :=
  Mz (fn := Tryz.f196) Xl (by kernel_rfl) (by kernel_rfl) rfl rfl rfl ⟨rfl, rfl, rfl⟩ ⟨rfl, rfl, rfl⟩ (ti := ⟨.sl (.int .u64), [], 221, 24, 0⟩) (by kernel_rfl) rfl (by kernel_rfl) (fun xs => by kernel_rfl) (fun xs => by kernel_rfl)
    fun xs h => by
      have h0 : ev e196 0 (sub (code Tryz.f196) [1, 1]) (Ex × St) ⟨[.dat [] (.sl (.int .u64)) xs, .un 0, .zs, .dat [] (.sl (.int .u64)) xs, .bool false, .un 0, .un 0, .un 0], []⟩ pair2 = if xs.length * 8 ≤ 140737488355328 then some (.ret, ⟨[.dat [] (.sl (.int .u64)) xs, .un 0, .ref 0, .dat [] (.sl (.int .u64)) xs, .bool false, .zs, .dat [] (.sl (.int .u64)) xs, .ref 0], [.row 221 .deep (.int .u64) xs]⟩) else none := by kernel_rfl
      exact h0.trans (if_pos h)
abbrev E76 : Env := ⟨tab, lookH [(196, c196)], { deep := true }⟩
def Bh (a : Aj.V) : Option (Int × (List Int)) :=
 if a.2.1.length * 8 ≤ 140737488355328 then
 some (a.1, a.2.1)
 else none
theorem U76 (R : Type) (a : Aj.V) (K : AV → List Blk → Option R) : runF E76 Tryz.f160 R [dD Aj a] [] K = (Bh a).bind fun r => K (.pr (dI r.1) (.pr (.ref 0) .u)) [.row 221 .deep (.int .u64) r.2] := by
  simp only [Bh, bC, bI, bN, bE, bA, bS, bO, bM]
  kernel_rfl
def c160 : Va.Callee := brC [.d Aj] [⟨[.dat [] Aj], [], (Int × (List Int)), fun p => Bh p.1.1, fun r => (.pr (dI r.1) (.pr (.ref 0) .u), [.row 221 .deep (.int .u64) r.2])⟩]
theorem Oq : SoundC Tryz.prog 160 c160 := Ao (fn := Tryz.f160) (by kernel_rfl) (by kernel_rfl) (by kernel_rfl) ⟨⟨E76, ⟨⟨tabok, Am ⟨Vp, trivial⟩⟩, mixed⟩, fun p R K => U76 R p.1.1 K⟩, trivial⟩
abbrev E77 : Env := ⟨tab, lookH [], { deep := true }⟩
def An (a : Int) (b : (List Int)) : (Int × Int × Int × Int × (List Int)) := ((-1), 0, a, a, b)
theorem U77 (R : Type) (a : Int) (b : (List Int)) (K : AV → List Blk → Option R) : runF E77 Tryz.f206 R [.pr (dI a) (.pr (.ref 0) .u)] [.row 221 .deep (.int .u64) b] K = K (.pr (dI (An a b).1) (.pr (dI (An a b).2.1) (.pr (dI (An a b).2.2.1) (.pr (.pr (dI (An a b).2.2.2.1) (.pr (.ref 0) .u)) .u)))) [.row 221 .deep (.int .u64) (An a b).2.2.2.2] := by
  kernel_rfl
def c206 : Va.Callee := brC [.raw] [⟨[.pr (.dat [] (.int .i64)) (.pr (.k (.ref 0)) (.k .u))], [.row 221 .deep (.int .u64)], (Int × Int × Int × Int × (List Int)), fun p => some (An p.1.1.1 p.2.1), fun r => (.pr (dI r.1) (.pr (dI r.2.1) (.pr (dI r.2.2.1) (.pr (.pr (dI r.2.2.2.1) (.pr (.ref 0) .u)) .u))), [.row 221 .deep (.int .u64) r.2.2.2.2])⟩]
theorem Q6 : SoundC Tryz.prog 206 c206 := Ao (fn := Tryz.f206) (by kernel_rfl) (by kernel_rfl) (by kernel_rfl) ⟨⟨E77, ⟨⟨tabok, Am trivial⟩, mixed⟩, fun p R K => U77 R p.1.1.1 p.2.1 K⟩, trivial⟩
abbrev E78 : Env := ⟨tab, lookH [], { deep := true }⟩
def A3 (a : Ab.V) (b : Ab.V) : Bool := ((a.1 == b.1) && ((a.1 == (-1)) || ((IntKind.i64.wrap (a.2.1 + a.2.2.1)) == b.2.1)))
theorem U78 (R : Type) (a : Ab.V) (b : Ab.V) (K : AV → List Blk → Option R) : runF E78 Tryz.f225 R [dD Ab a, dD Ab b] [] K = K (dB (A3 a b)) [] := by
  have h : runF E78 Tryz.f225 R [dD Ab a, dD Ab b] [] K =
 bif (a.1 == b.1) then
 bif (a.1 == (-1)) then
 K (dB true) []
 else
 K (dB ((IntKind.i64.wrap (a.2.1 + a.2.2.1)) == b.2.1)) []
 else
 K (dB false) [] := by kernel_rfl
  rw [h]
  unfold A3
  cases h1 : (a.1 == b.1)
  · first | rfl | kernel_rfl
  · cases h2 : (a.1 == (-1))
    · first | rfl | kernel_rfl
    · first | rfl | kernel_rfl
def c225 : Va.Callee := brC [.d Ab, .d Ab] [⟨[.dat [] Ab, .dat [] Ab], [], Bool, fun p => some (A3 p.1.1 p.1.2.1), fun r => (dB r, [])⟩]
theorem Oe : SoundC Tryz.prog 225 c225 := Ao (fn := Tryz.f225) (by kernel_rfl) (by kernel_rfl) (by kernel_rfl) ⟨⟨E78, ⟨⟨tabok, Am trivial⟩, mixed⟩, fun p R K => U78 R p.1.1 p.1.2.1 K⟩, trivial⟩
abbrev E79 : Env := ⟨tab, lookH [(237, c237)], { deep := true }⟩
def Cb (a : Int) : Option (Int × (List Int)) :=
 if Ty.row (.int .u64) = true ∧ (0 : Int) ≤ (AM a) ∧ (AM a) ≤ (AM a) ∧ ((8 : Nat) : Int) * (AM a) ≤ (281474976710656 : Int) ∧ (AM a) ≤ (9223372036854775807 : Int) then
 some (a, (List.replicate (AM a).toNat 0))
 else none
theorem U79 (R : Type) (a : Int) (K : AV → List Blk → Option R) : runF E79 Tryz.f208 R [dI a] [] K = (Cb a).bind fun r => K (.pr (dI r.1) (.pr (.ref 0) .u)) [.row 221 .deep (.int .u64) r.2] := by
  simp only [Cb, bC, bI, bN, bE, bA, bS, bO, bM]
  kernel_rfl
def c208 : Va.Callee := brC [.d (.int .i64)] [⟨[.dat [] (.int .i64)], [], (Int × (List Int)), fun p => Cb p.1.1, fun r => (.pr (dI r.1) (.pr (.ref 0) .u), [.row 221 .deep (.int .u64) r.2])⟩]
theorem Ol : SoundC Tryz.prog 208 c208 := Ao (fn := Tryz.f208) (by kernel_rfl) (by kernel_rfl) (by kernel_rfl) ⟨⟨E79, ⟨⟨tabok, Am ⟨Rr, trivial⟩⟩, mixed⟩, fun p R K => U79 R p.1.1 K⟩, trivial⟩
end
end Go.Proofs.X
