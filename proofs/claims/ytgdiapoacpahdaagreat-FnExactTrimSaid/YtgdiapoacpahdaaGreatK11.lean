import Derived.KernelRfl
import Derived.Test.YtgdiapoacpahdaaGreatK10
set_option linter.unusedVariables false
set_option linter.unusedSimpArgs false
namespace Go.Proofs.X
open Go Go.Va
set_option maxRecDepth 100000
noncomputable section
abbrev E80 : Env := ⟨tab, lookH [], { deep := true, heads := [(2, { live := [1, 3, 10, 11, 12] })], outs := [(2, { live := [] })], joins := [(7, { live := [1, 3, 7, 8, 10, 11, 12, 44] }), (8, { live := [1, 3, 10, 11, 12] })], ents := [(7, [1, 3, 7, 8, 10, 11, 12]), (8, [1, 3, 10, 11, 12])] }⟩
def Agz (a : Int) (b : Int) (c : (List Int)) (d : Int) (z_ : (Int × (List Int))) : St := sT 60 [(1, dI a), (3, .ptr 1 0 [] 0), (10, dD (.sl (.int .u64)) c), (11, dI d), (12, dI z_.1)] [.row 221 .deep (.int .u64) z_.2, .box (.pr (dI b) (.pr (.ref 0) .u))]
def AdP (a : Int) (b : Int) (c : (List Int)) (d : Int) : (List Int) → Ex × St := fun e => ((.exit 0), sT 60 [] [.row 221 .deep (.int .u64) e])
def Ae2 (a : Int) (c : (List Int)) (d : Int) (g : Int) (i : (List Int)) (b : Int) : St := sT 60 [(1, dI a), (3, .ptr 1 0 [] 0), (10, dD (.sl (.int .u64)) c), (11, dI d), (12, dI g)] [.row 221 .deep (.int .u64) i, .box (.pr (dI b) (.pr (.ref 0) .u))]
def Afl (a : Int) (c : (List Int)) (d : Int) (g : Int) (i : (List Int)) (b : Int) : (List Int) → Ex × St := fun j => (.normal, sT 60 [(1, dI a), (3, .ptr 1 0 [] 0), (10, dD (.sl (.int .u64)) c), (11, dI d), (12, dI g)] [.row 221 .deep (.int .u64) j, .box (.pr (dI b) (.pr (.ref 0) .u))])
def Yl (a : Int) (c : (List Int)) (g : Int) (d : Int) (i : (List Int)) (b : Int) : St := sT 60 [(1, dI a), (3, .ptr 1 0 [] 0), (7, dD (.int .u64) (c.getD g.toNat (Ty.zero (.int .u64)))), (8, dI (IntKind.i64.wrap (a + (IntKind.i64.wrap (64 * g))))), (10, dD (.sl (.int .u64)) c), (11, dI d), (12, dI g)] [.row 221 .deep (.int .u64) (i.set (IntKind.i64.wrap (Int.tdiv (IntKind.i64.wrap (a + (IntKind.i64.wrap (64 * g)))) 64)).toNat (orI .u64 (i.getD (IntKind.i64.wrap (Int.tdiv (IntKind.i64.wrap (a + (IntKind.i64.wrap (64 * g)))) 64)).toNat (Ty.zero (.int .u64))) (shlI .u64 (c.getD g.toNat (Ty.zero (.int .u64))) (Int.tmod (IntKind.i64.wrap (a + (IntKind.i64.wrap (64 * g)))) 64)))), .box (.pr (dI b) (.pr (.ref 0) .u))]
def XC (a : Int) (c : (List Int)) (g : Int) (d : Int) (i : (List Int)) (b : Int) (m0 : Bool) : Ex × St := (.normal, sT 60 [(1, dI a), (3, .ptr 1 0 [] 0), (7, dD (.int .u64) (c.getD g.toNat (Ty.zero (.int .u64)))), (8, dI (IntKind.i64.wrap (a + (IntKind.i64.wrap (64 * g))))), (10, dD (.sl (.int .u64)) c), (11, dI d), (12, dI g), (44, dB m0)] [.row 221 .deep (.int .u64) (i.set (IntKind.i64.wrap (Int.tdiv (IntKind.i64.wrap (a + (IntKind.i64.wrap (64 * g)))) 64)).toNat (orI .u64 (i.getD (IntKind.i64.wrap (Int.tdiv (IntKind.i64.wrap (a + (IntKind.i64.wrap (64 * g)))) 64)).toNat (Ty.zero (.int .u64))) (shlI .u64 (c.getD g.toNat (Ty.zero (.int .u64))) (Int.tmod (IntKind.i64.wrap (a + (IntKind.i64.wrap (64 * g)))) 64)))), .box (.pr (dI b) (.pr (.ref 0) .u))])
theorem Af2 (a : Int) (c : (List Int)) (g : Int) (d : Int) (i : (List Int)) (b : Int) : jnS E80 1 7 (sub (sub (code Tryz.f245) [1, 1, 0, 0]) [1, 1, 0]) [0, 1, 1, 1, 0] (Yl a c g d i b) = some (XC a c g d i b (((Int.tmod (IntKind.i64.wrap (a + (IntKind.i64.wrap (64 * g)))) 64) != 0) && (decide ((IntKind.i64.wrap ((IntKind.i64.wrap (Int.tdiv (IntKind.i64.wrap (a + (IntKind.i64.wrap (64 * g)))) 64)) + 1)) < ((i.set (IntKind.i64.wrap (Int.tdiv (IntKind.i64.wrap (a + (IntKind.i64.wrap (64 * g)))) 64)).toNat (orI .u64 (i.getD (IntKind.i64.wrap (Int.tdiv (IntKind.i64.wrap (a + (IntKind.i64.wrap (64 * g)))) 64)).toNat (Ty.zero (.int .u64))) (shlI .u64 (c.getD g.toNat (Ty.zero (.int .u64))) (Int.tmod (IntKind.i64.wrap (a + (IntKind.i64.wrap (64 * g)))) 64)))).length : Int))))) := by
  have h0 : jnS E80 1 7 (sub (sub (code Tryz.f245) [1, 1, 0, 0]) [1, 1, 0]) [0, 1, 1, 1, 0] (Yl a c g d i b) =
 bif ((Int.tmod (IntKind.i64.wrap (a + (IntKind.i64.wrap (64 * g)))) 64) != 0) then
 some (XC a c g d i b (decide ((IntKind.i64.wrap ((IntKind.i64.wrap (Int.tdiv (IntKind.i64.wrap (a + (IntKind.i64.wrap (64 * g)))) 64)) + 1)) < ((i.set (IntKind.i64.wrap (Int.tdiv (IntKind.i64.wrap (a + (IntKind.i64.wrap (64 * g)))) 64)).toNat (orI .u64 (i.getD (IntKind.i64.wrap (Int.tdiv (IntKind.i64.wrap (a + (IntKind.i64.wrap (64 * g)))) 64)).toNat (Ty.zero (.int .u64))) (shlI .u64 (c.getD g.toNat (Ty.zero (.int .u64))) (Int.tmod (IntKind.i64.wrap (a + (IntKind.i64.wrap (64 * g)))) 64)))).length : Int))))
 else
 some (XC a c g d i b false) := by kernel_rfl
  rw [h0]
  cases h1 : ((Int.tmod (IntKind.i64.wrap (a + (IntKind.i64.wrap (64 * g)))) 64) != 0)
  · first | rfl | kernel_rfl
  · first | rfl | kernel_rfl
def D9 (a : Int) (c : (List Int)) (d : Int) (g : Int) (i : (List Int)) (b : Int) : Option (List Int) :=
 if (0 : Int) ≤ g ∧ g < (c.length : Int) then
 if (0 : Int) ≤ (IntKind.i64.wrap (Int.tdiv (IntKind.i64.wrap (a + (IntKind.i64.wrap (64 * g)))) 64)) ∧ (IntKind.i64.wrap (Int.tdiv (IntKind.i64.wrap (a + (IntKind.i64.wrap (64 * g)))) 64)) < (i.length : Int) then
 if (Int.tmod (IntKind.i64.wrap (a + (IntKind.i64.wrap (64 * g)))) 64) < (0 : Int) then none else
 if (0 : Int) ≤ (IntKind.i64.wrap (Int.tdiv (IntKind.i64.wrap (a + (IntKind.i64.wrap (64 * g)))) 64)) ∧ (IntKind.i64.wrap (Int.tdiv (IntKind.i64.wrap (a + (IntKind.i64.wrap (64 * g)))) 64)) < (i.length : Int) then
 mkr (Yl a c g d i b) (
 bif (((Int.tmod (IntKind.i64.wrap (a + (IntKind.i64.wrap (64 * g)))) 64) != 0) && (decide ((IntKind.i64.wrap ((IntKind.i64.wrap (Int.tdiv (IntKind.i64.wrap (a + (IntKind.i64.wrap (64 * g)))) 64)) + 1)) < ((i.set (IntKind.i64.wrap (Int.tdiv (IntKind.i64.wrap (a + (IntKind.i64.wrap (64 * g)))) 64)).toNat (orI .u64 (i.getD (IntKind.i64.wrap (Int.tdiv (IntKind.i64.wrap (a + (IntKind.i64.wrap (64 * g)))) 64)).toNat (Ty.zero (.int .u64))) (shlI .u64 (c.getD g.toNat (Ty.zero (.int .u64))) (Int.tmod (IntKind.i64.wrap (a + (IntKind.i64.wrap (64 * g)))) 64)))).length : Int)))) then
 if (0 : Int) ≤ (IntKind.i64.wrap ((IntKind.i64.wrap (Int.tdiv (IntKind.i64.wrap (a + (IntKind.i64.wrap (64 * g)))) 64)) + 1)) ∧ (IntKind.i64.wrap ((IntKind.i64.wrap (Int.tdiv (IntKind.i64.wrap (a + (IntKind.i64.wrap (64 * g)))) 64)) + 1)) < ((i.set (IntKind.i64.wrap (Int.tdiv (IntKind.i64.wrap (a + (IntKind.i64.wrap (64 * g)))) 64)).toNat (orI .u64 (i.getD (IntKind.i64.wrap (Int.tdiv (IntKind.i64.wrap (a + (IntKind.i64.wrap (64 * g)))) 64)).toNat (Ty.zero (.int .u64))) (shlI .u64 (c.getD g.toNat (Ty.zero (.int .u64))) (Int.tmod (IntKind.i64.wrap (a + (IntKind.i64.wrap (64 * g)))) 64)))).length : Int) then
 if (IntKind.i64.wrap (64 - (Int.tmod (IntKind.i64.wrap (a + (IntKind.i64.wrap (64 * g)))) 64))) < (0 : Int) then none else
 if (0 : Int) ≤ (IntKind.i64.wrap ((IntKind.i64.wrap (Int.tdiv (IntKind.i64.wrap (a + (IntKind.i64.wrap (64 * g)))) 64)) + 1)) ∧ (IntKind.i64.wrap ((IntKind.i64.wrap (Int.tdiv (IntKind.i64.wrap (a + (IntKind.i64.wrap (64 * g)))) 64)) + 1)) < ((i.set (IntKind.i64.wrap (Int.tdiv (IntKind.i64.wrap (a + (IntKind.i64.wrap (64 * g)))) 64)).toNat (orI .u64 (i.getD (IntKind.i64.wrap (Int.tdiv (IntKind.i64.wrap (a + (IntKind.i64.wrap (64 * g)))) 64)).toNat (Ty.zero (.int .u64))) (shlI .u64 (c.getD g.toNat (Ty.zero (.int .u64))) (Int.tmod (IntKind.i64.wrap (a + (IntKind.i64.wrap (64 * g)))) 64)))).length : Int) then
 some ((i.set (IntKind.i64.wrap (Int.tdiv (IntKind.i64.wrap (a + (IntKind.i64.wrap (64 * g)))) 64)).toNat (orI .u64 (i.getD (IntKind.i64.wrap (Int.tdiv (IntKind.i64.wrap (a + (IntKind.i64.wrap (64 * g)))) 64)).toNat (Ty.zero (.int .u64))) (shlI .u64 (c.getD g.toNat (Ty.zero (.int .u64))) (Int.tmod (IntKind.i64.wrap (a + (IntKind.i64.wrap (64 * g)))) 64)))).set (IntKind.i64.wrap ((IntKind.i64.wrap (Int.tdiv (IntKind.i64.wrap (a + (IntKind.i64.wrap (64 * g)))) 64)) + 1)).toNat (orI .u64 ((i.set (IntKind.i64.wrap (Int.tdiv (IntKind.i64.wrap (a + (IntKind.i64.wrap (64 * g)))) 64)).toNat (orI .u64 (i.getD (IntKind.i64.wrap (Int.tdiv (IntKind.i64.wrap (a + (IntKind.i64.wrap (64 * g)))) 64)).toNat (Ty.zero (.int .u64))) (shlI .u64 (c.getD g.toNat (Ty.zero (.int .u64))) (Int.tmod (IntKind.i64.wrap (a + (IntKind.i64.wrap (64 * g)))) 64)))).getD (IntKind.i64.wrap ((IntKind.i64.wrap (Int.tdiv (IntKind.i64.wrap (a + (IntKind.i64.wrap (64 * g)))) 64)) + 1)).toNat (Ty.zero (.int .u64))) (shrI .u64 (c.getD g.toNat (Ty.zero (.int .u64))) (IntKind.i64.wrap (64 - (Int.tmod (IntKind.i64.wrap (a + (IntKind.i64.wrap (64 * g)))) 64))))))
 else none
 else none
 else
 some (i.set (IntKind.i64.wrap (Int.tdiv (IntKind.i64.wrap (a + (IntKind.i64.wrap (64 * g)))) 64)).toNat (orI .u64 (i.getD (IntKind.i64.wrap (Int.tdiv (IntKind.i64.wrap (a + (IntKind.i64.wrap (64 * g)))) 64)).toNat (Ty.zero (.int .u64))) (shlI .u64 (c.getD g.toNat (Ty.zero (.int .u64))) (Int.tmod (IntKind.i64.wrap (a + (IntKind.i64.wrap (64 * g)))) 64)))))
 else none
 else none
 else none
theorem Aff (a : Int) (c : (List Int)) (d : Int) (g : Int) (i : (List Int)) (b : Int) : JnOk E80 1 8 (sub (code Tryz.f245) [1, 1, 0, 0]) [1, 1, 0] (Ae2 a c d g i b) (D9 a c d g i b) (Afl a c d g i b) := by
  unfold JnOk
  simp only [D9, mC, mI, mN, mB, mE, mM]
  simp (disch := refine sI ?_ <;> (repeat' refine sA ?_ ?_) <;> intro _ <;> kernel_rfl) only [DB (Af2 _ _ _ _ _ _) (K := joinK 1 (E80.jn 8))]
  kernel_rfl
def EF (a : Int) (b : Int) (c : (List Int)) (d : Int) (g : Int) (i : (List Int)) : Option ((Int × (List Int)) ⊕ (List Int)) :=
 bif (decide (g < d)) then
 (D9 a c d g i b).bind fun j =>
 some (.inl ((IntKind.i64.wrap (g + 1)), j))
 else
 some (.inr i)
def CJ (a : Int) (b : Int) (c : (List Int)) (d : Int) (z_ : (Int × (List Int))) := EF a b c d z_.1 z_.2
def Iz (a : Int) (b : Int) (c : (List Int)) (d : Int) (g : Int) (i : (List Int)) := fix (CJ a b c d) (g, i)
theorem AgN (a : Int) (b : Int) (c : (List Int)) (d : Int) : LpOk E80 1 2 (code Tryz.f245) [1, 1, 0] (Agz a b c d) (CJ a b c d) (AdP a b c d) := by
  intro _
  simp only [CJ, EF, mC, mI, mN, mB, mE, mM]
  simp (disch := refine sI ?_ <;> (repeat' refine sA ?_ ?_) <;> intro _ <;> kernel_rfl) only [AX (Aff _ _ _ _ _ _) (K := stepK 1 (E80.hd 2) (E80.ot 2))]
  kernel_rfl
def DU (b : Int) (a : Int) (k : Aj.V) (l : (List Int)) : Option (List Int) :=
 (Iz a b k.2.1 (k.2.1.length : Int) 0 l).bind fun e =>
 some e
theorem U80 (R : Type) (b : Int) (a : Int) (k : Aj.V) (l : (List Int)) (K : AV → List Blk → Option R) : runF E80 Tryz.f245 R [.pr (dI b) (.pr (.ref 0) .u), dI a, dD Aj k] [.row 221 .deep (.int .u64) l] K = (DU b a k l).bind fun r => K .nil [.row 221 .deep (.int .u64) r] := by
  simp only [DU, bC, bI, bN, bE, bA, bS, bO, bM]
  simp (disch := refine sI ?_ <;> (repeat' refine sA ?_ ?_) <;> intro _ <;> kernel_rfl) only [Iz, AC (AgN _ _ _ _) (K := finK E80 Tryz.f245 1 R K)]
  kernel_rfl
def c245 : Va.Callee := brC [.raw, .d (.int .i64), .d Aj] [⟨[.pr (.dat [] (.int .i64)) (.pr (.k (.ref 0)) (.k .u)), .dat [] (.int .i64), .dat [] Aj], [.row 221 .deep (.int .u64)], (List Int), fun p => DU p.1.1.1 p.1.2.1 p.1.2.2.1 p.2.1, fun r => (.nil, [.row 221 .deep (.int .u64) r])⟩]
theorem Vj : SoundC Tryz.prog 245 c245 := Ao (fn := Tryz.f245) (by kernel_rfl) (by kernel_rfl) (by kernel_rfl) ⟨⟨E80, ⟨⟨tabok, Am trivial⟩, mixed⟩, fun p R K => U80 R p.1.1.1 p.1.2.1 p.1.2.2.1 p.2.1 K⟩, trivial⟩
abbrev E81 : Env := ⟨tab, lookH [(208, c208), (245, c245)], { deep := true }⟩
def BK (a : Aj.V) (b : Aj.V) : Option (Int × (List Int)) :=
 (Cb (IntKind.i64.wrap (a.1 + b.1))).bind fun c =>
 (DU c.1 0 b c.2).bind fun d =>
 (DU c.1 b.1 a d).bind fun e =>
 some (c.1, e)
theorem U81 (R : Type) (a : Aj.V) (b : Aj.V) (K : AV → List Blk → Option R) : runF E81 Tryz.f226 R [dD Aj a, dD Aj b] [] K = (BK a b).bind fun r => K (.pr (dI r.1) (.pr (.ref 0) .u)) [.row 221 .deep (.int .u64) r.2] := by
  simp only [BK, bC, bI, bN, bE, bA, bS, bO, bM]
  kernel_rfl
def c226 : Va.Callee := brC [.d Aj, .d Aj] [⟨[.dat [] Aj, .dat [] Aj], [], (Int × (List Int)), fun p => BK p.1.1 p.1.2.1, fun r => (.pr (dI r.1) (.pr (.ref 0) .u), [.row 221 .deep (.int .u64) r.2])⟩]
theorem RE : SoundC Tryz.prog 226 c226 := Ao (fn := Tryz.f226) (by kernel_rfl) (by kernel_rfl) (by kernel_rfl) ⟨⟨E81, ⟨⟨tabok, Am ⟨Ol, Vj, trivial⟩⟩, mixed⟩, fun p R K => U81 R p.1.1 p.1.2.1 K⟩, trivial⟩
abbrev E82 : Env := ⟨tab, lookH [(225, c225), (226, c226)], { heads := [(2, { live := [0, 8, 9, 10], pre := [(0, false, .row [] 196 Ab false)] })], outs := [(2, { live := [0] })], joins := [(6, { live := [0, 6, 7, 8, 9, 10, 27] }), (9, { live := [0, 6, 7, 8, 9, 10] }), (10, { live := [0, 8, 9, 10] })], ents := [(6, [0, 6, 7, 8, 9, 10]), (9, [0, 6, 7, 8, 9, 10]), (10, [0, 8, 9, 10])] }⟩
def Aiu (a : (List Ab.V)) (b : Int) (z_ : (Int × (List Ab.V))) : St := sT 59 [(0, .ref 0), (8, dD (.sl Ab) a), (9, dI b), (10, dI z_.1)] [.row 196 (.sh []) Ab z_.2]
def Af7 (a : (List Ab.V)) (b : Int) : (List Ab.V) → Ex × St := fun c => ((.exit 0), sT 59 [(0, .ref 0)] [.row 196 (.sh []) Ab c])
def Agr (a : (List Ab.V)) (b : Int) (d : Int) (e : (List Ab.V)) : St := sT 59 [(0, .ref 0), (8, dD (.sl Ab) a), (9, dI b), (10, dI d)] [.row 196 (.sh []) Ab e]
def Aig (a : (List Ab.V)) (b : Int) (d : Int) (e : (List Ab.V)) : (List Ab.V) → Ex × St := fun g => (.normal, sT 59 [(0, .ref 0), (8, dD (.sl Ab) a), (9, dI b), (10, dI d)] [.row 196 (.sh []) Ab g])
def AfZ (a : (List Ab.V)) (b : Int) (d : Int) (e : (List Ab.V)) (i : Int) (j : Ab.V) : St := sT 59 [(0, .ref 0), (6, .ptr 1 0 [] 0), (7, dI i), (8, dD (.sl Ab) a), (9, dI b), (10, dI d)] [.row 196 (.sh []) Ab e, .box (dD Ab j)]
def Ac6 (a : (List Ab.V)) (b : Int) (d : Int) (e : (List Ab.V)) (i : Int) (j : Ab.V) : (List Ab.V) → Ex × St := fun k => (.normal, sT 59 [(0, .ref 0), (6, .ptr 1 0 [] 0), (7, dI i), (8, dD (.sl Ab) a), (9, dI b), (10, dI d)] [.row 196 (.sh []) Ab k, .box (dD Ab j)])
def IT (a : (List Ab.V)) (b : Int) (d : Int) (e : (List Ab.V)) (i : Int) (j : Ab.V) : Option (List Ab.V) :=
 bif (j.1 == (-1)) then
 if (0 : Int) ≤ i ∧ i < (e.length : Int) then
 (BK j.2.2.2.1 (e.getD i.toNat (Ty.zero Ab)).2.2.2.1).bind fun l =>
 if (0 : Int) ≤ i ∧ i < (e.length : Int) then
 some (e.set i.toNat ((e.getD i.toNat (Ty.zero Ab)).1, (e.getD i.toNat (Ty.zero Ab)).2.1, (e.getD i.toNat (Ty.zero Ab)).2.2.1, (l.1, l.2, ()), (e.getD i.toNat (Ty.zero Ab)).2.2.2.2))
 else none
 else none
 else
 some e
theorem AgM (a : (List Ab.V)) (b : Int) (d : Int) (e : (List Ab.V)) (i : Int) (j : Ab.V) : JnOk E82 0 9 (sub (sub (code Tryz.f195) [1, 0, 1, 0, 0]) [1, 1, 0]) [0, 1, 1, 1, 0] (AfZ a b d e i j) (IT a b d e i j) (Ac6 a b d e i j) := by
  unfold JnOk
  simp only [IT, mC, mI, mN, mB, mE, mM]
  kernel_rfl
def Afz (a : (List Ab.V)) (b : Int) (d : Int) (e : (List Ab.V)) (n : Int) (o : Ab.V) : St := sT 59 [(0, .ref 0), (6, .ptr 1 0 [] 0), (7, dI n), (8, dD (.sl Ab) a), (9, dI b), (10, dI d)] [.row 196 (.sh []) Ab e, .box (dD Ab o)]
def Ah1 (a : (List Ab.V)) (b : Int) (d : Int) (e : (List Ab.V)) (n : Int) (o : Ab.V) : Bool → Ex × St := fun q => (.normal, sT 59 [(0, .ref 0), (6, .ptr 1 0 [] 0), (7, dI n), (8, dD (.sl Ab) a), (9, dI b), (10, dI d), (27, dB q)] [.row 196 (.sh []) Ab e, .box (dD Ab o)])
def I7 (a : (List Ab.V)) (b : Int) (d : Int) (e : (List Ab.V)) (n : Int) (o : Ab.V) : Option Bool :=
 bif (decide (n < 0)) then
 some true
 else
 if (0 : Int) ≤ n ∧ n < (e.length : Int) then
 some (!(A3 (e.getD n.toNat (Ty.zero Ab)) o))
 else none
theorem AfU (a : (List Ab.V)) (b : Int) (d : Int) (e : (List Ab.V)) (n : Int) (o : Ab.V) : JnOk E82 0 6 (sub (sub (code Tryz.f195) [1, 0, 1, 0, 0]) [1, 1, 0]) [0, 1, 1, 0, 0] (Afz a b d e n o) (I7 a b d e n o) (Ah1 a b d e n o) := by
  unfold JnOk
  simp only [I7, mC, mI, mN, mB, mE, mM]
  kernel_rfl
def I0 (a : (List Ab.V)) (b : Int) (d : Int) (e : (List Ab.V)) : Option (List Ab.V) :=
 if (0 : Int) ≤ d ∧ d < (a.length : Int) then
 (I7 a b d e (IntKind.i64.wrap ((e.length : Int) - 1)) (a.getD d.toNat (Ty.zero Ab))).bind fun q =>
 bif q then
 if (e.length + ([(a.getD d.toNat (Ty.zero Ab))] : List Ab.V).length) * 56 ≤ 140737488355328 then
 some (e ++ ([(a.getD d.toNat (Ty.zero Ab))] : List Ab.V))
 else none
 else
 (IT a b d e (IntKind.i64.wrap ((e.length : Int) - 1)) (a.getD d.toNat (Ty.zero Ab))).bind fun k =>
 if (0 : Int) ≤ (IntKind.i64.wrap ((e.length : Int) - 1)) ∧ (IntKind.i64.wrap ((e.length : Int) - 1)) < (k.length : Int) then
 if (0 : Int) ≤ (IntKind.i64.wrap ((e.length : Int) - 1)) ∧ (IntKind.i64.wrap ((e.length : Int) - 1)) < (k.length : Int) then
 some (k.set (IntKind.i64.wrap ((e.length : Int) - 1)).toNat ((k.getD (IntKind.i64.wrap ((e.length : Int) - 1)).toNat (Ty.zero Ab)).1, (k.getD (IntKind.i64.wrap ((e.length : Int) - 1)).toNat (Ty.zero Ab)).2.1, (IntKind.i64.wrap ((k.getD (IntKind.i64.wrap ((e.length : Int) - 1)).toNat (Ty.zero Ab)).2.2.1 + (a.getD d.toNat (Ty.zero Ab)).2.2.1)), (k.getD (IntKind.i64.wrap ((e.length : Int) - 1)).toNat (Ty.zero Ab)).2.2.2))
 else none
 else none
 else none
theorem AeJ (a : (List Ab.V)) (b : Int) (d : Int) (e : (List Ab.V)) : JnOk E82 0 10 (sub (code Tryz.f195) [1, 0, 1, 0, 0]) [1, 1, 0] (Agr a b d e) (I0 a b d e) (Aig a b d e) := by
  unfold JnOk
  simp only [I0, mC, mI, mN, mB, mE, mM]
  simp (disch := refine sI ?_ <;> (repeat' refine sA ?_ ?_) <;> intro _ <;> kernel_rfl) only [AX (AfU _ _ _ _ _ _) (K := joinK 0 (E82.jn 10)), AX (AgM _ _ _ _ _ _) (K := joinK 0 (E82.jn 10))]
  kernel_rfl
def JX (a : (List Ab.V)) (b : Int) (d : Int) (e : (List Ab.V)) : Option ((Int × (List Ab.V)) ⊕ (List Ab.V)) :=
 bif (decide (d < b)) then
 (I0 a b d e).bind fun g =>
 some (.inl ((IntKind.i64.wrap (d + 1)), g))
 else
 some (.inr e)
def HT (a : (List Ab.V)) (b : Int) (z_ : (Int × (List Ab.V))) := JX a b z_.1 z_.2
def KA (a : (List Ab.V)) (b : Int) (d : Int) (e : (List Ab.V)) := fix (HT a b) (d, e)
theorem AhH (a : (List Ab.V)) (b : Int) : LpOk E82 0 2 (code Tryz.f195) [1, 0, 1, 0] (Aiu a b) (HT a b) (Af7 a b) := by
  intro _
  simp only [HT, JX, mC, mI, mN, mB, mE, mM]
  simp (disch := refine sI ?_ <;> (repeat' refine sA ?_ ?_) <;> intro _ <;> kernel_rfl) only [AX (AeJ _ _ _ _) (K := stepK 0 (E82.hd 2) (E82.ot 2))]
  kernel_rfl
def Kv (a : (List Ab.V)) : Option (List Ab.V) :=
 (KA a (a.length : Int) 0 ([] : List Ab.V)).bind fun c =>
 some c
theorem U82 (R : Type) (a : (List Ab.V)) (K : AV → List Blk → Option R) : runF E82 Tryz.f195 R [.zs, dD (.sl Ab) a] [] K = (Kv a).bind fun r => K (.ref 0) [.row 196 (.sh []) Ab r] := by
  simp only [Kv, bC, bI, bN, bE, bA, bS, bO, bM]
  simp (disch := refine sI ?_ <;> (repeat' refine sA ?_ ?_) <;> intro _ <;> kernel_rfl) only [KA, AC (AhH _ _) (K := finK E82 Tryz.f195 0 R K)]
  kernel_rfl
abbrev E83 : Env := ⟨tab, lookH [(225, c225), (226, c226)], { heads := [(2, { live := [0, 8, 9, 10], mv := [0] })], outs := [(2, { live := [0] })], joins := [(6, { live := [0, 6, 7, 8, 9, 10, 27] }), (9, { live := [0, 6, 7, 8, 9, 10] }), (10, { live := [0, 8, 9, 10], mv := [0] })], ents := [(6, [0, 6, 7, 8, 9, 10]), (9, [0, 6, 7, 8, 9, 10]), (10, [0, 8, 9, 10])] }⟩
def AgH (a : (List Ab.V)) (b : Int) (z_ : (Int × (List Ab.V))) : St := sT 59 [(0, .ref 1), (8, dD (.sl Ab) a), (9, dI b), (10, dI z_.1)] [.dead, .row 196 (.sh []) Ab z_.2]
def Ahw (a : (List Ab.V)) (b : Int) : (List Ab.V) → Ex × St := fun c => ((.exit 0), sT 59 [(0, .ref 1)] [.dead, .row 196 (.sh []) Ab c])
def AfO (a : (List Ab.V)) (b : Int) (d : Int) (e : (List Ab.V)) : St := sT 59 [(0, .ref 1), (8, dD (.sl Ab) a), (9, dI b), (10, dI d)] [.dead, .row 196 (.sh []) Ab e]
def Ahc (a : (List Ab.V)) (b : Int) (d : Int) (e : (List Ab.V)) : (List Ab.V) → Ex × St := fun g => (.normal, sT 59 [(0, .ref 1), (8, dD (.sl Ab) a), (9, dI b), (10, dI d)] [.dead, .row 196 (.sh []) Ab g])
def Ada (a : (List Ab.V)) (b : Int) (d : Int) (e : (List Ab.V)) (i : Int) (j : Ab.V) : St := sT 59 [(0, .ref 1), (6, .ptr 2 0 [] 0), (7, dI i), (8, dD (.sl Ab) a), (9, dI b), (10, dI d)] [.dead, .row 196 (.sh []) Ab e, .box (dD Ab j)]
def AhO (a : (List Ab.V)) (b : Int) (d : Int) (e : (List Ab.V)) (i : Int) (j : Ab.V) : (List Ab.V) → Ex × St := fun k => (.normal, sT 59 [(0, .ref 1), (6, .ptr 2 0 [] 0), (7, dI i), (8, dD (.sl Ab) a), (9, dI b), (10, dI d)] [.dead, .row 196 (.sh []) Ab k, .box (dD Ab j)])
def EY (a : (List Ab.V)) (b : Int) (d : Int) (e : (List Ab.V)) (i : Int) (j : Ab.V) : Option (List Ab.V) :=
 bif (j.1 == (-1)) then
 if (0 : Int) ≤ i ∧ i < (e.length : Int) then
 (BK j.2.2.2.1 (e.getD i.toNat (Ty.zero Ab)).2.2.2.1).bind fun l =>
 if (0 : Int) ≤ i ∧ i < (e.length : Int) then
 some (e.set i.toNat ((e.getD i.toNat (Ty.zero Ab)).1, (e.getD i.toNat (Ty.zero Ab)).2.1, (e.getD i.toNat (Ty.zero Ab)).2.2.1, (l.1, l.2, ()), (e.getD i.toNat (Ty.zero Ab)).2.2.2.2))
 else none
 else none
 else
 some e
theorem AgU (a : (List Ab.V)) (b : Int) (d : Int) (e : (List Ab.V)) (i : Int) (j : Ab.V) : JnOk E83 1 9 (sub (sub (code Tryz.f195) [1, 0, 1, 0, 0]) [1, 1, 0]) [0, 1, 1, 1, 0] (Ada a b d e i j) (EY a b d e i j) (AhO a b d e i j) := by
  unfold JnOk
  simp only [EY, mC, mI, mN, mB, mE, mM]
  kernel_rfl
def Adr (a : (List Ab.V)) (b : Int) (d : Int) (e : (List Ab.V)) (n : Int) (o : Ab.V) : St := sT 59 [(0, .ref 1), (6, .ptr 2 0 [] 0), (7, dI n), (8, dD (.sl Ab) a), (9, dI b), (10, dI d)] [.dead, .row 196 (.sh []) Ab e, .box (dD Ab o)]
def AhS (a : (List Ab.V)) (b : Int) (d : Int) (e : (List Ab.V)) (n : Int) (o : Ab.V) : Bool → Ex × St := fun q => (.normal, sT 59 [(0, .ref 1), (6, .ptr 2 0 [] 0), (7, dI n), (8, dD (.sl Ab) a), (9, dI b), (10, dI d), (27, dB q)] [.dead, .row 196 (.sh []) Ab e, .box (dD Ab o)])
def EZ (a : (List Ab.V)) (b : Int) (d : Int) (e : (List Ab.V)) (n : Int) (o : Ab.V) : Option Bool :=
 bif (decide (n < 0)) then
 some true
 else
 if (0 : Int) ≤ n ∧ n < (e.length : Int) then
 some (!(A3 (e.getD n.toNat (Ty.zero Ab)) o))
 else none
theorem Afa (a : (List Ab.V)) (b : Int) (d : Int) (e : (List Ab.V)) (n : Int) (o : Ab.V) : JnOk E83 1 6 (sub (sub (code Tryz.f195) [1, 0, 1, 0, 0]) [1, 1, 0]) [0, 1, 1, 0, 0] (Adr a b d e n o) (EZ a b d e n o) (AhS a b d e n o) := by
  unfold JnOk
  simp only [EZ, mC, mI, mN, mB, mE, mM]
  kernel_rfl
def EW (a : (List Ab.V)) (b : Int) (d : Int) (e : (List Ab.V)) : Option (List Ab.V) :=
 if (0 : Int) ≤ d ∧ d < (a.length : Int) then
 (EZ a b d e (IntKind.i64.wrap ((e.length : Int) - 1)) (a.getD d.toNat (Ty.zero Ab))).bind fun q =>
 bif q then
 if (e.length + ([(a.getD d.toNat (Ty.zero Ab))] : List Ab.V).length) * 56 ≤ 140737488355328 then
 some (e ++ ([(a.getD d.toNat (Ty.zero Ab))] : List Ab.V))
 else none
 else
 (EY a b d e (IntKind.i64.wrap ((e.length : Int) - 1)) (a.getD d.toNat (Ty.zero Ab))).bind fun k =>
 if (0 : Int) ≤ (IntKind.i64.wrap ((e.length : Int) - 1)) ∧ (IntKind.i64.wrap ((e.length : Int) - 1)) < (k.length : Int) then
 if (0 : Int) ≤ (IntKind.i64.wrap ((e.length : Int) - 1)) ∧ (IntKind.i64.wrap ((e.length : Int) - 1)) < (k.length : Int) then
 some (k.set (IntKind.i64.wrap ((e.length : Int) - 1)).toNat ((k.getD (IntKind.i64.wrap ((e.length : Int) - 1)).toNat (Ty.zero Ab)).1, (k.getD (IntKind.i64.wrap ((e.length : Int) - 1)).toNat (Ty.zero Ab)).2.1, (IntKind.i64.wrap ((k.getD (IntKind.i64.wrap ((e.length : Int) - 1)).toNat (Ty.zero Ab)).2.2.1 + (a.getD d.toNat (Ty.zero Ab)).2.2.1)), (k.getD (IntKind.i64.wrap ((e.length : Int) - 1)).toNat (Ty.zero Ab)).2.2.2))
 else none
 else none
 else none
theorem Ae6 (a : (List Ab.V)) (b : Int) (d : Int) (e : (List Ab.V)) : JnOk E83 1 10 (sub (code Tryz.f195) [1, 0, 1, 0, 0]) [1, 1, 0] (AfO a b d e) (EW a b d e) (Ahc a b d e) := by
  unfold JnOk
  simp only [EW, mC, mI, mN, mB, mE, mM]
  simp (disch := refine sI ?_ <;> (repeat' refine sA ?_ ?_) <;> intro _ <;> kernel_rfl) only [AX (Afa _ _ _ _ _ _) (K := joinK 1 (E83.jn 10)), AX (AgU _ _ _ _ _ _) (K := joinK 1 (E83.jn 10))]
  kernel_rfl
def FG (a : (List Ab.V)) (b : Int) (d : Int) (e : (List Ab.V)) : Option ((Int × (List Ab.V)) ⊕ (List Ab.V)) :=
 bif (decide (d < b)) then
 (EW a b d e).bind fun g =>
 some (.inl ((IntKind.i64.wrap (d + 1)), g))
 else
 some (.inr e)
def BB (a : (List Ab.V)) (b : Int) (z_ : (Int × (List Ab.V))) := FG a b z_.1 z_.2
def IQ (a : (List Ab.V)) (b : Int) (d : Int) (e : (List Ab.V)) := fix (BB a b) (d, e)
theorem Ady (a : (List Ab.V)) (b : Int) : LpOk E83 1 2 (code Tryz.f195) [1, 0, 1, 0] (AgH a b) (BB a b) (Ahw a b) := by
  intro _
  simp only [BB, FG, mC, mI, mN, mB, mE, mM]
  simp (disch := refine sI ?_ <;> (repeat' refine sA ?_ ?_) <;> intro _ <;> kernel_rfl) only [AX (Ae6 _ _ _ _) (K := stepK 1 (E83.hd 2) (E83.ot 2))]
  kernel_rfl
def AO (a : (List Ab.V)) (s : (List Ab.V)) : Option (List Ab.V) :=
 (IQ a (a.length : Int) 0 s).bind fun c =>
 some c
theorem U83 (R : Type) (a : (List Ab.V)) (s : (List Ab.V)) (K : AV → List Blk → Option R) : runF E83 Tryz.f195 R [.ref 0, dD (.sl Ab) a] [.row 196 (.sh []) Ab s] K = (AO a s).bind fun r => K (.ref 1) [.dead, .row 196 (.sh []) Ab r] := by
  simp only [AO, bC, bI, bN, bE, bA, bS, bO, bM]
  simp (disch := refine sI ?_ <;> (repeat' refine sA ?_ ?_) <;> intro _ <;> kernel_rfl) only [IQ, AC (Ady _ _) (K := finK E83 Tryz.f195 1 R K)]
  kernel_rfl
def c195 : Va.Callee := brC [.raw, .d (.sl Ab)] [⟨[.k .zs, .dat [] (.sl Ab)], [], (List Ab.V), fun p => Kv p.1.2.1, fun r => (.ref 0, [.row 196 (.sh []) Ab r])⟩, ⟨[.k (.ref 0), .dat [] (.sl Ab)], [.row 196 (.sh []) Ab], (List Ab.V), fun p => AO p.1.2.1 p.2.1, fun r => (.ref 1, [.dead, .row 196 (.sh []) Ab r])⟩]
theorem NL : SoundC Tryz.prog 195 c195 := Ao (fn := Tryz.f195) (by kernel_rfl) (by kernel_rfl) (by kernel_rfl) ⟨⟨E82, ⟨⟨tabok, Am ⟨Oe, RE, trivial⟩⟩, mixed⟩, fun p R K => U82 R p.1.2.1 K⟩, ⟨E83, ⟨⟨tabok, Am ⟨Oe, RE, trivial⟩⟩, mixed⟩, fun p R K => U83 R p.1.2.1 p.2.1 K⟩, trivial⟩
abbrev E84 : Env := ⟨tab, lookH [], { deep := true, heads := [(3, { live := [3, 6, 7, 8] })], outs := [(3, { live := [3] })] }⟩
def Ag9 (a : (List Ab.V)) (b : Int) (z_ : (Int × Int)) : St := sT 18 [(3, dI z_.1), (6, dD (.sl Ab) a), (7, dI b), (8, dI z_.2)] []
def Aft (a : (List Ab.V)) (b : Int) : Int → Ex × St := fun c => ((.exit 0), sT 18 [(3, dI c)] [])
def DE (a : (List Ab.V)) (b : Int) (d : Int) (e : Int) : Option ((Int × Int) ⊕ Int) :=
 bif (decide (e < b)) then
 if (0 : Int) ≤ e ∧ e < (a.length : Int) then
 some (.inl ((IntKind.i64.wrap (d + (a.getD e.toNat (Ty.zero Ab)).2.2.1)), (IntKind.i64.wrap (e + 1))))
 else none
 else
 some (.inr d)
def A7 (a : (List Ab.V)) (b : Int) (z_ : (Int × Int)) := DE a b z_.1 z_.2
def HE (a : (List Ab.V)) (b : Int) (d : Int) (e : Int) := fix (A7 a b) (d, e)
theorem AhV (a : (List Ab.V)) (b : Int) : LpOk E84 0 3 (code Tryz.f129) [1, 1, 0, 1, 0] (Ag9 a b) (A7 a b) (Aft a b) := by
  intro _
  simp only [A7, DE, mC, mI, mN, mB, mE, mM]
  kernel_rfl
def Bg (a : (List Ab.V)) : Option Int :=
 (HE a (a.length : Int) 0 0).bind fun c =>
 some c
theorem U84 (R : Type) (a : (List Ab.V)) (K : AV → List Blk → Option R) : runF E84 Tryz.f129 R [dD (.sl Ab) a] [] K = (Bg a).bind fun r => K (dI r) [] := by
  simp only [Bg, bC, bI, bN, bE, bA, bS, bO, bM]
  simp (disch := refine sI ?_ <;> (repeat' refine sA ?_ ?_) <;> intro _ <;> kernel_rfl) only [HE, AC (AhV _ _) (K := finK E84 Tryz.f129 0 R K)]
  kernel_rfl
def c129 : Va.Callee := brC [.d (.sl Ab)] [⟨[.dat [] (.sl Ab)], [], Int, fun p => Bg p.1.1, fun r => (dI r, [])⟩]
theorem Os : SoundC Tryz.prog 129 c129 := Ao (fn := Tryz.f129) (by kernel_rfl) (by kernel_rfl) (by kernel_rfl) ⟨⟨E84, ⟨⟨tabok, Am trivial⟩, mixed⟩, fun p R K => U84 R p.1.1 K⟩, trivial⟩
abbrev E85 : Env := ⟨tab, lookH [(208, c208)], { deep := true, heads := [(3, { live := [1, 2, 3, 6, 7, 15, 16] })], outs := [(3, { live := [2, 6, 7] })], joins := [(8, { live := [1, 2, 3, 6, 7, 8, 9, 15, 16, 47] }), (9, { live := [1, 2, 3, 6, 7, 15, 16] }), (13, { live := [6, 7] })], ents := [(8, [1, 2, 3, 6, 7, 8, 9, 15, 16]), (9, [1, 2, 3, 6, 7, 15, 16]), (13, [2, 6, 7])] }⟩
def AgY (a : Int) (b : (List Int)) (c : Int) : St := sT 85 [(2, dI a), (6, .ptr 0 0 [] 0), (7, .ptr 1 0 [] 0)] [.box (.pr (dI 0) (.pr .zs .u)), .box (.pr (dI c) (.pr (.ref 2) .u)), .row 221 .deep (.int .u64) b]
def AgS (a : Int) (b : (List Int)) (c : Int) : (List Int) → Ex × St := fun d => (.normal, sT 85 [(6, .ptr 0 0 [] 0), (7, .ptr 1 0 [] 0)] [.box (.pr (dI 0) (.pr .zs .u)), .box (.pr (dI c) (.pr (.ref 2) .u)), .row 221 .deep (.int .u64) d])
def F6 (a : Int) (b : (List Int)) (c : Int) : Option (List Int) :=
 bif ((Int.tmod a 64) != 0) then
 if (0 : Int) ≤ (IntKind.i64.wrap ((b.length : Int) - 1)) ∧ (IntKind.i64.wrap ((b.length : Int) - 1)) < (b.length : Int) then
 if (Int.tmod a 64) < (0 : Int) then none else
 if (0 : Int) ≤ (IntKind.i64.wrap ((b.length : Int) - 1)) ∧ (IntKind.i64.wrap ((b.length : Int) - 1)) < (b.length : Int) then
 some (b.set (IntKind.i64.wrap ((b.length : Int) - 1)).toNat (andI .u64 (b.getD (IntKind.i64.wrap ((b.length : Int) - 1)).toNat (Ty.zero (.int .u64))) (IntKind.u64.wrap ((shlI .u64 1 (Int.tmod a 64)) - 1))))
 else none
 else none
 else
 some b
theorem Aij (a : Int) (b : (List Int)) (c : Int) : JnOk E85 0 13 (code Tryz.f178) [1, 1, 1, 0] (AgY a b c) (F6 a b c) (AgS a b c) := by
  unfold JnOk
  simp only [F6, mC, mI, mN, mB, mE, mM]
  kernel_rfl
def Ael (e : Int) (a : Int) (g : Aj.V) (i : Int) (j : Int) (z_ : (Int × (List Int))) : St := sT 85 [(1, dI e), (2, dI a), (3, .ptr 0 0 [] 0), (6, .ptr 1 0 [] 0), (7, .ptr 2 0 [] 0), (15, dI i), (16, dI z_.1)] [.box (dD Aj g), .box (.pr (dI 0) (.pr .zs .u)), .box (.pr (dI j) (.pr (.ref 3) .u)), .row 221 .deep (.int .u64) z_.2]
def AfK (e : Int) (a : Int) (g : Aj.V) (i : Int) (j : Int) : (List Int) → Ex × St := fun b => ((.exit 0), sT 85 [(2, dI a), (6, .ptr 0 0 [] 0), (7, .ptr 1 0 [] 0)] [.box (.pr (dI 0) (.pr .zs .u)), .box (.pr (dI j) (.pr (.ref 2) .u)), .row 221 .deep (.int .u64) b])
def Agc (e : Int) (a : Int) (i : Int) (k : Int) (g : Aj.V) (j : Int) (l : (List Int)) : St := sT 85 [(1, dI e), (2, dI a), (3, .ptr 0 0 [] 0), (6, .ptr 1 0 [] 0), (7, .ptr 2 0 [] 0), (15, dI i), (16, dI k)] [.box (dD Aj g), .box (.pr (dI 0) (.pr .zs .u)), .box (.pr (dI j) (.pr (.ref 3) .u)), .row 221 .deep (.int .u64) l]
def Agx (e : Int) (a : Int) (i : Int) (k : Int) (g : Aj.V) (j : Int) (l : (List Int)) : (List Int) → Ex × St := fun n => (.normal, sT 85 [(1, dI e), (2, dI a), (3, .ptr 0 0 [] 0), (6, .ptr 1 0 [] 0), (7, .ptr 2 0 [] 0), (15, dI i), (16, dI k)] [.box (dD Aj g), .box (.pr (dI 0) (.pr .zs .u)), .box (.pr (dI j) (.pr (.ref 3) .u)), .row 221 .deep (.int .u64) n])
def X9 (e : Int) (a : Int) (k : Int) (i : Int) (g : Aj.V) (j : Int) (l : (List Int)) : St := sT 85 [(1, dI e), (2, dI a), (3, .ptr 0 0 [] 0), (6, .ptr 1 0 [] 0), (7, .ptr 2 0 [] 0), (8, dI k), (9, dI (IntKind.i64.wrap (e + (IntKind.i64.wrap (64 * k))))), (15, dI i), (16, dI k)] [.box (dD Aj g), .box (.pr (dI 0) (.pr .zs .u)), .box (.pr (dI j) (.pr (.ref 3) .u)), .row 221 .deep (.int .u64) (l.set k.toNat (shrI .u64 (g.2.1.getD (IntKind.i64.wrap (Int.tdiv (IntKind.i64.wrap (e + (IntKind.i64.wrap (64 * k)))) 64)).toNat (Ty.zero (.int .u64))) (Int.tmod (IntKind.i64.wrap (e + (IntKind.i64.wrap (64 * k)))) 64)))]
def YD (e : Int) (a : Int) (k : Int) (i : Int) (g : Aj.V) (j : Int) (l : (List Int)) (m0 : Bool) : Ex × St := (.normal, sT 85 [(1, dI e), (2, dI a), (3, .ptr 0 0 [] 0), (6, .ptr 1 0 [] 0), (7, .ptr 2 0 [] 0), (8, dI k), (9, dI (IntKind.i64.wrap (e + (IntKind.i64.wrap (64 * k))))), (15, dI i), (16, dI k), (47, dB m0)] [.box (dD Aj g), .box (.pr (dI 0) (.pr .zs .u)), .box (.pr (dI j) (.pr (.ref 3) .u)), .row 221 .deep (.int .u64) (l.set k.toNat (shrI .u64 (g.2.1.getD (IntKind.i64.wrap (Int.tdiv (IntKind.i64.wrap (e + (IntKind.i64.wrap (64 * k)))) 64)).toNat (Ty.zero (.int .u64))) (Int.tmod (IntKind.i64.wrap (e + (IntKind.i64.wrap (64 * k)))) 64)))])
theorem AgI (e : Int) (a : Int) (k : Int) (i : Int) (g : Aj.V) (j : Int) (l : (List Int)) : jnS E85 0 8 (sub (sub (code Tryz.f178) [1, 1, 0, 1, 0, 0]) [1, 1, 0]) [0, 1, 1, 1, 0] (X9 e a k i g j l) = some (YD e a k i g j l (((Int.tmod (IntKind.i64.wrap (e + (IntKind.i64.wrap (64 * k)))) 64) != 0) && (decide ((IntKind.i64.wrap ((IntKind.i64.wrap (Int.tdiv (IntKind.i64.wrap (e + (IntKind.i64.wrap (64 * k)))) 64)) + 1)) < (g.2.1.length : Int))))) := by
  have h0 : jnS E85 0 8 (sub (sub (code Tryz.f178) [1, 1, 0, 1, 0, 0]) [1, 1, 0]) [0, 1, 1, 1, 0] (X9 e a k i g j l) =
 bif ((Int.tmod (IntKind.i64.wrap (e + (IntKind.i64.wrap (64 * k)))) 64) != 0) then
 some (YD e a k i g j l (decide ((IntKind.i64.wrap ((IntKind.i64.wrap (Int.tdiv (IntKind.i64.wrap (e + (IntKind.i64.wrap (64 * k)))) 64)) + 1)) < (g.2.1.length : Int))))
 else
 some (YD e a k i g j l false) := by kernel_rfl
  rw [h0]
  cases h1 : ((Int.tmod (IntKind.i64.wrap (e + (IntKind.i64.wrap (64 * k)))) 64) != 0)
  · first | rfl | kernel_rfl
  · first | rfl | kernel_rfl
def D1 (e : Int) (a : Int) (i : Int) (k : Int) (g : Aj.V) (j : Int) (l : (List Int)) : Option (List Int) :=
 if (0 : Int) ≤ (IntKind.i64.wrap (Int.tdiv (IntKind.i64.wrap (e + (IntKind.i64.wrap (64 * k)))) 64)) ∧ (IntKind.i64.wrap (Int.tdiv (IntKind.i64.wrap (e + (IntKind.i64.wrap (64 * k)))) 64)) < (g.2.1.length : Int) then
 if (Int.tmod (IntKind.i64.wrap (e + (IntKind.i64.wrap (64 * k)))) 64) < (0 : Int) then none else
 if (0 : Int) ≤ k ∧ k < (l.length : Int) then
 mkr (X9 e a k i g j l) (
 bif (((Int.tmod (IntKind.i64.wrap (e + (IntKind.i64.wrap (64 * k)))) 64) != 0) && (decide ((IntKind.i64.wrap ((IntKind.i64.wrap (Int.tdiv (IntKind.i64.wrap (e + (IntKind.i64.wrap (64 * k)))) 64)) + 1)) < (g.2.1.length : Int)))) then
 if (0 : Int) ≤ k ∧ k < ((l.set k.toNat (shrI .u64 (g.2.1.getD (IntKind.i64.wrap (Int.tdiv (IntKind.i64.wrap (e + (IntKind.i64.wrap (64 * k)))) 64)).toNat (Ty.zero (.int .u64))) (Int.tmod (IntKind.i64.wrap (e + (IntKind.i64.wrap (64 * k)))) 64))).length : Int) then
 if (0 : Int) ≤ (IntKind.i64.wrap ((IntKind.i64.wrap (Int.tdiv (IntKind.i64.wrap (e + (IntKind.i64.wrap (64 * k)))) 64)) + 1)) ∧ (IntKind.i64.wrap ((IntKind.i64.wrap (Int.tdiv (IntKind.i64.wrap (e + (IntKind.i64.wrap (64 * k)))) 64)) + 1)) < (g.2.1.length : Int) then
 if (IntKind.i64.wrap (64 - (Int.tmod (IntKind.i64.wrap (e + (IntKind.i64.wrap (64 * k)))) 64))) < (0 : Int) then none else
 if (0 : Int) ≤ k ∧ k < ((l.set k.toNat (shrI .u64 (g.2.1.getD (IntKind.i64.wrap (Int.tdiv (IntKind.i64.wrap (e + (IntKind.i64.wrap (64 * k)))) 64)).toNat (Ty.zero (.int .u64))) (Int.tmod (IntKind.i64.wrap (e + (IntKind.i64.wrap (64 * k)))) 64))).length : Int) then
 some ((l.set k.toNat (shrI .u64 (g.2.1.getD (IntKind.i64.wrap (Int.tdiv (IntKind.i64.wrap (e + (IntKind.i64.wrap (64 * k)))) 64)).toNat (Ty.zero (.int .u64))) (Int.tmod (IntKind.i64.wrap (e + (IntKind.i64.wrap (64 * k)))) 64))).set k.toNat (orI .u64 ((l.set k.toNat (shrI .u64 (g.2.1.getD (IntKind.i64.wrap (Int.tdiv (IntKind.i64.wrap (e + (IntKind.i64.wrap (64 * k)))) 64)).toNat (Ty.zero (.int .u64))) (Int.tmod (IntKind.i64.wrap (e + (IntKind.i64.wrap (64 * k)))) 64))).getD k.toNat (Ty.zero (.int .u64))) (shlI .u64 (g.2.1.getD (IntKind.i64.wrap ((IntKind.i64.wrap (Int.tdiv (IntKind.i64.wrap (e + (IntKind.i64.wrap (64 * k)))) 64)) + 1)).toNat (Ty.zero (.int .u64))) (IntKind.i64.wrap (64 - (Int.tmod (IntKind.i64.wrap (e + (IntKind.i64.wrap (64 * k)))) 64))))))
 else none
 else none
 else none
 else
 some (l.set k.toNat (shrI .u64 (g.2.1.getD (IntKind.i64.wrap (Int.tdiv (IntKind.i64.wrap (e + (IntKind.i64.wrap (64 * k)))) 64)).toNat (Ty.zero (.int .u64))) (Int.tmod (IntKind.i64.wrap (e + (IntKind.i64.wrap (64 * k)))) 64))))
 else none
 else none
theorem Af6 (e : Int) (a : Int) (i : Int) (k : Int) (g : Aj.V) (j : Int) (l : (List Int)) : JnOk E85 0 9 (sub (code Tryz.f178) [1, 1, 0, 1, 0, 0]) [1, 1, 0] (Agc e a i k g j l) (D1 e a i k g j l) (Agx e a i k g j l) := by
  unfold JnOk
  simp only [D1, mC, mI, mN, mB, mE, mM]
  simp (disch := refine sI ?_ <;> (repeat' refine sA ?_ ?_) <;> intro _ <;> kernel_rfl) only [DB (AgI _ _ _ _ _ _ _) (K := joinK 0 (E85.jn 9))]
  kernel_rfl
def EI (e : Int) (a : Int) (g : Aj.V) (i : Int) (j : Int) (k : Int) (l : (List Int)) : Option ((Int × (List Int)) ⊕ (List Int)) :=
 bif (decide (k < i)) then
 (D1 e a i k g j l).bind fun n =>
 some (.inl ((IntKind.i64.wrap (k + 1)), n))
 else
 some (.inr l)
def CU (e : Int) (a : Int) (g : Aj.V) (i : Int) (j : Int) (z_ : (Int × (List Int))) := EI e a g i j z_.1 z_.2
def Gf (e : Int) (a : Int) (g : Aj.V) (i : Int) (j : Int) (k : Int) (l : (List Int)) := fix (CU e a g i j) (k, l)
theorem AfN (e : Int) (a : Int) (g : Aj.V) (i : Int) (j : Int) : LpOk E85 0 3 (code Tryz.f178) [1, 1, 0, 1, 0] (Ael e a g i j) (CU e a g i j) (AfK e a g i j) := by
  intro _
  simp only [CU, EI, mC, mI, mN, mB, mE, mM]
  simp (disch := refine sI ?_ <;> (repeat' refine sA ?_ ?_) <;> intro _ <;> kernel_rfl) only [AX (Af6 _ _ _ _ _ _ _) (K := stepK 0 (E85.hd 3) (E85.ot 3))]
  kernel_rfl
def CZ (g : Aj.V) (e : Int) (a : Int) : Option (Int × (List Int)) :=
 (Cb a).bind fun o =>
 (Gf e a g (o.2.length : Int) o.1 0 o.2).bind fun b =>
 (F6 a b o.1).bind fun d =>
 some (o.1, d)
theorem U85 (R : Type) (g : Aj.V) (e : Int) (a : Int) (K : AV → List Blk → Option R) : runF E85 Tryz.f178 R [dD Aj g, dI e, dI a] [] K = (CZ g e a).bind fun r => K (.pr (dI r.1) (.pr (.ref 0) .u)) [.row 221 .deep (.int .u64) r.2] := by
  simp only [CZ, bC, bI, bN, bE, bA, bS, bO, bM]
  simp (disch := refine sI ?_ <;> (repeat' refine sA ?_ ?_) <;> intro _ <;> kernel_rfl) only [Gf, AC (AfN _ _ _ _ _) (K := finK E85 Tryz.f178 0 R K), AX (Aij _ _ _) (K := finK E85 Tryz.f178 0 R K)]
  kernel_rfl
def c178 : Va.Callee := brC [.d Aj, .d (.int .i64), .d (.int .i64)] [⟨[.dat [] Aj, .dat [] (.int .i64), .dat [] (.int .i64)], [], (Int × (List Int)), fun p => CZ p.1.1 p.1.2.1 p.1.2.2.1, fun r => (.pr (dI r.1) (.pr (.ref 0) .u), [.row 221 .deep (.int .u64) r.2])⟩]
theorem Vu : SoundC Tryz.prog 178 c178 := Ao (fn := Tryz.f178) (by kernel_rfl) (by kernel_rfl) (by kernel_rfl) ⟨⟨E85, ⟨⟨tabok, Am ⟨Ol, trivial⟩⟩, mixed⟩, fun p R K => U85 R p.1.1 p.1.2.1 p.1.2.2.1 K⟩, trivial⟩
abbrev E86 : Env := ⟨tab, lookH [(178, c178), (206, c206)], { deep := true, res := [(0, .row [3, 1] 221 (.int .u64) true)] }⟩
def FM (a : Ab.V) (b : Int) (c : Int) : Option (Int × Int × Int × Int × (List Int)) :=
 bif (a.1 == (-1)) then
 (CZ a.2.2.2.1 b c).bind fun d =>
 some ((An d.1 d.2).1, (An d.1 d.2).2.1, (An d.1 d.2).2.2.1, (An d.1 d.2).2.2.2.1, (An d.1 d.2).2.2.2.2)
 else
 some (a.1, (IntKind.i64.wrap (a.2.1 + b)), c, 0, ([] : List Int))
theorem U86 (R : Type) (a : Ab.V) (b : Int) (c : Int) (K : AV → List Blk → Option R) : runF E86 Tryz.f223 R [dD Ab a, dI b, dI c] [] K = (FM a b c).bind fun r => K (.pr (dI r.1) (.pr (dI r.2.1) (.pr (dI r.2.2.1) (.pr (.pr (dI r.2.2.2.1) (.pr (.ref 0) .u)) .u)))) [.row 221 .deep (.int .u64) r.2.2.2.2] := by
  simp only [FM, bC, bI, bN, bE, bA, bS, bO, bM]
  kernel_rfl
def c223 : Va.Callee := brC [.d Ab, .d (.int .i64), .d (.int .i64)] [⟨[.dat [] Ab, .dat [] (.int .i64), .dat [] (.int .i64)], [], (Int × Int × Int × Int × (List Int)), fun p => FM p.1.1 p.1.2.1 p.1.2.2.1, fun r => (.pr (dI r.1) (.pr (dI r.2.1) (.pr (dI r.2.2.1) (.pr (.pr (dI r.2.2.2.1) (.pr (.ref 0) .u)) .u))), [.row 221 .deep (.int .u64) r.2.2.2.2])⟩]
theorem Wk : SoundC Tryz.prog 223 c223 := Ao (fn := Tryz.f223) (by kernel_rfl) (by kernel_rfl) (by kernel_rfl) ⟨⟨E86, ⟨⟨tabok, Am ⟨Vu, Q6, trivial⟩⟩, mixed⟩, fun p R K => U86 R p.1.1 p.1.2.1 p.1.2.2.1 K⟩, trivial⟩
abbrev E87 : Env := ⟨tab, lookH [(195, c195), (223, c223)], { deep := true, heads := [(4, { live := [1, 2, 7, 8, 14, 15, 16], pre := [(7, false, .row [] 196 Ab false)] })], outs := [(4, { live := [7] })], joins := [(9, { live := [1, 2, 7, 8, 10, 14, 15, 16], pre := [(7, false, .row [] 196 Ab false)] })], ents := [(9, [1, 2, 7, 8, 10, 11, 12, 14, 15, 16])], frzd := [(43, (.sl Ab))] }⟩
def Aii (a : Int) (b : Int) (c : (List Ab.V)) (d : Int) (z_ : (Int × Int × (List Ab.V))) : St := sT 51 [(1, dI a), (2, dI b), (7, .ref 0), (8, dI z_.1), (14, dD (.sl Ab) c), (15, dI d), (16, dI z_.2.1)] [.row 196 (.sh []) Ab z_.2.2]
def Ago (a : Int) (b : Int) (c : (List Ab.V)) (d : Int) : (List Ab.V) → Ex × St := fun e => ((.exit 0), sT 51 [(7, .ref 0)] [.row 196 (.sh []) Ab e])
def Adf (a : Int) (b : Int) (g : Int) (c : (List Ab.V)) (d : Int) (i : Int) (j : (List Ab.V)) (k : Int) (l : Int) (n : Ab.V) : St := sT 51 [(1, dI a), (2, dI b), (7, .ref 0), (8, dI g), (10, .ptr 1 0 [] 0), (11, dI k), (12, dI l), (14, dD (.sl Ab) c), (15, dI d), (16, dI i)] [.row 196 (.sh []) Ab j, .box (dD Ab n)]
def AeI (a : Int) (b : Int) (g : Int) (c : (List Ab.V)) (d : Int) (i : Int) (j : (List Ab.V)) (k : Int) (l : Int) (n : Ab.V) : (List Ab.V) → Ex × St := fun o => (.normal, sT 51 [(1, dI a), (2, dI b), (7, .ref 0), (8, dI g), (10, .ptr 1 0 [] 0), (14, dD (.sl Ab) c), (15, dI d), (16, dI i)] [.row 196 (.sh []) Ab o, .box (dD Ab n)])
def Gj (a : Int) (b : Int) (g : Int) (c : (List Ab.V)) (d : Int) (i : Int) (j : (List Ab.V)) (k : Int) (l : Int) (n : Ab.V) : Option (List Ab.V) :=
 bif (decide (k < l)) then
 (FM n (IntKind.i64.wrap (k - g)) (IntKind.i64.wrap (l - k))).bind fun q =>
 (AO ([(q.1, q.2.1, q.2.2.1, (q.2.2.2.1, q.2.2.2.2, ()), ())] : List Ab.V) j).bind fun s =>
 some s
 else
 some j
theorem AeZ (a : Int) (b : Int) (g : Int) (c : (List Ab.V)) (d : Int) (i : Int) (j : (List Ab.V)) (k : Int) (l : Int) (n : Ab.V) : JnOk E87 0 9 (sub (code Tryz.f193) [1, 1, 1, 0, 1, 0, 0]) [1, 1, 0, 0, 1, 1, 0] (Adf a b g c d i j k l n) (Gj a b g c d i j k l n) (AeI a b g c d i j k l n) := by
  unfold JnOk
  simp only [Gj, mC, mI, mN, mB, mE, mM]
  kernel_rfl
def EA (a : Int) (b : Int) (c : (List Ab.V)) (d : Int) (g : Int) (i : Int) (j : (List Ab.V)) : Option ((Int × Int × (List Ab.V)) ⊕ (List Ab.V)) :=
 bif (decide (i < d)) then
 if (0 : Int) ≤ i ∧ i < (c.length : Int) then
 (Gj a b g c d i j (if g > a then g else a) (if (IntKind.i64.wrap (g + (c.getD i.toNat (Ty.zero Ab)).2.2.1)) < (IntKind.i64.wrap (a + b)) then (IntKind.i64.wrap (g + (c.getD i.toNat (Ty.zero Ab)).2.2.1)) else (IntKind.i64.wrap (a + b))) (c.getD i.toNat (Ty.zero Ab))).bind fun o =>
 some (.inl ((IntKind.i64.wrap (g + (c.getD i.toNat (Ty.zero Ab)).2.2.1)), (IntKind.i64.wrap (i + 1)), o))
 else none
 else
 some (.inr j)
def BU (a : Int) (b : Int) (c : (List Ab.V)) (d : Int) (z_ : (Int × Int × (List Ab.V))) := EA a b c d z_.1 z_.2.1 z_.2.2
def Iq (a : Int) (b : Int) (c : (List Ab.V)) (d : Int) (g : Int) (i : Int) (j : (List Ab.V)) := fix (BU a b c d) (g, i, j)
theorem AfI (a : Int) (b : Int) (c : (List Ab.V)) (d : Int) : LpOk E87 0 4 (code Tryz.f193) [1, 1, 1, 0, 1, 0] (Aii a b c d) (BU a b c d) (Ago a b c d) := by
  intro _
  simp only [BU, EA, mC, mI, mN, mB, mE, mM]
  simp (disch := refine sI ?_ <;> (repeat' refine sA ?_ ?_) <;> intro _ <;> kernel_rfl) only [AX (AeZ _ _ _ _ _ _ _ _ _ _) (K := stepK 0 (E87.hd 4) (E87.ot 4))]
  kernel_rfl
def Bk (c : (List Ab.V)) (a : Int) (b : Int) : Option (List Ab.V) :=
 (Iq a b c (c.length : Int) 0 0 ([] : List Ab.V)).bind fun e =>
 some e
theorem U87 (R : Type) (c : (List Ab.V)) (a : Int) (b : Int) (K : AV → List Blk → Option R) : runF E87 Tryz.f193 R [dD (.sl Ab) c, dI a, dI b] [] K = (Bk c a b).bind fun r => K (.ref 0) [.row 196 (.sh []) Ab r] := by
  simp only [Bk, bC, bI, bN, bE, bA, bS, bO, bM]
  simp (disch := refine sI ?_ <;> (repeat' refine sA ?_ ?_) <;> intro _ <;> kernel_rfl) only [Iq, AC (AfI _ _ _ _) (K := finK E87 Tryz.f193 0 R K)]
  kernel_rfl
def c193 : Va.Callee := brC [.d (.sl Ab), .d (.int .i64), .d (.int .i64)] [⟨[.dat [] (.sl Ab), .dat [] (.int .i64), .dat [] (.int .i64)], [], (List Ab.V), fun p => Bk p.1.1 p.1.2.1 p.1.2.2.1, fun r => (.ref 0, [.row 196 (.sh []) Ab r])⟩]
theorem RA : SoundC Tryz.prog 193 c193 := Ao (fn := Tryz.f193) (by kernel_rfl) (by kernel_rfl) (by kernel_rfl) ⟨⟨E87, ⟨⟨tabok, Am ⟨NL, Wk, trivial⟩⟩, mixed⟩, fun p R K => U87 R p.1.1 p.1.2.1 p.1.2.2.1 K⟩, trivial⟩
end
end Go.Proofs.X
namespace Go.Proofs.X
open Go Go.Va
set_option maxRecDepth 100000
noncomputable section
noncomputable def c207 : Va.Callee := cloneC 196 Ab 56
noncomputable abbrev e207 : Env := { tab := tab, fns := lookH [], fi := { } }
theorem YC : ProgOk Tryz.prog e207 := ⟨⟨tabok, Am trivial⟩, mixed⟩
theorem V7 : SoundC Tryz.prog 207 c207 :=
  Mz (fn := Tryz.f207) YC (by kernel_rfl) (by kernel_rfl) rfl rfl rfl ⟨rfl, rfl, rfl⟩ ⟨rfl, rfl, rfl⟩ (ti := ⟨.sl Ab, [], 196, 24, 0⟩) (by kernel_rfl) rfl (by kernel_rfl) (fun xs => by kernel_rfl) (fun xs => by kernel_rfl)
    fun xs h => by
      have h0 : ev e207 0 (sub (code Tryz.f207) [1, 1]) (Ex × St) ⟨[.dat [] (.sl Ab) xs, .un 0, .zs, .dat [] (.sl Ab) xs, .bool false, .un 0, .un 0, .un 0], []⟩ pair2 = if xs.length * 56 ≤ 140737488355328 then some (.ret, ⟨[.dat [] (.sl Ab) xs, .un 0, .ref 0, .dat [] (.sl Ab) xs, .bool false, .zs, .dat [] (.sl Ab) xs, .ref 0], [.row 196 (.sh []) Ab xs]⟩) else none := by kernel_rfl
      exact h0.trans (if_pos h)
abbrev E88 : Env := ⟨tab, lookH [(129, c129), (160, c160), (193, c193), (195, c195), (206, c206), (207, c207), (208, c208)], { heads := [(9, { live := [2, 7, 8], pre := [(7, false, .row [] 196 Ab false)] }), (27, { live := [9, 12, 125, 126], pre := [(12, false, .row [] 196 Ab false)] }), (36, { live := [13, 14, 151, 152], frz := [(14, true, Ab)] })], outs := [(9, { live := [7] }), (27, { live := [12] }), (36, { live := [13] })], joins := [(20, { live := [0, 9, 10, 69, 88] }), (23, { live := [9, 10, 11] }), (35, { live := [0, 13, 14] })], ents := [(20, [0, 9, 10, 69]), (23, [0, 9, 10, 11]), (35, [0, 9, 10, 13, 14])], frzd := [(117, (.sl Ab)), (156, (.sl Ab))] }⟩
def Ae1 (a : Int) (b : Ab.V) (z_ : (Int × (List Ab.V))) : St := sT 160 [(13, .ref 0), (14, .ptr 1 0 [] 0), (151, dI a), (152, dI z_.1)] [.row 196 (.sh []) Ab z_.2, .box (dD Ab b)]
def AgK (a : Int) (b : Ab.V) : (List Ab.V) → Ex × St := fun c => ((.exit 6), sT 160 [(13, .ref 0)] [.row 196 (.sh []) Ab c])
def G2 (a : Int) (b : Ab.V) (d : Int) (e : (List Ab.V)) : Option ((Int × (List Ab.V)) ⊕ (List Ab.V)) :=
 bif (decide (d < a)) then
 (AO ([b] : List Ab.V) e).bind fun g =>
 some (.inl ((IntKind.i64.wrap (d + 1)), g))
 else
 some (.inr e)
def Cc (a : Int) (b : Ab.V) (z_ : (Int × (List Ab.V))) := G2 a b z_.1 z_.2
def ER (a : Int) (b : Ab.V) (d : Int) (e : (List Ab.V)) := fix (Cc a b) (d, e)
theorem Ahl (a : Int) (b : Ab.V) : LpOk E88 0 36 (code Tryz.f174) [1, 1, 1, 1, 1, 1, 1, 1, 0, 1, 0] (Ae1 a b) (Cc a b) (AgK a b) := by
  intro _
  simp only [Cc, G2, mC, mI, mN, mB, mE, mM]
  kernel_rfl
def Aho (i : Ab.V) (j : Int) (z_ : (Int × (List Ab.V))) : St := sT 160 [(13, .ref 0), (14, .ptr 1 0 [] 0), (151, dI j), (152, dI z_.1)] [.row 196 (.sh []) Ab z_.2, .box (dD Ab i)]
def AdE (i : Ab.V) (j : Int) : (List Ab.V) → Ex × St := fun k => ((.exit 6), sT 160 [(13, .ref 0)] [.row 196 (.sh []) Ab k])
def Hs (i : Ab.V) (j : Int) (l : Int) (n : (List Ab.V)) : Option ((Int × (List Ab.V)) ⊕ (List Ab.V)) :=
 bif (decide (l < j)) then
 (AO ([i] : List Ab.V) n).bind fun o =>
 some (.inl ((IntKind.i64.wrap (l + 1)), o))
 else
 some (.inr n)
def Cd (i : Ab.V) (j : Int) (z_ : (Int × (List Ab.V))) := Hs i j z_.1 z_.2
def EN (i : Ab.V) (j : Int) (l : Int) (n : (List Ab.V)) := fix (Cd i j) (l, n)
theorem Ag8 (i : Ab.V) (j : Int) : LpOk E88 0 36 (code Tryz.f174) [1, 1, 1, 1, 1, 1, 1, 1, 0, 1, 0] (Aho i j) (Cd i j) (AdE i j) := by
  intro _
  simp only [Cd, Hs, mC, mI, mN, mB, mE, mM]
  kernel_rfl
def AhC (q : Ad.V) (s : Int) (t : (List Ab.V)) (u : (List Ab.V)) (v : Int) (w : Int) (x : Int) (y : Int) (a1 : (List Int)) : St := sT 160 [(0, .rop [] Ad q), (9, dD (.sl Ab) t), (10, dI s), (13, .ref 0), (14, .ptr 1 0 [] 0)] [.row 196 (.sh []) Ab u, .box (.pr (dI v) (.pr (dI w) (.pr (dI x) (.pr (.pr (dI y) (.pr (.ref 2) .u)) .u)))), .row 221 .deep (.int .u64) a1]
def Adp (q : Ad.V) (s : Int) (t : (List Ab.V)) (u : (List Ab.V)) (v : Int) (w : Int) (x : Int) (y : Int) (a1 : (List Int)) : (Ab.V ⊕ Unit) → Ex × St := Sum.elim (fun i => (.normal, sT 160 [(0, .rop [] Ad q), (13, .ref 0), (14, .ptr 1 0 [] 0)] [.row 196 (.sh []) Ab u, .box (dD Ab i)])) (fun b1 => (.normal, sT 160 [(0, .rop [] Ad q), (13, .ref 0), (14, .ptr 1 0 [] 0)] [.row 196 (.sh []) Ab u, .box (.pr (dI v) (.pr (dI w) (.pr (dI x) (.pr (.pr (dI y) (.pr (.ref 2) .u)) .u)))), .row 221 .deep (.int .u64) a1]))
def AP (q : Ad.V) (s : Int) (t : (List Ab.V)) (u : (List Ab.V)) (v : Int) (w : Int) (x : Int) (y : Int) (a1 : (List Int)) : Option (Ab.V ⊕ Unit) :=
 bif (q.1 == 6) then
 (Bk t (IntKind.i64.wrap (s - 1)) 1).bind fun c1 =>
 if (0 : Int) ≤ (0 : Int) ∧ (0 : Int) < (c1.length : Int) then
 some (.inl (c1.getD 0 (Ty.zero Ab)))
 else none
 else
 some (.inr ())
theorem Aim (q : Ad.V) (s : Int) (t : (List Ab.V)) (u : (List Ab.V)) (v : Int) (w : Int) (x : Int) (y : Int) (a1 : (List Int)) : JnOk E88 0 35 (code Tryz.f174) [1, 1, 1, 1, 1, 1, 1, 0] (AhC q s t u v w x y a1) (AP q s t u v w x y a1) (Adp q s t u v w x y a1) := by
  unfold JnOk
  simp only [AP, mC, mI, mN, mB, mE, mM]
  kernel_rfl
def AdF (d1 : (List Ab.V)) (e1 : Int) (z_ : (Int × (List Ab.V))) : St := sT 160 [(9, dD (.sl Ab) d1), (12, .ref 0), (125, dI e1), (126, dI z_.1)] [.row 196 (.sh []) Ab z_.2]
def Ahu (d1 : (List Ab.V)) (e1 : Int) : (List Ab.V) → Ex × St := fun g1 => ((.exit 4), sT 160 [(12, .ref 0)] [.row 196 (.sh []) Ab g1])
def B8 (d1 : (List Ab.V)) (e1 : Int) (i1 : Int) (j1 : (List Ab.V)) : Option ((Int × (List Ab.V)) ⊕ (List Ab.V)) :=
 bif (decide (i1 < e1)) then
 (AO d1 j1).bind fun k1 =>
 some (.inl ((IntKind.i64.wrap (i1 + 1)), k1))
 else
 some (.inr j1)
def AU (d1 : (List Ab.V)) (e1 : Int) (z_ : (Int × (List Ab.V))) := B8 d1 e1 z_.1 z_.2
def CT (d1 : (List Ab.V)) (e1 : Int) (i1 : Int) (j1 : (List Ab.V)) := fix (AU d1 e1) (i1, j1)
theorem AfR (d1 : (List Ab.V)) (e1 : Int) : LpOk E88 0 27 (code Tryz.f174) [1, 1, 1, 1, 0, 1, 0, 1, 1, 1, 1, 1, 0, 1, 0, 1, 0] (AdF d1 e1) (AU d1 e1) (Ahu d1 e1) := by
  intro _
  simp only [AU, B8, mC, mI, mN, mB, mE, mM]
  kernel_rfl
def Afr (q : Ad.V) (s : Int) (l1 : (List Ab.V)) (n1 : Int) : St := sT 160 [(0, .rop [] Ad q), (9, dD (.sl Ab) l1), (10, dI s), (11, dI n1)] []
def Af4 (q : Ad.V) (s : Int) (l1 : (List Ab.V)) (n1 : Int) : Int → Ex × St := fun o1 => (.normal, sT 160 [(9, dD (.sl Ab) l1), (10, dI s), (11, dI o1)] [])
def BQ (q : Ad.V) (s : Int) (l1 : (List Ab.V)) (n1 : Int) : Option Int :=
 bif (q.1 == 8) then
 if s = (0 : Int) then none else
 some (Int.tmod (IntKind.i64.wrap (s - n1)) s)
 else
 some n1
theorem AhD (q : Ad.V) (s : Int) (l1 : (List Ab.V)) (n1 : Int) : JnOk E88 0 23 (code Tryz.f174) [1, 1, 1, 1, 0, 1, 0, 1, 1, 1, 0, 1, 0] (Afr q s l1 n1) (BQ q s l1 n1) (Af4 q s l1 n1) := by
  unfold JnOk
  simp only [BQ, mC, mI, mN, mB, mE, mM]
  kernel_rfl
def Yq (q : Ad.V) (q1 : (List (List Ab.V))) (s : Int) : St := sT 160 [(0, .rop [] Ad q), (9, dD (.sl Ab) (q1.getD 0 (Ty.zero (.sl Ab)))), (10, dI s), (69, dI q.1)] []
def Y7 (q : Ad.V) (q1 : (List (List Ab.V))) (s : Int) (m0 : Bool) : Ex × St := (.normal, sT 160 [(0, .rop [] Ad q), (9, dD (.sl Ab) (q1.getD 0 (Ty.zero (.sl Ab)))), (10, dI s), (69, dI q.1), (88, dB m0)] [])
theorem Ac4 (q : Ad.V) (q1 : (List (List Ab.V))) (s : Int) : jnS E88 0 20 (code Tryz.f174) [1, 1, 1, 1, 0, 1, 0, 1, 1, 0] (Yq q q1 s) = some (Y7 q q1 s (bif (q.1 == 7) then (q.1 == 7) else (q.1 == 8))) := by
  have h0 : jnS E88 0 20 (code Tryz.f174) [1, 1, 1, 1, 0, 1, 0, 1, 1, 0] (Yq q q1 s) =
 bif (q.1 == 7) then
 some (Y7 q q1 s (q.1 == 7))
 else
 some (Y7 q q1 s (q.1 == 8)) := by kernel_rfl
  rw [h0]
  cases h1 : (q.1 == 7)
  · first | rfl | kernel_rfl
  · first | rfl | kernel_rfl
def AhP (q1 : (List (List Ab.V))) (z_ : (Int × (List Ab.V))) : St := sT 160 [(2, dD (.sl (.sl Ab)) q1), (7, .ref 0), (8, dI z_.1)] [.row 196 (.sh []) Ab z_.2]
def Aef (q1 : (List (List Ab.V))) : (List Ab.V) → Ex × St := fun s1 => ((.exit 1), sT 160 [(7, .ref 0)] [.row 196 (.sh []) Ab s1])
def Ca (q1 : (List (List Ab.V))) (t1 : Int) (u1 : (List Ab.V)) : Option ((Int × (List Ab.V)) ⊕ (List Ab.V)) :=
 bif (decide (t1 ≥ 0)) then
 if (0 : Int) ≤ t1 ∧ t1 < (q1.length : Int) then
 (AO (q1.getD t1.toNat (Ty.zero (.sl Ab))) u1).bind fun v1 =>
 some (.inl ((IntKind.i64.wrap (t1 - 1)), v1))
 else none
 else
 some (.inr u1)
def AI (q1 : (List (List Ab.V))) (z_ : (Int × (List Ab.V))) := Ca q1 z_.1 z_.2
def CX (q1 : (List (List Ab.V))) (t1 : Int) (u1 : (List Ab.V)) := fix (AI q1) (t1, u1)
theorem Ahj (q1 : (List (List Ab.V))) : LpOk E88 0 9 (code Tryz.f174) [1, 0, 1, 0, 1, 1, 1, 1, 1, 0, 1, 0, 1, 0] (AhP q1) (AI q1) (Aef q1) := by
  intro _
  simp only [AI, Ca, mC, mI, mN, mB, mE, mM]
  kernel_rfl
def BV (q : Ad.V) (w1 : (List Ae.V)) (q1 : (List (List Ab.V))) : Option (List Ab.V) :=
 bif (q.1 == 1) then
 if (0 : Int) ≤ q.2.1 ∧ q.2.1 < (w1.length : Int) then
 some ([(q.2.1, 0, (w1.getD q.2.1.toNat (Ty.zero Ae)).2.1, (0, ([] : List Int), ()), ())] : List Ab.V)
 else none
 else
 bif (q.1 == 2) then
 (Bh q.2.2.2.2.1).bind fun x1 =>
 some ([((An x1.1 x1.2).1, (An x1.1 x1.2).2.1, (An x1.1 x1.2).2.2.1, ((An x1.1 x1.2).2.2.2.1, (An x1.1 x1.2).2.2.2.2, ()), ())] : List Ab.V)
 else
 bif (q.1 == 3) then
 (CX q1 (IntKind.i64.wrap ((q1.length : Int) - 1)) ([] : List Ab.V)).bind fun s1 =>
 some s1
 else
 if (0 : Int) ≤ (0 : Int) ∧ (0 : Int) < (q1.length : Int) then
 (Bg (q1.getD 0 (Ty.zero (.sl Ab)))).bind fun s =>
 bif (q.1 == 4) then
 (Bk (q1.getD 0 (Ty.zero (.sl Ab))) q.2.2.2.1 (IntKind.i64.wrap ((IntKind.i64.wrap (q.2.2.1 - q.2.2.2.1)) + 1))).bind fun y1 =>
 some y1
 else
 mkr (Yq q q1 s) (
 bif (bif (q.1 == 7) then (q.1 == 7) else (q.1 == 8)) then
 if s = (0 : Int) then none else
 (BQ q s (q1.getD 0 (Ty.zero (.sl Ab))) (Int.tmod q.2.2.1 s)).bind fun o1 =>
 (Bk (q1.getD 0 (Ty.zero (.sl Ab))) (IntKind.i64.wrap (s - o1)) o1).bind fun a2 =>
 (Bk (q1.getD 0 (Ty.zero (.sl Ab))) 0 (IntKind.i64.wrap (s - o1))).bind fun b2 =>
 (AO b2 a2).bind fun c2 =>
 some c2
 else
 bif (q.1 == 9) then
 (CT (q1.getD 0 (Ty.zero (.sl Ab))) q.2.2.1 0 ([] : List Ab.V)).bind fun g1 =>
 some g1
 else
 if (q1.getD 0 (Ty.zero (.sl Ab))).length * 56 ≤ 140737488355328 then
 (Cb 1).bind fun d2 =>
 (AP q s (q1.getD 0 (Ty.zero (.sl Ab))) (q1.getD 0 (Ty.zero (.sl Ab))) (An d2.1 d2.2).1 (An d2.1 d2.2).2.1 (An d2.1 d2.2).2.2.1 (An d2.1 d2.2).2.2.2.1 (An d2.1 d2.2).2.2.2.2).bind (Sum.elim (fun i =>
 (EN i q.2.2.1 0 (q1.getD 0 (Ty.zero (.sl Ab)))).bind fun k =>
 some k) (fun b1 =>
 (ER q.2.2.1 ((An d2.1 d2.2).1, (An d2.1 d2.2).2.1, (An d2.1 d2.2).2.2.1, ((An d2.1 d2.2).2.2.2.1, (An d2.1 d2.2).2.2.2.2, ()), ()) 0 (q1.getD 0 (Ty.zero (.sl Ab)))).bind fun c =>
 some c))
 else none)
 else none
theorem U88 (R : Type) (q : Ad.V) (w1 : (List Ae.V)) (q1 : (List (List Ab.V))) (K : AV → List Blk → Option R) : runF E88 Tryz.f174 R [.rop [] Ad q, dD (.sl Ae) w1, dD (.sl (.sl Ab)) q1] [] K = (BV q w1 q1).bind fun r => K (.ref 0) [.row 196 (.sh []) Ab r] := by
  simp only [BV, bC, bI, bN, bE, bA, bS, bO, bM]
  simp (disch := refine sI ?_ <;> (repeat' refine sA ?_ ?_) <;> intro _ <;> kernel_rfl) only [CX, AC (Ahj _) (K := finK E88 Tryz.f174 0 R K), DB (Ac4 _ _ _) (K := finK E88 Tryz.f174 0 R K), AX (AhD _ _ _ _) (K := finK E88 Tryz.f174 0 R K), CT, AC (AfR _ _) (K := finK E88 Tryz.f174 0 R K), AX (Aim _ _ _ _ _ _ _ _ _) (K := finK E88 Tryz.f174 0 R K), EN, AC (Ag8 _ _) (K := finK E88 Tryz.f174 0 R K), ER, AC (Ahl _ _) (K := finK E88 Tryz.f174 0 R K)]
  kernel_rfl
def c174 : Va.Callee := brC [.p Ad, .d (.sl Ae), .d (.sl (.sl Ab))] [⟨[.rop [] Ad, .dat [] (.sl Ae), .dat [] (.sl (.sl Ab))], [], (List Ab.V), fun p => BV p.1.1 p.1.2.1 p.1.2.2.1, fun r => (.ref 0, [.row 196 (.sh []) Ab r])⟩]
theorem Wp : SoundC Tryz.prog 174 c174 := Ao (fn := Tryz.f174) (by kernel_rfl) (by kernel_rfl) (by kernel_rfl) ⟨⟨E88, ⟨⟨tabok, Am ⟨Os, Oq, RA, NL, Q6, V7, Ol, trivial⟩⟩, mixed⟩, fun p R K => U88 R p.1.1 p.1.2.1 p.1.2.2.1 K⟩, trivial⟩
abbrev E89 : Env := ⟨tab, lookH [(160, c160)], { deep := true, heads := [(3, { live := [3, 9, 10, 11] })], outs := [(3, { live := [3] })] }⟩
def AdA (a : (List Ab.V)) (b : Int) (z_ : (Int × (List Ab.V))) : St := sT 26 [(3, .ref 0), (9, dD (.sl Ab) a), (10, dI b), (11, dI z_.1)] [.row 196 .deep Ab z_.2]
def AfF (a : (List Ab.V)) (b : Int) : (List Ab.V) → Ex × St := fun c => ((.exit 0), sT 26 [(3, .ref 0)] [.row 196 .deep Ab c])
def DQ (a : (List Ab.V)) (b : Int) (d : Int) (e : (List Ab.V)) : Option ((Int × (List Ab.V)) ⊕ (List Ab.V)) :=
 bif (decide (d < b)) then
 if (0 : Int) ≤ d ∧ d < (a.length : Int) then
 (Bh (a.getD d.toNat (Ty.zero Ab)).2.2.2.1).bind fun g =>
 if (0 : Int) ≤ d ∧ d < (e.length : Int) then
 some (.inl ((IntKind.i64.wrap (d + 1)), (e.set d.toNat ((a.getD d.toNat (Ty.zero Ab)).1, (a.getD d.toNat (Ty.zero Ab)).2.1, (a.getD d.toNat (Ty.zero Ab)).2.2.1, (g.1, g.2, ()), (a.getD d.toNat (Ty.zero Ab)).2.2.2.2))))
 else none
 else none
 else
 some (.inr e)
def A9 (a : (List Ab.V)) (b : Int) (z_ : (Int × (List Ab.V))) := DQ a b z_.1 z_.2
def HB (a : (List Ab.V)) (b : Int) (d : Int) (e : (List Ab.V)) := fix (A9 a b) (d, e)
theorem AfP (a : (List Ab.V)) (b : Int) : LpOk E89 0 3 (code Tryz.f101) [1, 1, 0, 1, 0] (AdA a b) (A9 a b) (AfF a b) := by
  intro _
  simp only [A9, DQ, mC, mI, mN, mB, mE, mM]
  kernel_rfl
def Ak (a : (List Ab.V)) : Option (List Ab.V) :=
 if Ty.row Ab = true ∧ (0 : Int) ≤ (a.length : Int) ∧ (a.length : Int) ≤ (a.length : Int) ∧ ((56 : Nat) : Int) * (a.length : Int) ≤ (281474976710656 : Int) ∧ (a.length : Int) ≤ (9223372036854775807 : Int) then
 (HB a (a.length : Int) 0 (List.replicate (a.length : Int).toNat (0, 0, 0, (0, ([] : List Int), ()), ()))).bind fun c =>
 some c
 else none
theorem U89 (R : Type) (a : (List Ab.V)) (K : AV → List Blk → Option R) : runF E89 Tryz.f101 R [dD (.sl Ab) a] [] K = (Ak a).bind fun r => K (.ref 0) [.row 196 .deep Ab r] := by
  simp only [Ak, bC, bI, bN, bE, bA, bS, bO, bM]
  simp (disch := refine sI ?_ <;> (repeat' refine sA ?_ ?_) <;> intro _ <;> kernel_rfl) only [HB, AC (AfP _ _) (K := finK E89 Tryz.f101 0 R K)]
  kernel_rfl
def c101 : Va.Callee := brC [.d (.sl Ab)] [⟨[.dat [] (.sl Ab)], [], (List Ab.V), fun p => Ak p.1.1, fun r => (.ref 0, [.row 196 .deep Ab r])⟩]
theorem L7 : SoundC Tryz.prog 101 c101 := Ao (fn := Tryz.f101) (by kernel_rfl) (by kernel_rfl) (by kernel_rfl) ⟨⟨E89, ⟨⟨tabok, Am ⟨Oq, trivial⟩⟩, mixed⟩, fun p R K => U89 R p.1.1 K⟩, trivial⟩
abbrev E90 : Env := ⟨tab, lookH [(101, c101), (174, c174)], { heads := [(3, { live := [0, 3, 6, 18, 19] }), (8, { live := [0, 3, 6, 7, 8, 9, 18, 19, 35, 36, 37] })], outs := [(3, { live := [4, 5, 6], frz := [(6, false, (.sl (.sl Ab)))] }), (8, { live := [0, 3, 6, 7, 8, 9, 18, 19], frz := [(9, false, (.sl (.sl Ab)))] })], res := [(0, .row [] 196 Ab true)] }⟩
def Ag1 (a : (List Ae.V)) (b : Ai.V) (c : Int) (z_ : (Int × (List (List Ab.V)))) : St := sT 71 [(0, dD (.sl Ae) a), (3, .ptr 0 0 [] 0), (6, .ref 1), (18, dI c), (19, dI z_.1)] [.box (dD Ai b), .row 112 (.sh []) (.sl Ab) z_.2]
def Ag4 (a : (List Ae.V)) (b : Ai.V) (c : Int) : ((List (List Ab.V)) ⊕ (List (List Ab.V))) → Ex × St := Sum.elim (fun d => (.ret, sT 71 [(4, .zs), (5, dB false), (6, dD (.sl (.sl Ab)) d)] [])) (fun e => ((.exit 0), sT 71 [(6, dD (.sl (.sl Ab)) e)] []))
def Af9 (a : (List Ae.V)) (g : Int) (c : Int) (b : Ai.V) (i : (List (List Ab.V))) (j : Ad.V) (k : (List Int)) (l : Int) (z_ : (Int × (List (List Ab.V)))) : St := sT 71 [(0, dD (.sl Ae) a), (3, .ptr 0 0 [] 0), (6, .ref 1), (7, dI g), (8, .rop [] Ad j), (9, .ref 2), (18, dI c), (19, dI g), (35, dD (.sl (.int .i64)) k), (36, dI l), (37, dI z_.1)] [.box (dD Ai b), .row 112 (.sh []) (.sl Ab) i, .row 112 (.sh []) (.sl Ab) z_.2]
def Adj (a : (List Ae.V)) (g : Int) (c : Int) (b : Ai.V) (i : (List (List Ab.V))) (j : Ad.V) (k : (List Int)) (l : Int) : (List (List Ab.V)) → Ex × St := fun n => ((.exit 2), sT 71 [(0, dD (.sl Ae) a), (3, .ptr 0 0 [] 0), (6, .ref 1), (7, dI g), (8, .rop [] Ad j), (9, dD (.sl (.sl Ab)) n), (18, dI c), (19, dI g)] [.box (dD Ai b), .row 112 (.sh []) (.sl Ab) i])
def Fy (a : (List Ae.V)) (g : Int) (c : Int) (b : Ai.V) (i : (List (List Ab.V))) (j : Ad.V) (k : (List Int)) (l : Int) (o : Int) (q : (List (List Ab.V))) : Option ((Int × (List (List Ab.V))) ⊕ (List (List Ab.V))) :=
 bif (decide (o < l)) then
 if (0 : Int) ≤ o ∧ o < (k.length : Int) then
 if (0 : Int) ≤ (k.getD o.toNat (Ty.zero (.int .i64))) ∧ (k.getD o.toNat (Ty.zero (.int .i64))) < (i.length : Int) then
 if (0 : Int) ≤ o ∧ o < (q.length : Int) then
 some (.inl ((IntKind.i64.wrap (o + 1)), (q.set o.toNat (i.getD (k.getD o.toNat (Ty.zero (.int .i64))).toNat (Ty.zero (.sl Ab))))))
 else none
 else none
 else none
 else
 some (.inr q)
def Cq (a : (List Ae.V)) (g : Int) (c : Int) (b : Ai.V) (i : (List (List Ab.V))) (j : Ad.V) (k : (List Int)) (l : Int) (z_ : (Int × (List (List Ab.V)))) := Fy a g c b i j k l z_.1 z_.2
def Hz (a : (List Ae.V)) (g : Int) (c : Int) (b : Ai.V) (i : (List (List Ab.V))) (j : Ad.V) (k : (List Int)) (l : Int) (o : Int) (q : (List (List Ab.V))) := fix (Cq a g c b i j k l) (o, q)
theorem Ad6 (a : (List Ae.V)) (g : Int) (c : Int) (b : Ai.V) (i : (List (List Ab.V))) (j : Ad.V) (k : (List Int)) (l : Int) : LpOk E90 0 8 (sub (code Tryz.f124) [1, 1, 0, 1, 0, 0]) [1, 1, 0, 0, 1, 1, 1, 0, 1, 0] (Af9 a g c b i j k l) (Cq a g c b i j k l) (Adj a g c b i j k l) := by
  intro _
  simp only [Cq, Fy, mC, mI, mN, mB, mE, mM]
  kernel_rfl
def HF (a : (List Ae.V)) (b : Ai.V) (c : Int) (g : Int) (i : (List (List Ab.V))) : Option ((Int × (List (List Ab.V))) ⊕ ((List (List Ab.V)) ⊕ (List (List Ab.V)))) :=
 bif (decide (g < c)) then
 if (0 : Int) ≤ g ∧ g < (b.1.length : Int) then
 if Ty.row (.sl Ab) = true ∧ (0 : Int) ≤ ((b.1.getD g.toNat (Ty.zero Ad)).2.2.2.2.2.1.length : Int) ∧ ((b.1.getD g.toNat (Ty.zero Ad)).2.2.2.2.2.1.length : Int) ≤ ((b.1.getD g.toNat (Ty.zero Ad)).2.2.2.2.2.1.length : Int) ∧ ((24 : Nat) : Int) * ((b.1.getD g.toNat (Ty.zero Ad)).2.2.2.2.2.1.length : Int) ≤ (281474976710656 : Int) ∧ ((b.1.getD g.toNat (Ty.zero Ad)).2.2.2.2.2.1.length : Int) ≤ (9223372036854775807 : Int) then
 (Hz a g c b i (b.1.getD g.toNat (Ty.zero Ad)) (b.1.getD g.toNat (Ty.zero Ad)).2.2.2.2.2.1 ((b.1.getD g.toNat (Ty.zero Ad)).2.2.2.2.2.1.length : Int) 0 (List.replicate ((b.1.getD g.toNat (Ty.zero Ad)).2.2.2.2.2.1.length : Int).toNat ([] : List Ab.V))).bind fun n =>
 (BV (b.1.getD g.toNat (Ty.zero Ad)) a n).bind fun s =>
 if (0 : Int) ≤ g ∧ g < (i.length : Int) then
 if (0 : Int) ≤ g ∧ g < ((i.set g.toNat s).length : Int) then
 bif (decide ((((i.set g.toNat s).getD g.toNat (Ty.zero (.sl Ab))).length : Int) > 2000)) then
 some (.inr (.inl (i.set g.toNat s)))
 else
 some (.inl ((IntKind.i64.wrap (g + 1)), (i.set g.toNat s)))
 else none
 else none
 else none
 else none
 else
 some (.inr (.inr i))
def Fz (a : (List Ae.V)) (b : Ai.V) (c : Int) (z_ : (Int × (List (List Ab.V)))) := HF a b c z_.1 z_.2
def Hg (a : (List Ae.V)) (b : Ai.V) (c : Int) (g : Int) (i : (List (List Ab.V))) := fix (Fz a b c) (g, i)
theorem Adk (a : (List Ae.V)) (b : Ai.V) (c : Int) : LpOk E90 0 3 (code Tryz.f124) [1, 1, 0, 1, 0] (Ag1 a b c) (Fz a b c) (Ag4 a b c) := by
  intro _
  simp only [Fz, HF, mC, mI, mN, mB, mE, mM]
  simp (disch := refine sI ?_ <;> (repeat' refine sA ?_ ?_) <;> intro _ <;> kernel_rfl) only [Hz, AC (Ad6 _ _ _ _ _ _ _ _) (K := stepK 0 (E90.hd 3) (E90.ot 3))]
  kernel_rfl
def Ce (a : (List Ae.V)) (b : Ai.V) : Option (Bool × (List Ab.V)) :=
 if Ty.row (.sl Ab) = true ∧ (0 : Int) ≤ (b.1.length : Int) ∧ (b.1.length : Int) ≤ (b.1.length : Int) ∧ ((24 : Nat) : Int) * (b.1.length : Int) ≤ (281474976710656 : Int) ∧ (b.1.length : Int) ≤ (9223372036854775807 : Int) then
 (Hg a b (b.1.length : Int) 0 (List.replicate (b.1.length : Int).toNat ([] : List Ab.V))).bind (Sum.elim (fun d =>
 some (false, ([] : List Ab.V))) (fun e =>
 if (0 : Int) ≤ (IntKind.i64.wrap ((e.length : Int) - 1)) ∧ (IntKind.i64.wrap ((e.length : Int) - 1)) < (e.length : Int) then
 (Ak (e.getD (IntKind.i64.wrap ((e.length : Int) - 1)).toNat (Ty.zero (.sl Ab)))).bind fun t =>
 some (true, t)
 else none))
 else none
theorem U90 (R : Type) (a : (List Ae.V)) (b : Ai.V) (K : AV → List Blk → Option R) : runF E90 Tryz.f124 R [dD (.sl Ae) a, dD Ai b] [] K = (Ce a b).bind fun r => K (.cons (.ref 0) (.cons (dB r.1) .nil)) [.row 196 .deep Ab r.2] := by
  simp only [Ce, bC, bI, bN, bE, bA, bS, bO, bM]
  simp (disch := refine sI ?_ <;> (repeat' refine sA ?_ ?_) <;> intro _ <;> kernel_rfl) only [Hg, AC (Adk _ _ _) (K := finK E90 Tryz.f124 0 R K)]
  kernel_rfl
def c124 : Va.Callee := brC [.d (.sl Ae), .d Ai] [⟨[.dat [] (.sl Ae), .dat [] Ai], [], (Bool × (List Ab.V)), fun p => Ce p.1.1 p.1.2.1, fun r => (.cons (.ref 0) (.cons (dB r.1) .nil), [.row 196 .deep Ab r.2])⟩]
theorem Rc : SoundC Tryz.prog 124 c124 := Ao (fn := Tryz.f124) (by kernel_rfl) (by kernel_rfl) (by kernel_rfl) ⟨⟨E90, ⟨⟨tabok, Am ⟨L7, Wp, trivial⟩⟩, mixed⟩, fun p R K => U90 R p.1.1 p.1.2.1 K⟩, trivial⟩
abbrev E91 : Env := ⟨tab, lookH [(124, c124)], { deep := true, heads := [(3, { live := [0, 6, 16, 17, 18] })], outs := [(3, { live := [4, 5, 6] })], joins := [(8, { live := [0, 6, 7, 9, 11, 16, 17, 18, 42] })], ents := [(8, [0, 6, 7, 9, 10, 11, 12, 16, 17, 18])], res := [(0, .row [] 140 Ah true)] }⟩
def Aer (a : (List Ae.V)) (b : (List Af.V)) (c : Int) (z_ : (Int × (List Ah.V))) : St := sT 51 [(0, dD (.sl Ae) a), (6, .ref 0), (16, dD (.sl Af) b), (17, dI c), (18, dI z_.1)] [.row 140 .deep Ah z_.2]
def Ah8 (a : (List Ae.V)) (b : (List Af.V)) (c : Int) : ((List Ah.V) ⊕ (List Ah.V)) → Ex × St := Sum.elim (fun d => (.ret, sT 51 [(4, .zs), (5, dB false), (6, .ref 0)] [.row 140 .deep Ah d])) (fun e => ((.exit 0), sT 51 [(6, .ref 0)] [.row 140 .deep Ah e]))
def XW (a : (List Ae.V)) (g : Int) (i : (Bool × (List Ab.V))) (j : (Bool × (List Ab.V))) (b : (List Af.V)) (c : Int) (k : (List Ah.V)) : St := sT 51 [(0, dD (.sl Ae) a), (6, .ref 0), (7, dI g), (9, .ref 1), (10, dB i.1), (11, .ref 2), (12, dB j.1), (16, dD (.sl Af) b), (17, dI c), (18, dI g)] [.row 140 .deep Ah k, .row 196 .deep Ab i.2, .row 196 .deep Ab j.2]
def XZ (a : (List Ae.V)) (g : Int) (i : (Bool × (List Ab.V))) (j : (Bool × (List Ab.V))) (b : (List Af.V)) (c : Int) (k : (List Ah.V)) (m0 : Bool) : Ex × St := (.normal, sT 51 [(0, dD (.sl Ae) a), (6, .ref 0), (7, dI g), (9, .ref 1), (11, .ref 2), (16, dD (.sl Af) b), (17, dI c), (18, dI g), (42, dB m0)] [.row 140 .deep Ah k, .row 196 .deep Ab i.2, .row 196 .deep Ab j.2])
theorem Adm (a : (List Ae.V)) (g : Int) (i : (Bool × (List Ab.V))) (j : (Bool × (List Ab.V))) (b : (List Af.V)) (c : Int) (k : (List Ah.V)) : jnS E91 0 8 (sub (code Tryz.f72) [1, 1, 0, 1, 0, 0]) [1, 1, 0, 0, 1, 1, 1, 0, 0] (XW a g i j b c k) = some (XZ a g i j b c k ((!i.1) || (!j.1))) := by
  have h0 : jnS E91 0 8 (sub (code Tryz.f72) [1, 1, 0, 1, 0, 0]) [1, 1, 0, 0, 1, 1, 1, 0, 0] (XW a g i j b c k) =
 bif (!i.1) then
 some (XZ a g i j b c k true)
 else
 some (XZ a g i j b c k (!j.1)) := by kernel_rfl
  rw [h0]
  cases h1 : (!i.1)
  · first | rfl | kernel_rfl
  · first | rfl | kernel_rfl
def Ja (a : (List Ae.V)) (b : (List Af.V)) (c : Int) (g : Int) (k : (List Ah.V)) : Option ((Int × (List Ah.V)) ⊕ ((List Ah.V) ⊕ (List Ah.V))) :=
 bif (decide (g < c)) then
 if (0 : Int) ≤ g ∧ g < (b.length : Int) then
 (Ce a (b.getD g.toNat (Ty.zero Af)).2.2.1).bind fun i =>
 (Ce a (b.getD g.toNat (Ty.zero Af)).2.2.2.1).bind fun j =>
 mkr (XW a g i j b c k) (
 bif ((!i.1) || (!j.1)) then
 some (.inr (.inl k))
 else
 if (0 : Int) ≤ g ∧ g < (k.length : Int) then
 some (.inl ((IntKind.i64.wrap (g + 1)), (k.set g.toNat (i.2, j.2, ()))))
 else none)
 else none
 else
 some (.inr (.inr k))
def Hj (a : (List Ae.V)) (b : (List Af.V)) (c : Int) (z_ : (Int × (List Ah.V))) := Ja a b c z_.1 z_.2
def Ke (a : (List Ae.V)) (b : (List Af.V)) (c : Int) (g : Int) (k : (List Ah.V)) := fix (Hj a b c) (g, k)
theorem AfA (a : (List Ae.V)) (b : (List Af.V)) (c : Int) : LpOk E91 0 3 (code Tryz.f72) [1, 1, 0, 1, 0] (Aer a b c) (Hj a b c) (Ah8 a b c) := by
  intro _
  simp only [Hj, Ja, mC, mI, mN, mB, mE, mM]
  simp (disch := refine sI ?_ <;> (repeat' refine sA ?_ ?_) <;> intro _ <;> kernel_rfl) only [DB (Adm _ _ _ _ _ _ _) (K := stepK 0 (E91.hd 3) (E91.ot 3))]
  kernel_rfl
def GN (a : (List Ae.V)) (b : (List Af.V)) : Option (Bool × (List Ah.V)) :=
 if Ty.row Ah = true ∧ (0 : Int) ≤ (b.length : Int) ∧ (b.length : Int) ≤ (b.length : Int) ∧ ((48 : Nat) : Int) * (b.length : Int) ≤ (281474976710656 : Int) ∧ (b.length : Int) ≤ (9223372036854775807 : Int) then
 (Ke a b (b.length : Int) 0 (List.replicate (b.length : Int).toNat (([] : List Ab.V), ([] : List Ab.V), ()))).bind (Sum.elim (fun d =>
 some (false, ([] : List Ah.V))) (fun e =>
 some (true, e)))
 else none
theorem U91 (R : Type) (a : (List Ae.V)) (b : (List Af.V)) (K : AV → List Blk → Option R) : runF E91 Tryz.f72 R [dD (.sl Ae) a, dD (.sl Af) b] [] K = (GN a b).bind fun r => K (.cons (.ref 0) (.cons (dB r.1) .nil)) [.row 140 .deep Ah r.2] := by
  simp only [GN, bC, bI, bN, bE, bA, bS, bO, bM]
  simp (disch := refine sI ?_ <;> (repeat' refine sA ?_ ?_) <;> intro _ <;> kernel_rfl) only [Ke, AC (AfA _ _ _) (K := finK E91 Tryz.f72 0 R K)]
  kernel_rfl
def c72 : Va.Callee := brC [.d (.sl Ae), .d (.sl Af)] [⟨[.dat [] (.sl Ae), .dat [] (.sl Af)], [], (Bool × (List Ah.V)), fun p => GN p.1.1 p.1.2.1, fun r => (.cons (.ref 0) (.cons (dB r.1) .nil), [.row 140 .deep Ah r.2])⟩]
theorem S6 : SoundC Tryz.prog 72 c72 := Ao (fn := Tryz.f72) (by kernel_rfl) (by kernel_rfl) (by kernel_rfl) ⟨⟨E91, ⟨⟨tabok, Am ⟨Rc, trivial⟩⟩, mixed⟩, fun p R K => U91 R p.1.1 p.1.2.1 K⟩, trivial⟩
abbrev E92 : Env := ⟨tab, lookH [(72, c72), (152, c152)], { deep := true }⟩
def Cj (a : (List Ae.V)) (b : (List Af.V)) : Option Bool :=
 (Dy a b).bind fun c =>
 bif (!c) then
 some false
 else
 (GN a b).bind fun d =>
 some d.1
theorem U92 (R : Type) (a : (List Ae.V)) (b : (List Af.V)) (K : AV → List Blk → Option R) : runF E92 Tryz.f99 R [dD (.sl Ae) a, dD (.sl Af) b] [] K = (Cj a b).bind fun r => K (dB r) [] := by
  simp only [Cj, bC, bI, bN, bE, bA, bS, bO, bM]
  kernel_rfl
def c99 : Va.Callee := brC [.d (.sl Ae), .d (.sl Af)] [⟨[.dat [] (.sl Ae), .dat [] (.sl Af)], [], Bool, fun p => Cj p.1.1 p.1.2.1, fun r => (dB r, [])⟩]
theorem XH : SoundC Tryz.prog 99 c99 := Ao (fn := Tryz.f99) (by kernel_rfl) (by kernel_rfl) (by kernel_rfl) ⟨⟨E92, ⟨⟨tabok, Am ⟨S6, Vq, trivial⟩⟩, mixed⟩, fun p R K => U92 R p.1.1 p.1.2.1 K⟩, trivial⟩
abbrev E93 : Env := ⟨tab, lookH [(170, c170)], { deep := true, joins := [(3, { live := [0, 3, 4] }), (4, { live := [0, 49] }), (6, { live := [0, 68] })], ents := [(3, [0, 3]), (4, [0, 3, 4]), (6, [0])] }⟩
def XP (a : Aa.V) : St := sT 83 [(0, .rop [] Aa a)] []
def WR (a : Aa.V) (m0 : Bool) : Ex × St := (.normal, sT 83 [(0, .rop [] Aa a), (68, dB m0)] [])
theorem AdJ (a : Aa.V) : jnS E93 0 6 (code Tryz.f153) [1, 1, 1, 1, 0, 0] (XP a) = some (WR a ((a.1 != 5) && ((a.2.2.2.1 != 0) || (a.2.2.2.2.1 != 0)))) := by
  have h0 : jnS E93 0 6 (code Tryz.f153) [1, 1, 1, 1, 0, 0] (XP a) =
 bif (a.1 != 5) then
 bif (a.2.2.2.1 != 0) then
 some (WR a true)
 else
 some (WR a (a.2.2.2.2.1 != 0))
 else
 some (WR a false) := by kernel_rfl
  rw [h0]
  cases h1 : (a.1 != 5)
  · first | rfl | kernel_rfl
  · cases h2 : (a.2.2.2.1 != 0)
    · first | rfl | kernel_rfl
    · first | rfl | kernel_rfl
def XD (a : Aa.V) : St := sT 83 [(0, .rop [] Aa a), (3, dB (a.1 != 2)), (4, dB ((a.1 == 4) || (a.1 == 6)))] []
def QP (a : Aa.V) (m0 : Bool) : Ex × St := (.normal, sT 83 [(0, .rop [] Aa a), (49, dB m0)] [])
theorem AhB (a : Aa.V) : jnS E93 0 4 (code Tryz.f153) [1, 1, 1, 0, 0] (XD a) = some (QP a ((!(Ap a.1 1 6)) || (bif (!(a.1 != 2)) then ((a.2.1 != 0) || ((!((a.1 == 4) || (a.1 == 6))) && (a.2.2.1 != 0))) else ((!((a.1 == 4) || (a.1 == 6))) && (a.2.2.1 != 0))))) := by
  have h0 : jnS E93 0 4 (code Tryz.f153) [1, 1, 1, 0, 0] (XD a) =
 bif (!(Ap a.1 1 6)) then
 some (QP a true)
 else
 bif (!(a.1 != 2)) then
 bif (a.2.1 != 0) then
 some (QP a true)
 else
 bif (!((a.1 == 4) || (a.1 == 6))) then
 some (QP a (a.2.2.1 != 0))
 else
 some (QP a false)
 else
 bif (!((a.1 == 4) || (a.1 == 6))) then
 some (QP a (a.2.2.1 != 0))
 else
 some (QP a false) := by kernel_rfl
  rw [h0]
  cases h1 : (!(Ap a.1 1 6))
  · cases h2 : (!(a.1 != 2))
    · cases h3 : (!((a.1 == 4) || (a.1 == 6)))
      · first | rfl | kernel_rfl
      · first | rfl | kernel_rfl
    · cases h3 : (a.2.1 != 0)
      · cases h4 : (!((a.1 == 4) || (a.1 == 6)))
        · first | rfl | kernel_rfl
        · first | rfl | kernel_rfl
      · first | rfl | kernel_rfl
  · first | rfl | kernel_rfl
def YE (a : Aa.V) : St := sT 83 [(0, .rop [] Aa a), (3, dB (a.1 != 2))] []
def X1 (a : Aa.V) (m0 : Bool) : Ex × St := (.normal, sT 83 [(0, .rop [] Aa a), (3, dB (a.1 != 2)), (4, dB m0)] [])
theorem AfY (a : Aa.V) : jnS E93 0 3 (code Tryz.f153) [1, 1, 0] (YE a) = some (X1 a ((a.1 == 4) || (a.1 == 6))) := by
  have h0 : jnS E93 0 3 (code Tryz.f153) [1, 1, 0] (YE a) =
 bif (a.1 == 4) then
 some (X1 a true)
 else
 some (X1 a (a.1 == 6)) := by kernel_rfl
  rw [h0]
  cases h1 : (a.1 == 4)
  · first | rfl | kernel_rfl
  · first | rfl | kernel_rfl
def Aw (a : Aa.V) : Bool := ((!((!(Ap a.1 1 6)) || (bif (!(a.1 != 2)) then ((a.2.1 != 0) || ((!((a.1 == 4) || (a.1 == 6))) && (a.2.2.1 != 0))) else ((!((a.1 == 4) || (a.1 == 6))) && (a.2.2.1 != 0))))) && ((!((a.1 != 5) && ((a.2.2.2.1 != 0) || (a.2.2.2.2.1 != 0)))) && ((a.1 == 2) || ((a.2.2.2.2.2.1.1.length : Int) == 0))))
theorem U93 (R : Type) (a : Aa.V) (K : AV → List Blk → Option R) : runF E93 Tryz.f153 R [.rop [] Aa a] [] K = K (dB (Aw a)) [] := by
  have h : runF E93 Tryz.f153 R [.rop [] Aa a] [] K =
 mkr (YE a) (
 mkr (XD a) (
 bif ((!(Ap a.1 1 6)) || (bif (!(a.1 != 2)) then ((a.2.1 != 0) || ((!((a.1 == 4) || (a.1 == 6))) && (a.2.2.1 != 0))) else ((!((a.1 == 4) || (a.1 == 6))) && (a.2.2.1 != 0)))) then
 K (dB false) []
 else
 mkr (XP a) (
 bif ((a.1 != 5) && ((a.2.2.2.1 != 0) || (a.2.2.2.2.1 != 0))) then
 K (dB false) []
 else
 bif (a.1 == 2) then
 K (dB true) []
 else
 K (dB ((a.2.2.2.2.2.1.1.length : Int) == 0)) []))) := by
    simp (disch := refine sI ?_ <;> (repeat' refine sA ?_ ?_) <;> intro _ <;> kernel_rfl) only [DB (AfY _) (K := finK E93 Tryz.f153 0 R K), DB (AhB _) (K := finK E93 Tryz.f153 0 R K), DB (AdJ _) (K := finK E93 Tryz.f153 0 R K)]
    kernel_rfl
  rw [h]
  unfold Aw
  cases h1 : ((!(Ap a.1 1 6)) || (bif (!(a.1 != 2)) then ((a.2.1 != 0) || ((!((a.1 == 4) || (a.1 == 6))) && (a.2.2.1 != 0))) else ((!((a.1 == 4) || (a.1 == 6))) && (a.2.2.1 != 0))))
  · cases h2 : ((a.1 != 5) && ((a.2.2.2.1 != 0) || (a.2.2.2.2.1 != 0)))
    · cases h3 : (a.1 == 2)
      · first | rfl | kernel_rfl
      · first | rfl | kernel_rfl
    · first | rfl | kernel_rfl
  · first | rfl | kernel_rfl
def c153 : Va.Callee := brC [.p Aa] [⟨[.rop [] Aa], [], Bool, fun p => some (Aw p.1.1), fun r => (dB r, [])⟩]
theorem VG : SoundC Tryz.prog 153 c153 := Ao (fn := Tryz.f153) (by kernel_rfl) (by kernel_rfl) (by kernel_rfl) ⟨⟨E93, ⟨⟨tabok, Am ⟨Jw, trivial⟩⟩, mixed⟩, fun p R K => U93 R p.1.1 K⟩, trivial⟩
abbrev E94 : Env := ⟨tab, lookH [], { deep := true }⟩
def Cu (a : Af.V) (b : Int) : Bool := (a.2.1 && (a.1 == b))
theorem U94 (R : Type) (a : Af.V) (b : Int) (K : AV → List Blk → Option R) : runF E94 Tryz.f189 R [dD Af a, .rop [] (.int .i64) b] [] K = K (dB (Cu a b)) [] := by
  have h : runF E94 Tryz.f189 R [dD Af a, .rop [] (.int .i64) b] [] K =
 bif a.2.1 then
 K (dB (a.1 == b)) []
 else
 K (dB false) [] := by kernel_rfl
  rw [h]
  unfold Cu
  cases h1 : a.2.1
  · first | rfl | kernel_rfl
  · first | rfl | kernel_rfl
def c189 : Va.Callee := brC [.d Af, .p (.int .i64)] [⟨[.dat [] Af, .rop [] (.int .i64)], [], Bool, fun p => some (Cu p.1.1 p.1.2.1), fun r => (dB r, [])⟩]
theorem V9 : SoundC Tryz.prog 189 c189 := Ao (fn := Tryz.f189) (by kernel_rfl) (by kernel_rfl) (by kernel_rfl) ⟨⟨E94, ⟨⟨tabok, Am trivial⟩, mixed⟩, fun p R K => U94 R p.1.1 p.1.2.1 K⟩, trivial⟩
abbrev E95 : Env := ⟨tab, lookH [(189, c189)], { deep := true, heads := [(2, { live := [0, 1, 7, 8] })], outs := [(2, { live := [4] })] }⟩
def Aht (a : (List Af.V)) (b : Int) (c : Int) (d : Int) (z_ : Int) : St := sT 19 [(0, dD (.sl Af) a), (1, .fn 189 (.cons (.ptr 0 b [] 0) .nil)), (7, dI d), (8, dI z_)] [.box (dI c)]
def AdT (a : (List Af.V)) (b : Int) (c : Int) (d : Int) : (Int ⊕ Unit) → Ex × St := Sum.elim (fun e => (.ret, sT 19 [(4, dI e)] [.box (dI c)])) (fun g => ((.exit 0), sT 19 [] [.box (dI c)]))
def A5 (a : (List Af.V)) (b : Int) (c : Int) (d : Int) (i : Int) : Option (Int ⊕ (Int ⊕ Unit)) :=
 bif (decide (i < d)) then
 if (0 : Int) ≤ i ∧ i < (a.length : Int) then
 bif (Cu (a.getD i.toNat (Ty.zero Af)) c) then
 some (.inr (.inl i))
 else
 some (.inl (IntKind.i64.wrap (i + 1)))
 else none
 else
 some (.inr (.inr ()))
def AJ (a : (List Af.V)) (b : Int) (c : Int) (d : Int) (z_ : Int) := A5 a b c d z_
def Cr (a : (List Af.V)) (b : Int) (c : Int) (d : Int) (i : Int) := fix (AJ a b c d) i
theorem Af1 (a : (List Af.V)) (b : Int) (c : Int) (d : Int) : LpOk E95 1 2 (code Tryz.f188) [1, 0, 1, 0] (Aht a b c d) (AJ a b c d) (AdT a b c d) := by
  intro _
  simp only [AJ, A5, mC, mI, mN, mB, mE, mM]
  kernel_rfl
def Bf (a : (List Af.V)) (b : Int) (c : Int) : Option (Int × Int) :=
 (Cr a b c (a.length : Int) 0).bind (Sum.elim (fun e =>
 some (e, c)) (fun g =>
 some ((-1), c)))
theorem U95 (R : Type) (a : (List Af.V)) (b : Int) (c : Int) (K : AV → List Blk → Option R) : runF E95 Tryz.f188 R [dD (.sl Af) a, .fn 189 (.cons (.ptr 0 b [] 0) .nil)] [.box (dI c)] K = (Bf a b c).bind fun r => K (dI r.1) [.box (dI r.2)] := by
  simp only [Bf, bC, bI, bN, bE, bA, bS, bO, bM]
  simp (disch := refine sI ?_ <;> (repeat' refine sA ?_ ?_) <;> intro _ <;> kernel_rfl) only [Cr, AC (Af1 _ _ _ _) (K := finK E95 Tryz.f188 1 R K)]
  kernel_rfl
def c188 : Va.Callee := brC [.d (.sl Af), .raw] [⟨[.dat [] (.sl Af), .fn 189 (.cons (.ptr 0 [] 0) (.k .nil))], [.box (.dat [] (.int .i64))], (Int × Int), fun p => Bf p.1.1 p.1.2.1.1 p.2.1, fun r => (dI r.1, [.box (dI r.2)])⟩]
theorem V6 : SoundC Tryz.prog 188 c188 := Ao (fn := Tryz.f188) (by kernel_rfl) (by kernel_rfl) (by kernel_rfl) ⟨⟨E95, ⟨⟨tabok, Am ⟨V9, trivial⟩⟩, mixed⟩, fun p R K => U95 R p.1.1 p.1.2.1.1 p.2.1 K⟩, trivial⟩
end
end Go.Proofs.X
namespace Go.Proofs.X
open Go Go.Va
set_option maxRecDepth 100000
noncomputable section
abbrev E96 : Env := ⟨tab, lookH [(188, c188)], { deep := true }⟩
def BE (a : Ax.V) (b : Int) : Option Int :=
 (Bf a.2.1 0 b).bind fun c =>
 some c.1
theorem U96 (R : Type) (a : Ax.V) (b : Int) (K : AV → List Blk → Option R) : runF E96 Tryz.f155 R [.rop [] Ax a, dI b] [] K = (BE a b).bind fun r => K (dI r) [] := by
  simp only [BE, bC, bI, bN, bE, bA, bS, bO, bM]
  kernel_rfl
def c155 : Va.Callee := brC [.p Ax, .d (.int .i64)] [⟨[.rop [] Ax, .dat [] (.int .i64)], [], Int, fun p => BE p.1.1 p.1.2.1, fun r => (dI r, [])⟩]
theorem Rp : SoundC Tryz.prog 155 c155 := Ao (fn := Tryz.f155) (by kernel_rfl) (by kernel_rfl) (by kernel_rfl) ⟨⟨E96, ⟨⟨tabok, Am ⟨V6, trivial⟩⟩, mixed⟩, fun p R K => U96 R p.1.1 p.1.2.1 K⟩, trivial⟩
abbrev E97 : Env := ⟨tab, lookH [(170, c170)], { deep := true }⟩
def BH (a : Ax.V) (b : Int) : Bool := (Ap b 0 (IntKind.i64.wrap ((a.2.2.2.1.length : Int) - 1)))
theorem U97 (R : Type) (a : Ax.V) (b : Int) (K : AV → List Blk → Option R) : runF E97 Tryz.f187 R [.rop [] Ax a, dI b] [] K = K (dB (BH a b)) [] := by
  kernel_rfl
def c187 : Va.Callee := brC [.p Ax, .d (.int .i64)] [⟨[.rop [] Ax, .dat [] (.int .i64)], [], Bool, fun p => some (BH p.1.1 p.1.2.1), fun r => (dB r, [])⟩]
theorem WP : SoundC Tryz.prog 187 c187 := Ao (fn := Tryz.f187) (by kernel_rfl) (by kernel_rfl) (by kernel_rfl) ⟨⟨E97, ⟨⟨tabok, Am ⟨Jw, trivial⟩⟩, mixed⟩, fun p R K => U97 R p.1.1 p.1.2.1 K⟩, trivial⟩
abbrev E98 : Env := ⟨tab, lookH [(155, c155), (187, c187)], { deep := true, joins := [(8, { live := [0, 1, 20] })], ents := [(8, [0, 1, 8])] }⟩
def Yd (a : Ax.V) (b : Aa.V) : St := sT 43 [(0, .rop [] Ax a), (1, .rop [] Aa b), (8, dI b.1)] []
def Zf (a : Ax.V) (b : Aa.V) (m0 : Bool) : Ex × St := (.normal, sT 43 [(0, .rop [] Ax a), (1, .rop [] Aa b), (20, dB m0)] [])
theorem AeL (a : Ax.V) (b : Aa.V) : jnS E98 0 8 (code Tryz.f154) [1, 0, 1, 0, 1, 1, 1, 1, 0] (Yd a b) = some (Zf a b (bif (b.1 == 4) then (b.1 == 4) else (b.1 == 6))) := by
  have h0 : jnS E98 0 8 (code Tryz.f154) [1, 0, 1, 0, 1, 1, 1, 1, 0] (Yd a b) =
 bif (b.1 == 4) then
 some (Zf a b (b.1 == 4))
 else
 some (Zf a b (b.1 == 6)) := by kernel_rfl
  rw [h0]
  cases h1 : (b.1 == 4)
  · first | rfl | kernel_rfl
  · first | rfl | kernel_rfl
def Ar (a : Ax.V) (b : Aa.V) : Option Bool :=
 bif (b.1 == 1) then
 (BE a b.2.1).bind fun c =>
 some (decide (c ≥ 0))
 else
 bif (b.1 == 2) then
 some true
 else
 mkr (Yd a b) (
 bif (bif (b.1 == 4) then (b.1 == 4) else (b.1 == 6)) then
 bif (BH a b.2.1) then
 some (BH a b.2.2.1)
 else
 some false
 else
 some (BH a b.2.1))
theorem U98 (R : Type) (a : Ax.V) (b : Aa.V) (K : AV → List Blk → Option R) : runF E98 Tryz.f154 R [.rop [] Ax a, .rop [] Aa b] [] K = (Ar a b).bind fun r => K (dB r) [] := by
  simp only [Ar, bC, bI, bN, bE, bA, bS, bO, bM]
  simp (disch := refine sI ?_ <;> (repeat' refine sA ?_ ?_) <;> intro _ <;> kernel_rfl) only [DB (AeL _ _) (K := finK E98 Tryz.f154 0 R K)]
  kernel_rfl
def c154 : Va.Callee := brC [.p Ax, .p Aa] [⟨[.rop [] Ax, .rop [] Aa], [], Bool, fun p => Ar p.1.1 p.1.2.1, fun r => (dB r, [])⟩]
theorem Wx : SoundC Tryz.prog 154 c154 := Ao (fn := Tryz.f154) (by kernel_rfl) (by kernel_rfl) (by kernel_rfl) ⟨⟨E98, ⟨⟨tabok, Am ⟨Rp, WP, trivial⟩⟩, mixed⟩, fun p R K => U98 R p.1.1 p.1.2.1 K⟩, trivial⟩
abbrev E99 : Env := ⟨tab, lookH [(124, c124), (169, c169)], { deep := true, res := [(0, .row [] 196 Ab true)] }⟩
def HG (a : (List Ae.V)) (b : Ai.V) : Option (Bool × (List Ab.V)) :=
 (Cf a b).bind fun c =>
 bif (decide (c < 0)) then
 some (false, ([] : List Ab.V))
 else
 (Ce a b).bind fun d =>
 some (d.1, d.2)
theorem U99 (R : Type) (a : (List Ae.V)) (b : Ai.V) (K : AV → List Blk → Option R) : runF E99 Tryz.f156 R [dD (.sl Ae) a, dD Ai b] [] K = (HG a b).bind fun r => K (.cons (.ref 0) (.cons (dB r.1) .nil)) [.row 196 .deep Ab r.2] := by
  simp only [HG, bC, bI, bN, bE, bA, bS, bO, bM]
  kernel_rfl
def c156 : Va.Callee := brC [.d (.sl Ae), .d Ai] [⟨[.dat [] (.sl Ae), .dat [] Ai], [], (Bool × (List Ab.V)), fun p => HG p.1.1 p.1.2.1, fun r => (.cons (.ref 0) (.cons (dB r.1) .nil), [.row 196 .deep Ab r.2])⟩]
theorem VA : SoundC Tryz.prog 156 c156 := Ao (fn := Tryz.f156) (by kernel_rfl) (by kernel_rfl) (by kernel_rfl) ⟨⟨E99, ⟨⟨tabok, Am ⟨Rc, Rx, trivial⟩⟩, mixed⟩, fun p R K => U99 R p.1.1 p.1.2.1 K⟩, trivial⟩
abbrev E100 : Env := ⟨tab, lookH [], { deep := true, heads := [(4, { live := [0, 1, 12, 13] })], outs := [(4, { live := [4] })] }⟩
def ZE (a : (List Int)) (b : (List Int)) (c : Int) (z_ : Int) : St := sT 26 [(0, dD (.sl (.int .u64)) a), (1, dD (.sl (.int .u64)) b), (12, dI c), (13, dI z_)] []
def AaK (a : (List Int)) (b : (List Int)) (c : Int) : (Unit ⊕ Unit) → Ex × St := Sum.elim (fun d => (.ret, sT 26 [(4, dB false)] [])) (fun e => ((.exit 0), sT 26 [] []))
def GM (a : (List Int)) (b : (List Int)) (c : Int) (g : Int) : Option (Int ⊕ (Unit ⊕ Unit)) :=
 bif (decide (g < c)) then
 if (0 : Int) ≤ g ∧ g < (a.length : Int) then
 if (0 : Int) ≤ g ∧ g < (b.length : Int) then
 bif ((a.getD g.toNat (Ty.zero (.int .u64))) != (b.getD g.toNat (Ty.zero (.int .u64)))) then
 some (.inr (.inl ()))
 else
 some (.inl (IntKind.i64.wrap (g + 1)))
 else none
 else none
 else
 some (.inr (.inr ()))
def BW (a : (List Int)) (b : (List Int)) (c : Int) (z_ : Int) := GM a b c z_
def HA (a : (List Int)) (b : (List Int)) (c : Int) (g : Int) := fix (BW a b c) g
theorem AaC (a : (List Int)) (b : (List Int)) (c : Int) : LpOk E100 0 4 (code Tryz.f221) [1, 1, 0, 1, 0] (ZE a b c) (BW a b c) (AaK a b c) := by
  intro _
  simp only [BW, GM, mC, mI, mN, mB, mE, mM]
  kernel_rfl
def Cv (a : (List Int)) (b : (List Int)) : Option Bool :=
 bif ((a.length : Int) != (b.length : Int)) then
 some false
 else
 (HA a b (a.length : Int) 0).bind (Sum.elim (fun d =>
 some false) (fun e =>
 some true))
theorem U100 (R : Type) (a : (List Int)) (b : (List Int)) (K : AV → List Blk → Option R) : runF E100 Tryz.f221 R [dD (.sl (.int .u64)) a, dD (.sl (.int .u64)) b] [] K = (Cv a b).bind fun r => K (dB r) [] := by
  simp only [Cv, bC, bI, bN, bE, bA, bS, bO, bM]
  simp (disch := refine sI ?_ <;> (repeat' refine sA ?_ ?_) <;> intro _ <;> kernel_rfl) only [HA, AC (AaC _ _ _) (K := finK E100 Tryz.f221 0 R K)]
  kernel_rfl
def c221 : Va.Callee := brC [.d (.sl (.int .u64)), .d (.sl (.int .u64))] [⟨[.dat [] (.sl (.int .u64)), .dat [] (.sl (.int .u64))], [], Bool, fun p => Cv p.1.1 p.1.2.1, fun r => (dB r, [])⟩]
theorem WV : SoundC Tryz.prog 221 c221 := Ao (fn := Tryz.f221) (by kernel_rfl) (by kernel_rfl) (by kernel_rfl) ⟨⟨E100, ⟨⟨tabok, Am trivial⟩, mixed⟩, fun p R K => U100 R p.1.1 p.1.2.1 K⟩, trivial⟩
abbrev E101 : Env := ⟨tab, lookH [(221, c221)], { deep := true }⟩
def Eg (a : Aj.V) (b : Aj.V) : Option Bool :=
 bif (a.1 == b.1) then
 (Cv a.2.1 b.2.1).bind fun c =>
 some c
 else
 some false
theorem U101 (R : Type) (a : Aj.V) (b : Aj.V) (K : AV → List Blk → Option R) : runF E101 Tryz.f184 R [dD Aj a, dD Aj b] [] K = (Eg a b).bind fun r => K (dB r) [] := by
  simp only [Eg, bC, bI, bN, bE, bA, bS, bO, bM]
  kernel_rfl
def c184 : Va.Callee := brC [.d Aj, .d Aj] [⟨[.dat [] Aj, .dat [] Aj], [], Bool, fun p => Eg p.1.1 p.1.2.1, fun r => (dB r, [])⟩]
theorem VT : SoundC Tryz.prog 184 c184 := Ao (fn := Tryz.f184) (by kernel_rfl) (by kernel_rfl) (by kernel_rfl) ⟨⟨E101, ⟨⟨tabok, Am ⟨WV, trivial⟩⟩, mixed⟩, fun p R K => U101 R p.1.1 p.1.2.1 K⟩, trivial⟩
abbrev E102 : Env := ⟨tab, lookH [(184, c184)], { deep := true }⟩
def EU (a : Ab.V) (b : Ab.V) : Option Bool :=
 bif (a.1 == b.1) then
 bif (a.2.1 == b.2.1) then
 bif (a.2.2.1 == b.2.2.1) then
 (Eg a.2.2.2.1 b.2.2.2.1).bind fun c =>
 some c
 else
 some false
 else
 some false
 else
 some false
theorem U102 (R : Type) (a : Ab.V) (b : Ab.V) (K : AV → List Blk → Option R) : runF E102 Tryz.f191 R [dD Ab a, dD Ab b] [] K = (EU a b).bind fun r => K (dB r) [] := by
  simp only [EU, bC, bI, bN, bE, bA, bS, bO, bM]
  kernel_rfl
def c191 : Va.Callee := brC [.d Ab, .d Ab] [⟨[.dat [] Ab, .dat [] Ab], [], Bool, fun p => EU p.1.1 p.1.2.1, fun r => (dB r, [])⟩]
theorem WG : SoundC Tryz.prog 191 c191 := Ao (fn := Tryz.f191) (by kernel_rfl) (by kernel_rfl) (by kernel_rfl) ⟨⟨E102, ⟨⟨tabok, Am ⟨VT, trivial⟩⟩, mixed⟩, fun p R K => U102 R p.1.1 p.1.2.1 K⟩, trivial⟩
abbrev E103 : Env := ⟨tab, lookH [(191, c191)], { deep := true, heads := [(4, { live := [1, 2, 15, 16, 17] })], outs := [(4, { live := [6] })] }⟩
def Aal (a : (List Ab.V)) (b : (List Ab.V)) (c : Int) (z_ : Int) : St := sT 32 [(1, dD (.sl Ab) a), (2, .fn 191 .nil), (15, dD (.sl Ab) b), (16, dI c), (17, dI z_)] []
def Aad (a : (List Ab.V)) (b : (List Ab.V)) (c : Int) : (Unit ⊕ Unit) → Ex × St := Sum.elim (fun d => (.ret, sT 32 [(6, dB false)] [])) (fun e => ((.exit 0), sT 32 [] []))
def F4 (a : (List Ab.V)) (b : (List Ab.V)) (c : Int) (g : Int) : Option (Int ⊕ (Unit ⊕ Unit)) :=
 bif (decide (g < c)) then
 if (0 : Int) ≤ g ∧ g < (b.length : Int) then
 if (0 : Int) ≤ g ∧ g < (a.length : Int) then
 (EU (b.getD g.toNat (Ty.zero Ab)) (a.getD g.toNat (Ty.zero Ab))).bind fun i =>
 bif (!i) then
 some (.inr (.inl ()))
 else
 some (.inl (IntKind.i64.wrap (g + 1)))
 else none
 else none
 else
 some (.inr (.inr ()))
def BL (a : (List Ab.V)) (b : (List Ab.V)) (c : Int) (z_ : Int) := F4 a b c z_
def Hf (a : (List Ab.V)) (b : (List Ab.V)) (c : Int) (g : Int) := fix (BL a b c) g
theorem AbS (a : (List Ab.V)) (b : (List Ab.V)) (c : Int) : LpOk E103 0 4 (code Tryz.f190) [1, 1, 0, 1, 0] (Aal a b c) (BL a b c) (Aad a b c) := by
  intro _
  simp only [BL, F4, mC, mI, mN, mB, mE, mM]
  kernel_rfl
def B6 (b : (List Ab.V)) (a : (List Ab.V)) : Option Bool :=
 bif ((b.length : Int) != (a.length : Int)) then
 some false
 else
 (Hf a b (b.length : Int) 0).bind (Sum.elim (fun d =>
 some false) (fun e =>
 some true))
theorem U103 (R : Type) (b : (List Ab.V)) (a : (List Ab.V)) (K : AV → List Blk → Option R) : runF E103 Tryz.f190 R [dD (.sl Ab) b, dD (.sl Ab) a, .fn 191 .nil] [] K = (B6 b a).bind fun r => K (dB r) [] := by
  simp only [B6, bC, bI, bN, bE, bA, bS, bO, bM]
  simp (disch := refine sI ?_ <;> (repeat' refine sA ?_ ?_) <;> intro _ <;> kernel_rfl) only [Hf, AC (AbS _ _ _) (K := finK E103 Tryz.f190 0 R K)]
  kernel_rfl
def c190 : Va.Callee := brC [.d (.sl Ab), .d (.sl Ab), .raw] [⟨[.dat [] (.sl Ab), .dat [] (.sl Ab), .fn 191 (.k .nil)], [], Bool, fun p => B6 p.1.1 p.1.2.1, fun r => (dB r, [])⟩]
theorem UN : SoundC Tryz.prog 190 c190 := Ao (fn := Tryz.f190) (by kernel_rfl) (by kernel_rfl) (by kernel_rfl) ⟨⟨E103, ⟨⟨tabok, Am ⟨WG, trivial⟩⟩, mixed⟩, fun p R K => U103 R p.1.1 p.1.2.1 K⟩, trivial⟩
end
end Go.Proofs.X
