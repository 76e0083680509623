import Derived.KernelRfl
import Derived.Test.YtjbdmijibelnlaaGreatK11
set_option linter.unusedVariables false
set_option linter.unusedSimpArgs false
namespace Go.Proofs.X
open Go Go.Va
set_option maxRecDepth 100000
noncomputable section
abbrev E89 : Env := ⟨tab, lookH [(37, c37), (72, c72)], { deep := true }⟩
def impl_flatLiterals (a : (List Timpl_Decl.V)) (b : (List Timpl_Literal.V)) : Option Bool :=
 (impl_LiteralsOk a b).bind fun c =>
 bif (!c) then
 some false
 else
 (impl_sides a b).bind fun d =>
 some d.1
theorem U89 (R : Type) (a : (List Timpl_Decl.V)) (b : (List Timpl_Literal.V)) (K : AV → List Blk → Option R) : runF E89 Tryz.f36 R [dD (.sl Timpl_Decl) a, dD (.sl Timpl_Literal) b] [] K = (impl_flatLiterals a b).bind fun r => K (dB r) [] := by
  simp only [impl_flatLiterals, bC, bI, bN, bE, bA, bS, bO, bM]
  kernel_rfl
def c36 : Va.Callee := brC [.d (.sl Timpl_Decl), .d (.sl Timpl_Literal)] [⟨[.dat [] (.sl Timpl_Decl), .dat [] (.sl Timpl_Literal)], [], Bool, fun p => impl_flatLiterals p.1.1 p.1.2.1, fun r => (dB r, [])⟩]
theorem c36_snd : SoundC Tryz.prog 36 c36 := br_snd (fn := Tryz.f36) (by kernel_rfl) (by kernel_rfl) (by kernel_rfl) ⟨⟨E89, ⟨⟨tabok, fns_ok ⟨c37_snd, c72_snd, trivial⟩⟩, mixed⟩, fun p R K => U89 R p.1.1 p.1.2.1 K⟩, trivial⟩
abbrev E90 : Env := ⟨tab, lookH [(52, c52)], { deep := true, joins := [(3, { live := [0, 3, 4] }), (4, { live := [0, 49] }), (6, { live := [0, 68] })], ents := [(3, [0, 3]), (4, [0, 3, 4]), (6, [0])] }⟩
def S90_2 (a : Timpl_PStep.V) : St := sT 83 [(0, .rop [] Timpl_PStep a)] []
def O90_2 (a : Timpl_PStep.V) (m0 : Bool) : Ex × St := (.normal, sT 83 [(0, .rop [] Timpl_PStep a), (68, dB m0)] [])
theorem T90_2 (a : Timpl_PStep.V) : jnS E90 0 6 (code Tryz.f74) [1, 1, 1, 1, 0, 0] (S90_2 a) = some (O90_2 a ((a.1 != 5) && ((a.2.2.2.1 != 0) || (a.2.2.2.2.1 != 0)))) := by
  have h0 : jnS E90 0 6 (code Tryz.f74) [1, 1, 1, 1, 0, 0] (S90_2 a) =
 bif (a.1 != 5) then
 bif (a.2.2.2.1 != 0) then
 some (O90_2 a true)
 else
 some (O90_2 a (a.2.2.2.2.1 != 0))
 else
 some (O90_2 a false) := by kernel_rfl
  rw [h0]
  cases h1 : (a.1 != 5)
  · first | rfl | kernel_rfl
  · cases h2 : (a.2.2.2.1 != 0)
    · first | rfl | kernel_rfl
    · first | rfl | kernel_rfl
def S90_1 (a : Timpl_PStep.V) : St := sT 83 [(0, .rop [] Timpl_PStep a), (3, dB (a.1 != 2)), (4, dB ((a.1 == 4) || (a.1 == 6)))] []
def O90_1 (a : Timpl_PStep.V) (m0 : Bool) : Ex × St := (.normal, sT 83 [(0, .rop [] Timpl_PStep a), (49, dB m0)] [])
theorem T90_1 (a : Timpl_PStep.V) : jnS E90 0 4 (code Tryz.f74) [1, 1, 1, 0, 0] (S90_1 a) = some (O90_1 a ((!(impl_inside a.1 1 6)) || (bif (!(a.1 != 2)) then ((a.2.1 != 0) || ((!((a.1 == 4) || (a.1 == 6))) && (a.2.2.1 != 0))) else ((!((a.1 == 4) || (a.1 == 6))) && (a.2.2.1 != 0))))) := by
  have h0 : jnS E90 0 4 (code Tryz.f74) [1, 1, 1, 0, 0] (S90_1 a) =
 bif (!(impl_inside a.1 1 6)) then
 some (O90_1 a true)
 else
 bif (!(a.1 != 2)) then
 bif (a.2.1 != 0) then
 some (O90_1 a true)
 else
 bif (!((a.1 == 4) || (a.1 == 6))) then
 some (O90_1 a (a.2.2.1 != 0))
 else
 some (O90_1 a false)
 else
 bif (!((a.1 == 4) || (a.1 == 6))) then
 some (O90_1 a (a.2.2.1 != 0))
 else
 some (O90_1 a false) := by kernel_rfl
  rw [h0]
  cases h1 : (!(impl_inside a.1 1 6))
  · cases h2 : (!(a.1 != 2))
    · cases h3 : (!((a.1 == 4) || (a.1 == 6)))
      · first | rfl | kernel_rfl
      · first | rfl | kernel_rfl
    · cases h3 : (a.2.1 != 0)
      · cases h4 : (!((a.1 == 4) || (a.1 == 6)))
        · first | rfl | kernel_rfl
        · first | rfl | kernel_rfl
      · first | rfl | kernel_rfl
  · first | rfl | kernel_rfl
def S90_0 (a : Timpl_PStep.V) : St := sT 83 [(0, .rop [] Timpl_PStep a), (3, dB (a.1 != 2))] []
def O90_0 (a : Timpl_PStep.V) (m0 : Bool) : Ex × St := (.normal, sT 83 [(0, .rop [] Timpl_PStep a), (3, dB (a.1 != 2)), (4, dB m0)] [])
theorem T90_0 (a : Timpl_PStep.V) : jnS E90 0 3 (code Tryz.f74) [1, 1, 0] (S90_0 a) = some (O90_0 a ((a.1 == 4) || (a.1 == 6))) := by
  have h0 : jnS E90 0 3 (code Tryz.f74) [1, 1, 0] (S90_0 a) =
 bif (a.1 == 4) then
 some (O90_0 a true)
 else
 some (O90_0 a (a.1 == 6)) := by kernel_rfl
  rw [h0]
  cases h1 : (a.1 == 4)
  · first | rfl | kernel_rfl
  · first | rfl | kernel_rfl
def impl_PStep_fits (a : Timpl_PStep.V) : Bool := ((!((!(impl_inside a.1 1 6)) || (bif (!(a.1 != 2)) then ((a.2.1 != 0) || ((!((a.1 == 4) || (a.1 == 6))) && (a.2.2.1 != 0))) else ((!((a.1 == 4) || (a.1 == 6))) && (a.2.2.1 != 0))))) && ((!((a.1 != 5) && ((a.2.2.2.1 != 0) || (a.2.2.2.2.1 != 0)))) && ((a.1 == 2) || ((a.2.2.2.2.2.1.1.length : Int) == 0))))
theorem U90 (R : Type) (a : Timpl_PStep.V) (K : AV → List Blk → Option R) : runF E90 Tryz.f74 R [.rop [] Timpl_PStep a] [] K = K (dB (impl_PStep_fits a)) [] := by
  have h : runF E90 Tryz.f74 R [.rop [] Timpl_PStep a] [] K =
 mkr (S90_0 a) (
 mkr (S90_1 a) (
 bif ((!(impl_inside a.1 1 6)) || (bif (!(a.1 != 2)) then ((a.2.1 != 0) || ((!((a.1 == 4) || (a.1 == 6))) && (a.2.2.1 != 0))) else ((!((a.1 == 4) || (a.1 == 6))) && (a.2.2.1 != 0)))) then
 K (dB false) []
 else
 mkr (S90_2 a) (
 bif ((a.1 != 5) && ((a.2.2.2.1 != 0) || (a.2.2.2.2.1 != 0))) then
 K (dB false) []
 else
 bif (a.1 == 2) then
 K (dB true) []
 else
 K (dB ((a.2.2.2.2.2.1.1.length : Int) == 0)) []))) := by
    simp (disch := refine sI ?_ <;> (repeat' refine sA ?_ ?_) <;> intro _ <;> kernel_rfl) only [in_ok (T90_0 _) (K := finK E90 Tryz.f74 0 R K), in_ok (T90_1 _) (K := finK E90 Tryz.f74 0 R K), in_ok (T90_2 _) (K := finK E90 Tryz.f74 0 R K)]
    kernel_rfl
  rw [h]
  unfold impl_PStep_fits
  cases h1 : ((!(impl_inside a.1 1 6)) || (bif (!(a.1 != 2)) then ((a.2.1 != 0) || ((!((a.1 == 4) || (a.1 == 6))) && (a.2.2.1 != 0))) else ((!((a.1 == 4) || (a.1 == 6))) && (a.2.2.1 != 0))))
  · cases h2 : ((a.1 != 5) && ((a.2.2.2.1 != 0) || (a.2.2.2.2.1 != 0)))
    · cases h3 : (a.1 == 2)
      · first | rfl | kernel_rfl
      · first | rfl | kernel_rfl
    · first | rfl | kernel_rfl
  · first | rfl | kernel_rfl
def c74 : Va.Callee := brC [.p Timpl_PStep] [⟨[.rop [] Timpl_PStep], [], Bool, fun p => some (impl_PStep_fits p.1.1), fun r => (dB r, [])⟩]
theorem c74_snd : SoundC Tryz.prog 74 c74 := br_snd (fn := Tryz.f74) (by kernel_rfl) (by kernel_rfl) (by kernel_rfl) ⟨⟨E90, ⟨⟨tabok, fns_ok ⟨c52_snd, trivial⟩⟩, mixed⟩, fun p R K => U90 R p.1.1 K⟩, trivial⟩
abbrev E91 : Env := ⟨tab, lookH [], { deep := true }⟩
def impl_prover_given_1 (a : Timpl_Literal.V) (b : Int) : Bool := (a.2.1 && (a.1 == b))
theorem U91 (R : Type) (a : Timpl_Literal.V) (b : Int) (K : AV → List Blk → Option R) : runF E91 Tryz.f121 R [dD Timpl_Literal a, .rop [] (.int .i64) b] [] K = K (dB (impl_prover_given_1 a b)) [] := by
  have h : runF E91 Tryz.f121 R [dD Timpl_Literal a, .rop [] (.int .i64) b] [] K =
 bif a.2.1 then
 K (dB (a.1 == b)) []
 else
 K (dB false) [] := by kernel_rfl
  rw [h]
  unfold impl_prover_given_1
  cases h1 : a.2.1
  · first | rfl | kernel_rfl
  · first | rfl | kernel_rfl
def c121 : Va.Callee := brC [.d Timpl_Literal, .p (.int .i64)] [⟨[.dat [] Timpl_Literal, .rop [] (.int .i64)], [], Bool, fun p => some (impl_prover_given_1 p.1.1 p.1.2.1), fun r => (dB r, [])⟩]
theorem c121_snd : SoundC Tryz.prog 121 c121 := br_snd (fn := Tryz.f121) (by kernel_rfl) (by kernel_rfl) (by kernel_rfl) ⟨⟨E91, ⟨⟨tabok, fns_ok trivial⟩, mixed⟩, fun p R K => U91 R p.1.1 p.1.2.1 K⟩, trivial⟩
abbrev E92 : Env := ⟨tab, lookH [(121, c121)], { deep := true, heads := [(2, { live := [0, 1, 7, 8] })], outs := [(2, { live := [4] })] }⟩
def S92_0 (a : (List Timpl_Literal.V)) (b : Int) (c : Int) (d : Int) (z_ : Int) : St := sT 19 [(0, dD (.sl Timpl_Literal) a), (1, .fn 121 (.cons (.ptr 0 b [] 0) .nil)), (7, dI d), (8, dI z_)] [.box (dI c)]
def O92_0 (a : (List Timpl_Literal.V)) (b : Int) (c : Int) (d : Int) : (Int ⊕ Unit) → Ex × St := Sum.elim (fun e => (.ret, sT 19 [(4, dI e)] [.box (dI c)])) (fun g => ((.exit 0), sT 19 [] [.box (dI c)]))
def slices_IndexFunc_Literal_l0_g (a : (List Timpl_Literal.V)) (b : Int) (c : Int) (d : Int) (i : Int) : Option (Int ⊕ (Int ⊕ Unit)) :=
 bif (decide (i < d)) then
 if (0 : Int) ≤ i ∧ i < (a.length : Int) then
 bif (impl_prover_given_1 (a.getD i.toNat (Ty.zero Timpl_Literal)) c) then
 some (.inr (.inl i))
 else
 some (.inl (IntKind.i64.wrap (i + 1)))
 else none
 else
 some (.inr (.inr ()))
def slices_IndexFunc_Literal_l0_r (a : (List Timpl_Literal.V)) (b : Int) (c : Int) (d : Int) (z_ : Int) := slices_IndexFunc_Literal_l0_g a b c d z_
def slices_IndexFunc_Literal_l0 (a : (List Timpl_Literal.V)) (b : Int) (c : Int) (d : Int) (i : Int) := fix (slices_IndexFunc_Literal_l0_r a b c d) i
theorem T92_0 (a : (List Timpl_Literal.V)) (b : Int) (c : Int) (d : Int) : LpOk E92 1 2 (code Tryz.f120) [1, 0, 1, 0] (S92_0 a b c d) (slices_IndexFunc_Literal_l0_r a b c d) (O92_0 a b c d) := by
  intro _
  simp only [slices_IndexFunc_Literal_l0_r, slices_IndexFunc_Literal_l0_g, mC, mI, mN, mB, mE, mM]
  kernel_rfl
def slices_IndexFunc_Literal (a : (List Timpl_Literal.V)) (b : Int) (c : Int) : Option (Int × Int) :=
 (slices_IndexFunc_Literal_l0 a b c (a.length : Int) 0).bind (Sum.elim (fun e =>
 some (e, c)) (fun g =>
 some ((-1), c)))
theorem U92 (R : Type) (a : (List Timpl_Literal.V)) (b : Int) (c : Int) (K : AV → List Blk → Option R) : runF E92 Tryz.f120 R [dD (.sl Timpl_Literal) a, .fn 121 (.cons (.ptr 0 b [] 0) .nil)] [.box (dI c)] K = (slices_IndexFunc_Literal a b c).bind fun r => K (dI r.1) [.box (dI r.2)] := by
  simp only [slices_IndexFunc_Literal, bC, bI, bN, bE, bA, bS, bO, bM]
  simp (disch := refine sI ?_ <;> (repeat' refine sA ?_ ?_) <;> intro _ <;> kernel_rfl) only [slices_IndexFunc_Literal_l0, lp_ok (T92_0 _ _ _ _) (K := finK E92 Tryz.f120 1 R K)]
  kernel_rfl
def c120 : Va.Callee := brC [.d (.sl Timpl_Literal), .raw] [⟨[.dat [] (.sl Timpl_Literal), .fn 121 (.cons (.ptr 0 [] 0) (.k .nil))], [.box (.dat [] (.int .i64))], (Int × Int), fun p => slices_IndexFunc_Literal p.1.1 p.1.2.1.1 p.2.1, fun r => (dI r.1, [.box (dI r.2)])⟩]
theorem c120_snd : SoundC Tryz.prog 120 c120 := br_snd (fn := Tryz.f120) (by kernel_rfl) (by kernel_rfl) (by kernel_rfl) ⟨⟨E92, ⟨⟨tabok, fns_ok ⟨c121_snd, trivial⟩⟩, mixed⟩, fun p R K => U92 R p.1.1 p.1.2.1.1 p.2.1 K⟩, trivial⟩
abbrev E93 : Env := ⟨tab, lookH [(120, c120)], { deep := true }⟩
def impl_prover_given (a : Timpl_prover.V) (b : Int) : Option Int :=
 (slices_IndexFunc_Literal a.2.1 0 b).bind fun c =>
 some c.1
theorem U93 (R : Type) (a : Timpl_prover.V) (b : Int) (K : AV → List Blk → Option R) : runF E93 Tryz.f76 R [.rop [] Timpl_prover a, dI b] [] K = (impl_prover_given a b).bind fun r => K (dI r) [] := by
  simp only [impl_prover_given, bC, bI, bN, bE, bA, bS, bO, bM]
  kernel_rfl
def c76 : Va.Callee := brC [.p Timpl_prover, .d (.int .i64)] [⟨[.rop [] Timpl_prover, .dat [] (.int .i64)], [], Int, fun p => impl_prover_given p.1.1 p.1.2.1, fun r => (dI r, [])⟩]
theorem c76_snd : SoundC Tryz.prog 76 c76 := br_snd (fn := Tryz.f76) (by kernel_rfl) (by kernel_rfl) (by kernel_rfl) ⟨⟨E93, ⟨⟨tabok, fns_ok ⟨c120_snd, trivial⟩⟩, mixed⟩, fun p R K => U93 R p.1.1 p.1.2.1 K⟩, trivial⟩
abbrev E94 : Env := ⟨tab, lookH [(52, c52)], { deep := true }⟩
def impl_prover_ahead (a : Timpl_prover.V) (b : Int) : Bool := (impl_inside b 0 (IntKind.i64.wrap ((a.2.2.2.1.length : Int) - 1)))
theorem U94 (R : Type) (a : Timpl_prover.V) (b : Int) (K : AV → List Blk → Option R) : runF E94 Tryz.f119 R [.rop [] Timpl_prover a, dI b] [] K = K (dB (impl_prover_ahead a b)) [] := by
  kernel_rfl
def c119 : Va.Callee := brC [.p Timpl_prover, .d (.int .i64)] [⟨[.rop [] Timpl_prover, .dat [] (.int .i64)], [], Bool, fun p => some (impl_prover_ahead p.1.1 p.1.2.1), fun r => (dB r, [])⟩]
theorem c119_snd : SoundC Tryz.prog 119 c119 := br_snd (fn := Tryz.f119) (by kernel_rfl) (by kernel_rfl) (by kernel_rfl) ⟨⟨E94, ⟨⟨tabok, fns_ok ⟨c52_snd, trivial⟩⟩, mixed⟩, fun p R K => U94 R p.1.1 p.1.2.1 K⟩, trivial⟩
abbrev E95 : Env := ⟨tab, lookH [(76, c76), (119, c119)], { deep := true, joins := [(8, { live := [0, 1, 20] })], ents := [(8, [0, 1, 8])] }⟩
def S95_0 (a : Timpl_prover.V) (b : Timpl_PStep.V) : St := sT 43 [(0, .rop [] Timpl_prover a), (1, .rop [] Timpl_PStep b), (8, dI b.1)] []
def O95_0 (a : Timpl_prover.V) (b : Timpl_PStep.V) (m0 : Bool) : Ex × St := (.normal, sT 43 [(0, .rop [] Timpl_prover a), (1, .rop [] Timpl_PStep b), (20, dB m0)] [])
theorem T95_0 (a : Timpl_prover.V) (b : Timpl_PStep.V) : jnS E95 0 8 (code Tryz.f75) [1, 0, 1, 0, 1, 1, 1, 1, 0] (S95_0 a b) = some (O95_0 a b (bif (b.1 == 4) then (b.1 == 4) else (b.1 == 6))) := by
  have h0 : jnS E95 0 8 (code Tryz.f75) [1, 0, 1, 0, 1, 1, 1, 1, 0] (S95_0 a b) =
 bif (b.1 == 4) then
 some (O95_0 a b (b.1 == 4))
 else
 some (O95_0 a b (b.1 == 6)) := by kernel_rfl
  rw [h0]
  cases h1 : (b.1 == 4)
  · first | rfl | kernel_rfl
  · first | rfl | kernel_rfl
def impl_prover_stepsOk (a : Timpl_prover.V) (b : Timpl_PStep.V) : Option Bool :=
 bif (b.1 == 1) then
 (impl_prover_given a b.2.1).bind fun c =>
 some (decide (c ≥ 0))
 else
 bif (b.1 == 2) then
 some true
 else
 mkr (S95_0 a b) (
 bif (bif (b.1 == 4) then (b.1 == 4) else (b.1 == 6)) then
 bif (impl_prover_ahead a b.2.1) then
 some (impl_prover_ahead a b.2.2.1)
 else
 some false
 else
 some (impl_prover_ahead a b.2.1))
theorem U95 (R : Type) (a : Timpl_prover.V) (b : Timpl_PStep.V) (K : AV → List Blk → Option R) : runF E95 Tryz.f75 R [.rop [] Timpl_prover a, .rop [] Timpl_PStep b] [] K = (impl_prover_stepsOk a b).bind fun r => K (dB r) [] := by
  simp only [impl_prover_stepsOk, bC, bI, bN, bE, bA, bS, bO, bM]
  simp (disch := refine sI ?_ <;> (repeat' refine sA ?_ ?_) <;> intro _ <;> kernel_rfl) only [in_ok (T95_0 _ _) (K := finK E95 Tryz.f75 0 R K)]
  kernel_rfl
def c75 : Va.Callee := brC [.p Timpl_prover, .p Timpl_PStep] [⟨[.rop [] Timpl_prover, .rop [] Timpl_PStep], [], Bool, fun p => impl_prover_stepsOk p.1.1 p.1.2.1, fun r => (dB r, [])⟩]
theorem c75_snd : SoundC Tryz.prog 75 c75 := br_snd (fn := Tryz.f75) (by kernel_rfl) (by kernel_rfl) (by kernel_rfl) ⟨⟨E95, ⟨⟨tabok, fns_ok ⟨c76_snd, c119_snd, trivial⟩⟩, mixed⟩, fun p R K => U95 R p.1.1 p.1.2.1 K⟩, trivial⟩
abbrev E96 : Env := ⟨tab, lookH [(73, c73), (122, c122)], { deep := true, res := [(0, .row [] 135 Timpl_Seg true)] }⟩
def impl_formOf (a : (List Timpl_Decl.V)) (b : Timpl_Term.V) : Option (Bool × (List Timpl_Seg.V)) :=
 (impl_widthOf a b).bind fun c =>
 bif (decide (c < 0)) then
 some (false, ([] : List Timpl_Seg.V))
 else
 (impl_flatten a b).bind fun d =>
 some (d.1, d.2)
theorem U96 (R : Type) (a : (List Timpl_Decl.V)) (b : Timpl_Term.V) (K : AV → List Blk → Option R) : runF E96 Tryz.f77 R [dD (.sl Timpl_Decl) a, dD Timpl_Term b] [] K = (impl_formOf a b).bind fun r => K (.cons (.ref 0) (.cons (dB r.1) .nil)) [.row 135 .deep Timpl_Seg r.2] := by
  simp only [impl_formOf, bC, bI, bN, bE, bA, bS, bO, bM]
  kernel_rfl
def c77 : Va.Callee := brC [.d (.sl Timpl_Decl), .d Timpl_Term] [⟨[.dat [] (.sl Timpl_Decl), .dat [] Timpl_Term], [], (Bool × (List Timpl_Seg.V)), fun p => impl_formOf p.1.1 p.1.2.1, fun r => (.cons (.ref 0) (.cons (dB r.1) .nil), [.row 135 .deep Timpl_Seg r.2])⟩]
theorem c77_snd : SoundC Tryz.prog 77 c77 := br_snd (fn := Tryz.f77) (by kernel_rfl) (by kernel_rfl) (by kernel_rfl) ⟨⟨E96, ⟨⟨tabok, fns_ok ⟨c73_snd, c122_snd, trivial⟩⟩, mixed⟩, fun p R K => U96 R p.1.1 p.1.2.1 K⟩, trivial⟩
end
end Go.Proofs.X
namespace Go.Proofs.X
open Go Go.Va
set_option maxRecDepth 100000
noncomputable section
abbrev E97 : Env := ⟨tab, lookH [], { deep := true, heads := [(4, { live := [0, 1, 12, 13] })], outs := [(4, { live := [4] })] }⟩
def S97_0 (a : (List Int)) (b : (List Int)) (c : Int) (z_ : Int) : St := sT 26 [(0, dD (.sl (.int .u64)) a), (1, dD (.sl (.int .u64)) b), (12, dI c), (13, dI z_)] []
def O97_0 (a : (List Int)) (b : (List Int)) (c : Int) : (Unit ⊕ Unit) → Ex × St := Sum.elim (fun d => (.ret, sT 26 [(4, dB false)] [])) (fun e => ((.exit 0), sT 26 [] []))
def slices_Equal_uint64_l0_g (a : (List Int)) (b : (List Int)) (c : Int) (g : Int) : Option (Int ⊕ (Unit ⊕ Unit)) :=
 bif (decide (g < c)) then
 if (0 : Int) ≤ g ∧ g < (a.length : Int) then
 if (0 : Int) ≤ g ∧ g < (b.length : Int) then
 bif ((a.getD g.toNat (Ty.zero (.int .u64))) != (b.getD g.toNat (Ty.zero (.int .u64)))) then
 some (.inr (.inl ()))
 else
 some (.inl (IntKind.i64.wrap (g + 1)))
 else none
 else none
 else
 some (.inr (.inr ()))
def slices_Equal_uint64_l0_r (a : (List Int)) (b : (List Int)) (c : Int) (z_ : Int) := slices_Equal_uint64_l0_g a b c z_
def slices_Equal_uint64_l0 (a : (List Int)) (b : (List Int)) (c : Int) (g : Int) := fix (slices_Equal_uint64_l0_r a b c) g
theorem T97_0 (a : (List Int)) (b : (List Int)) (c : Int) : LpOk E97 0 4 (code Tryz.f180) [1, 1, 0, 1, 0] (S97_0 a b c) (slices_Equal_uint64_l0_r a b c) (O97_0 a b c) := by
  intro _
  simp only [slices_Equal_uint64_l0_r, slices_Equal_uint64_l0_g, mC, mI, mN, mB, mE, mM]
  kernel_rfl
def slices_Equal_uint64 (a : (List Int)) (b : (List Int)) : Option Bool :=
 bif ((a.length : Int) != (b.length : Int)) then
 some false
 else
 (slices_Equal_uint64_l0 a b (a.length : Int) 0).bind (Sum.elim (fun d =>
 some false) (fun e =>
 some true))
theorem U97 (R : Type) (a : (List Int)) (b : (List Int)) (K : AV → List Blk → Option R) : runF E97 Tryz.f180 R [dD (.sl (.int .u64)) a, dD (.sl (.int .u64)) b] [] K = (slices_Equal_uint64 a b).bind fun r => K (dB r) [] := by
  simp only [slices_Equal_uint64, bC, bI, bN, bE, bA, bS, bO, bM]
  simp (disch := refine sI ?_ <;> (repeat' refine sA ?_ ?_) <;> intro _ <;> kernel_rfl) only [slices_Equal_uint64_l0, lp_ok (T97_0 _ _ _) (K := finK E97 Tryz.f180 0 R K)]
  kernel_rfl
def c180 : Va.Callee := brC [.d (.sl (.int .u64)), .d (.sl (.int .u64))] [⟨[.dat [] (.sl (.int .u64)), .dat [] (.sl (.int .u64))], [], Bool, fun p => slices_Equal_uint64 p.1.1 p.1.2.1, fun r => (dB r, [])⟩]
theorem c180_snd : SoundC Tryz.prog 180 c180 := br_snd (fn := Tryz.f180) (by kernel_rfl) (by kernel_rfl) (by kernel_rfl) ⟨⟨E97, ⟨⟨tabok, fns_ok trivial⟩, mixed⟩, fun p R K => U97 R p.1.1 p.1.2.1 K⟩, trivial⟩
abbrev E98 : Env := ⟨tab, lookH [(180, c180)], { deep := true }⟩
def impl_Bits_same (a : Timpl_Bits.V) (b : Timpl_Bits.V) : Option Bool :=
 bif (a.1 == b.1) then
 (slices_Equal_uint64 a.2.1 b.2.1).bind fun c =>
 some c
 else
 some false
theorem U98 (R : Type) (a : Timpl_Bits.V) (b : Timpl_Bits.V) (K : AV → List Blk → Option R) : runF E98 Tryz.f159 R [dD Timpl_Bits a, dD Timpl_Bits b] [] K = (impl_Bits_same a b).bind fun r => K (dB r) [] := by
  simp only [impl_Bits_same, bC, bI, bN, bE, bA, bS, bO, bM]
  kernel_rfl
def c159 : Va.Callee := brC [.d Timpl_Bits, .d Timpl_Bits] [⟨[.dat [] Timpl_Bits, .dat [] Timpl_Bits], [], Bool, fun p => impl_Bits_same p.1.1 p.1.2.1, fun r => (dB r, [])⟩]
theorem c159_snd : SoundC Tryz.prog 159 c159 := br_snd (fn := Tryz.f159) (by kernel_rfl) (by kernel_rfl) (by kernel_rfl) ⟨⟨E98, ⟨⟨tabok, fns_ok ⟨c180_snd, trivial⟩⟩, mixed⟩, fun p R K => U98 R p.1.1 p.1.2.1 K⟩, trivial⟩
abbrev E99 : Env := ⟨tab, lookH [(159, c159)], { deep := true }⟩
def impl_sameSeg (a : Timpl_Seg.V) (b : Timpl_Seg.V) : Option Bool :=
 bif (a.1 == b.1) then
 bif (a.2.1 == b.2.1) then
 bif (a.2.2.1 == b.2.2.1) then
 (impl_Bits_same a.2.2.2.1 b.2.2.2.1).bind fun c =>
 some c
 else
 some false
 else
 some false
 else
 some false
theorem U99 (R : Type) (a : Timpl_Seg.V) (b : Timpl_Seg.V) (K : AV → List Blk → Option R) : runF E99 Tryz.f124 R [dD Timpl_Seg a, dD Timpl_Seg b] [] K = (impl_sameSeg a b).bind fun r => K (dB r) [] := by
  simp only [impl_sameSeg, bC, bI, bN, bE, bA, bS, bO, bM]
  kernel_rfl
def c124 : Va.Callee := brC [.d Timpl_Seg, .d Timpl_Seg] [⟨[.dat [] Timpl_Seg, .dat [] Timpl_Seg], [], Bool, fun p => impl_sameSeg p.1.1 p.1.2.1, fun r => (dB r, [])⟩]
theorem c124_snd : SoundC Tryz.prog 124 c124 := br_snd (fn := Tryz.f124) (by kernel_rfl) (by kernel_rfl) (by kernel_rfl) ⟨⟨E99, ⟨⟨tabok, fns_ok ⟨c159_snd, trivial⟩⟩, mixed⟩, fun p R K => U99 R p.1.1 p.1.2.1 K⟩, trivial⟩
abbrev E100 : Env := ⟨tab, lookH [(124, c124)], { deep := true, heads := [(4, { live := [1, 2, 15, 16, 17] })], outs := [(4, { live := [6] })] }⟩
def S100_0 (a : (List Timpl_Seg.V)) (b : (List Timpl_Seg.V)) (c : Int) (z_ : Int) : St := sT 32 [(1, dD (.sl Timpl_Seg) a), (2, .fn 124 .nil), (15, dD (.sl Timpl_Seg) b), (16, dI c), (17, dI z_)] []
def O100_0 (a : (List Timpl_Seg.V)) (b : (List Timpl_Seg.V)) (c : Int) : (Unit ⊕ Unit) → Ex × St := Sum.elim (fun d => (.ret, sT 32 [(6, dB false)] [])) (fun e => ((.exit 0), sT 32 [] []))
def slices_EqualFunc_Seg_l0_g (a : (List Timpl_Seg.V)) (b : (List Timpl_Seg.V)) (c : Int) (g : Int) : Option (Int ⊕ (Unit ⊕ Unit)) :=
 bif (decide (g < c)) then
 if (0 : Int) ≤ g ∧ g < (b.length : Int) then
 if (0 : Int) ≤ g ∧ g < (a.length : Int) then
 (impl_sameSeg (b.getD g.toNat (Ty.zero Timpl_Seg)) (a.getD g.toNat (Ty.zero Timpl_Seg))).bind fun i =>
 bif (!i) then
 some (.inr (.inl ()))
 else
 some (.inl (IntKind.i64.wrap (g + 1)))
 else none
 else none
 else
 some (.inr (.inr ()))
def slices_EqualFunc_Seg_l0_r (a : (List Timpl_Seg.V)) (b : (List Timpl_Seg.V)) (c : Int) (z_ : Int) := slices_EqualFunc_Seg_l0_g a b c z_
def slices_EqualFunc_Seg_l0 (a : (List Timpl_Seg.V)) (b : (List Timpl_Seg.V)) (c : Int) (g : Int) := fix (slices_EqualFunc_Seg_l0_r a b c) g
theorem T100_0 (a : (List Timpl_Seg.V)) (b : (List Timpl_Seg.V)) (c : Int) : LpOk E100 0 4 (code Tryz.f123) [1, 1, 0, 1, 0] (S100_0 a b c) (slices_EqualFunc_Seg_l0_r a b c) (O100_0 a b c) := by
  intro _
  simp only [slices_EqualFunc_Seg_l0_r, slices_EqualFunc_Seg_l0_g, mC, mI, mN, mB, mE, mM]
  kernel_rfl
def slices_EqualFunc_Seg (b : (List Timpl_Seg.V)) (a : (List Timpl_Seg.V)) : Option Bool :=
 bif ((b.length : Int) != (a.length : Int)) then
 some false
 else
 (slices_EqualFunc_Seg_l0 a b (b.length : Int) 0).bind (Sum.elim (fun d =>
 some false) (fun e =>
 some true))
theorem U100 (R : Type) (b : (List Timpl_Seg.V)) (a : (List Timpl_Seg.V)) (K : AV → List Blk → Option R) : runF E100 Tryz.f123 R [dD (.sl Timpl_Seg) b, dD (.sl Timpl_Seg) a, .fn 124 .nil] [] K = (slices_EqualFunc_Seg b a).bind fun r => K (dB r) [] := by
  simp only [slices_EqualFunc_Seg, bC, bI, bN, bE, bA, bS, bO, bM]
  simp (disch := refine sI ?_ <;> (repeat' refine sA ?_ ?_) <;> intro _ <;> kernel_rfl) only [slices_EqualFunc_Seg_l0, lp_ok (T100_0 _ _ _) (K := finK E100 Tryz.f123 0 R K)]
  kernel_rfl
def c123 : Va.Callee := brC [.d (.sl Timpl_Seg), .d (.sl Timpl_Seg), .raw] [⟨[.dat [] (.sl Timpl_Seg), .dat [] (.sl Timpl_Seg), .fn 124 (.k .nil)], [], Bool, fun p => slices_EqualFunc_Seg p.1.1 p.1.2.1, fun r => (dB r, [])⟩]
theorem c123_snd : SoundC Tryz.prog 123 c123 := br_snd (fn := Tryz.f123) (by kernel_rfl) (by kernel_rfl) (by kernel_rfl) ⟨⟨E100, ⟨⟨tabok, fns_ok ⟨c124_snd, trivial⟩⟩, mixed⟩, fun p R K => U100 R p.1.1 p.1.2.1 K⟩, trivial⟩
abbrev E101 : Env := ⟨tab, lookH [(123, c123)], { deep := true }⟩
def impl_sameFlat (a : (List Timpl_Seg.V)) (b : (List Timpl_Seg.V)) : Option Bool :=
 (slices_EqualFunc_Seg a b).bind fun c =>
 some c
theorem U101 (R : Type) (a : (List Timpl_Seg.V)) (b : (List Timpl_Seg.V)) (K : AV → List Blk → Option R) : runF E101 Tryz.f78 R [dD (.sl Timpl_Seg) a, dD (.sl Timpl_Seg) b] [] K = (impl_sameFlat a b).bind fun r => K (dB r) [] := by
  simp only [impl_sameFlat, bC, bI, bN, bE, bA, bS, bO, bM]
  kernel_rfl
def c78 : Va.Callee := brC [.d (.sl Timpl_Seg), .d (.sl Timpl_Seg)] [⟨[.dat [] (.sl Timpl_Seg), .dat [] (.sl Timpl_Seg)], [], Bool, fun p => impl_sameFlat p.1.1 p.1.2.1, fun r => (dB r, [])⟩]
theorem c78_snd : SoundC Tryz.prog 78 c78 := br_snd (fn := Tryz.f78) (by kernel_rfl) (by kernel_rfl) (by kernel_rfl) ⟨⟨E101, ⟨⟨tabok, fns_ok ⟨c123_snd, trivial⟩⟩, mixed⟩, fun p R K => U101 R p.1.1 p.1.2.1 K⟩, trivial⟩
abbrev E102 : Env := ⟨tab, lookH [(52, c52), (182, c182)], { deep := true, joins := [(2, { live := [0, 3, 12] }), (6, { live := [0, 3, 51] })], ents := [(2, [0, 3]), (6, [0, 3])] }⟩
def S102_1 (a : (List Timpl_Decl.V)) (b : Timpl_Seg.V) : St := sT 69 [(0, dD (.sl Timpl_Decl) a), (3, .ptr 0 0 [] 0)] [.box (dD Timpl_Seg b)]
def O102_1 (a : (List Timpl_Decl.V)) (b : Timpl_Seg.V) (m0 : Bool) : Ex × St := (.normal, sT 69 [(0, dD (.sl Timpl_Decl) a), (3, .ptr 0 0 [] 0), (51, dB m0)] [.box (dD Timpl_Seg b)])
theorem T102_1 (a : (List Timpl_Decl.V)) (b : Timpl_Seg.V) : jnS E102 0 6 (code Tryz.f161) [1, 1, 1, 0, 0] (S102_1 a b) = some (O102_1 a b ((!(impl_inside b.1 0 (IntKind.i64.wrap ((a.length : Int) - 1)))) || ((b.2.2.2.1.1 != 0) || ((b.2.2.2.1.2.1.length : Int) != 0)))) := by
  have h0 : jnS E102 0 6 (code Tryz.f161) [1, 1, 1, 0, 0] (S102_1 a b) =
 bif (!(impl_inside b.1 0 (IntKind.i64.wrap ((a.length : Int) - 1)))) then
 some (O102_1 a b true)
 else
 bif (b.2.2.2.1.1 != 0) then
 some (O102_1 a b true)
 else
 some (O102_1 a b ((b.2.2.2.1.2.1.length : Int) != 0)) := by kernel_rfl
  rw [h0]
  cases h1 : (!(impl_inside b.1 0 (IntKind.i64.wrap ((a.length : Int) - 1))))
  · cases h2 : (b.2.2.2.1.1 != 0)
    · first | rfl | kernel_rfl
    · first | rfl | kernel_rfl
  · first | rfl | kernel_rfl
def S102_0 (a : (List Timpl_Decl.V)) (b : Timpl_Seg.V) : St := sT 69 [(0, dD (.sl Timpl_Decl) a), (3, .ptr 0 0 [] 0)] [.box (dD Timpl_Seg b)]
def O102_0 (a : (List Timpl_Decl.V)) (b : Timpl_Seg.V) (m0 : Bool) : Ex × St := (.normal, sT 69 [(0, dD (.sl Timpl_Decl) a), (3, .ptr 0 0 [] 0), (12, dB m0)] [.box (dD Timpl_Seg b)])
theorem T102_0 (a : (List Timpl_Decl.V)) (b : Timpl_Seg.V) : jnS E102 0 2 (code Tryz.f161) [1, 0, 0] (S102_0 a b) = some (O102_0 a b ((decide (b.2.2.1 < 1)) || (decide (b.2.2.1 > 4096)))) := by
  have h0 : jnS E102 0 2 (code Tryz.f161) [1, 0, 0] (S102_0 a b) =
 bif (decide (b.2.2.1 < 1)) then
 some (O102_0 a b true)
 else
 some (O102_0 a b (decide (b.2.2.1 > 4096))) := by kernel_rfl
  rw [h0]
  cases h1 : (decide (b.2.2.1 < 1))
  · first | rfl | kernel_rfl
  · first | rfl | kernel_rfl
def impl_segOk (a : (List Timpl_Decl.V)) (b : Timpl_Seg.V) : Option Bool :=
 mkr (S102_0 a b) (
 bif ((decide (b.2.2.1 < 1)) || (decide (b.2.2.1 > 4096))) then
 some false
 else
 bif (b.1 == (-1)) then
 bif (b.2.1 == 0) then
 (impl_BitsOk b.2.2.2.1).bind fun c =>
 bif c then
 some (b.2.2.2.1.1 == b.2.2.1)
 else
 some false
 else
 some false
 else
 mkr (S102_1 a b) (
 bif ((!(impl_inside b.1 0 (IntKind.i64.wrap ((a.length : Int) - 1)))) || ((b.2.2.2.1.1 != 0) || ((b.2.2.2.1.2.1.length : Int) != 0))) then
 some false
 else
 bif (decide (b.2.1 ≥ 0)) then
 if (0 : Int) ≤ b.1 ∧ b.1 < (a.length : Int) then
 some (decide (b.2.1 ≤ (IntKind.i64.wrap ((a.getD b.1.toNat (Ty.zero Timpl_Decl)).2.1 - b.2.2.1))))
 else none
 else
 some false))
theorem U102 (R : Type) (a : (List Timpl_Decl.V)) (b : Timpl_Seg.V) (K : AV → List Blk → Option R) : runF E102 Tryz.f161 R [dD (.sl Timpl_Decl) a, dD Timpl_Seg b] [] K = (impl_segOk a b).bind fun r => K (dB r) [] := by
  simp only [impl_segOk, bC, bI, bN, bE, bA, bS, bO, bM]
  simp (disch := refine sI ?_ <;> (repeat' refine sA ?_ ?_) <;> intro _ <;> kernel_rfl) only [in_ok (T102_0 _ _) (K := finK E102 Tryz.f161 0 R K), in_ok (T102_1 _ _) (K := finK E102 Tryz.f161 0 R K)]
  kernel_rfl
def c161 : Va.Callee := brC [.d (.sl Timpl_Decl), .d Timpl_Seg] [⟨[.dat [] (.sl Timpl_Decl), .dat [] Timpl_Seg], [], Bool, fun p => impl_segOk p.1.1 p.1.2.1, fun r => (dB r, [])⟩]
theorem c161_snd : SoundC Tryz.prog 161 c161 := br_snd (fn := Tryz.f161) (by kernel_rfl) (by kernel_rfl) (by kernel_rfl) ⟨⟨E102, ⟨⟨tabok, fns_ok ⟨c52_snd, c182_snd, trivial⟩⟩, mixed⟩, fun p R K => U102 R p.1.1 p.1.2.1 K⟩, trivial⟩
abbrev E103 : Env := ⟨tab, lookH [(161, c161), (162, c162)], { deep := true, heads := [(5, { live := [0, 1, 5, 16, 17, 18] })], outs := [(5, { live := [4, 5] })], joins := [(2, { live := [0, 1, 15] }), (8, { live := [0, 1, 5, 7, 16, 17, 18, 39] })], ents := [(2, [0, 1]), (8, [0, 1, 5, 6, 7, 16, 17, 18])] }⟩
def S103_2 (a : (List Timpl_Decl.V)) (b : (List Timpl_Seg.V)) (c : Int) (z_ : (Int × Int)) : St := sT 47 [(0, dD (.sl Timpl_Decl) a), (1, dD (.sl Timpl_Seg) b), (5, dI z_.1), (16, dD (.sl Timpl_Seg) b), (17, dI c), (18, dI z_.2)] []
def O103_2 (a : (List Timpl_Decl.V)) (b : (List Timpl_Seg.V)) (c : Int) : (Int ⊕ Int) → Ex × St := Sum.elim (fun d => (.ret, sT 47 [(4, dB false), (5, dI d)] [])) (fun e => ((.exit 0), sT 47 [(5, dI e)] []))
def S103_1 (a : (List Timpl_Decl.V)) (b : (List Timpl_Seg.V)) (g : Int) (i : Int) (c : Int) (j : Timpl_Seg.V) : St := sT 47 [(0, dD (.sl Timpl_Decl) a), (1, dD (.sl Timpl_Seg) b), (5, dI g), (6, dI i), (7, .ptr 0 0 [] 0), (16, dD (.sl Timpl_Seg) b), (17, dI c), (18, dI i)] [.box (dD Timpl_Seg j)]
def O103_1 (a : (List Timpl_Decl.V)) (b : (List Timpl_Seg.V)) (g : Int) (i : Int) (c : Int) (j : Timpl_Seg.V) : Bool → Ex × St := fun k => (.normal, sT 47 [(0, dD (.sl Timpl_Decl) a), (1, dD (.sl Timpl_Seg) b), (5, dI g), (7, .ptr 0 0 [] 0), (16, dD (.sl Timpl_Seg) b), (17, dI c), (18, dI i), (39, dB k)] [.box (dD Timpl_Seg j)])
def impl_flatOk_l1 (a : (List Timpl_Decl.V)) (b : (List Timpl_Seg.V)) (g : Int) (i : Int) (c : Int) (j : Timpl_Seg.V) : Option Bool :=
 (impl_segOk a j).bind fun l =>
 bif (!l) then
 some true
 else
 bif (decide (i > 0)) then
 if (0 : Int) ≤ (IntKind.i64.wrap (i - 1)) ∧ (IntKind.i64.wrap (i - 1)) < (b.length : Int) then
 some (impl_Seg_meets (b.getD (IntKind.i64.wrap (i - 1)).toNat (Ty.zero Timpl_Seg)) j)
 else none
 else
 some false
theorem T103_1 (a : (List Timpl_Decl.V)) (b : (List Timpl_Seg.V)) (g : Int) (i : Int) (c : Int) (j : Timpl_Seg.V) : JnOk E103 0 8 (sub (code Tryz.f128) [1, 1, 1, 0, 1, 0, 0]) [1, 1, 0, 0, 1, 0, 0] (S103_1 a b g i c j) (impl_flatOk_l1 a b g i c j) (O103_1 a b g i c j) := by
  unfold JnOk
  simp only [impl_flatOk_l1, mC, mI, mN, mB, mE, mM]
  kernel_rfl
def impl_flatOk_l2_g (a : (List Timpl_Decl.V)) (b : (List Timpl_Seg.V)) (c : Int) (g : Int) (i : Int) : Option ((Int × Int) ⊕ (Int ⊕ Int)) :=
 bif (decide (i < c)) then
 if (0 : Int) ≤ i ∧ i < (b.length : Int) then
 (impl_flatOk_l1 a b g i c (b.getD i.toNat (Ty.zero Timpl_Seg))).bind fun k =>
 bif k then
 some (.inr (.inl g))
 else
 some (.inl ((IntKind.i64.wrap (g + (b.getD i.toNat (Ty.zero Timpl_Seg)).2.2.1)), (IntKind.i64.wrap (i + 1))))
 else none
 else
 some (.inr (.inr g))
def impl_flatOk_l2_r (a : (List Timpl_Decl.V)) (b : (List Timpl_Seg.V)) (c : Int) (z_ : (Int × Int)) := impl_flatOk_l2_g a b c z_.1 z_.2
def impl_flatOk_l2 (a : (List Timpl_Decl.V)) (b : (List Timpl_Seg.V)) (c : Int) (g : Int) (i : Int) := fix (impl_flatOk_l2_r a b c) (g, i)
theorem T103_2 (a : (List Timpl_Decl.V)) (b : (List Timpl_Seg.V)) (c : Int) : LpOk E103 0 5 (code Tryz.f128) [1, 1, 1, 0, 1, 0] (S103_2 a b c) (impl_flatOk_l2_r a b c) (O103_2 a b c) := by
  intro _
  simp only [impl_flatOk_l2_r, impl_flatOk_l2_g, mC, mI, mN, mB, mE, mM]
  simp (disch := refine sI ?_ <;> (repeat' refine sA ?_ ?_) <;> intro _ <;> kernel_rfl) only [jn_ok (T103_1 _ _ _ _ _ _) (K := stepK 0 (E103.hd 5) (E103.ot 5))]
  kernel_rfl
def S103_0 (a : (List Timpl_Decl.V)) (b : (List Timpl_Seg.V)) : St := sT 47 [(0, dD (.sl Timpl_Decl) a), (1, dD (.sl Timpl_Seg) b)] []
def O103_0 (a : (List Timpl_Decl.V)) (b : (List Timpl_Seg.V)) (m0 : Bool) : Ex × St := (.normal, sT 47 [(0, dD (.sl Timpl_Decl) a), (1, dD (.sl Timpl_Seg) b), (15, dB m0)] [])
theorem T103_0 (a : (List Timpl_Decl.V)) (b : (List Timpl_Seg.V)) : jnS E103 0 2 (code Tryz.f128) [1, 0, 0] (S103_0 a b) = some (O103_0 a b ((decide ((b.length : Int) < 1)) || (decide ((b.length : Int) > 2000)))) := by
  have h0 : jnS E103 0 2 (code Tryz.f128) [1, 0, 0] (S103_0 a b) =
 bif (decide ((b.length : Int) < 1)) then
 some (O103_0 a b true)
 else
 some (O103_0 a b (decide ((b.length : Int) > 2000))) := by kernel_rfl
  rw [h0]
  cases h1 : (decide ((b.length : Int) < 1))
  · first | rfl | kernel_rfl
  · first | rfl | kernel_rfl
def impl_flatOk (a : (List Timpl_Decl.V)) (b : (List Timpl_Seg.V)) : Option Bool :=
 mkr (S103_0 a b) (
 bif ((decide ((b.length : Int) < 1)) || (decide ((b.length : Int) > 2000))) then
 some false
 else
 (impl_flatOk_l2 a b (b.length : Int) 0 0).bind (Sum.elim (fun d =>
 some false) (fun e =>
 some (decide (e ≤ 4096)))))
theorem U103 (R : Type) (a : (List Timpl_Decl.V)) (b : (List Timpl_Seg.V)) (K : AV → List Blk → Option R) : runF E103 Tryz.f128 R [dD (.sl Timpl_Decl) a, dD (.sl Timpl_Seg) b] [] K = (impl_flatOk a b).bind fun r => K (dB r) [] := by
  simp only [impl_flatOk, bC, bI, bN, bE, bA, bS, bO, bM]
  simp (disch := refine sI ?_ <;> (repeat' refine sA ?_ ?_) <;> intro _ <;> kernel_rfl) only [in_ok (T103_0 _ _) (K := finK E103 Tryz.f128 0 R K), impl_flatOk_l2, lp_ok (T103_2 _ _ _) (K := finK E103 Tryz.f128 0 R K)]
  kernel_rfl
def c128 : Va.Callee := brC [.d (.sl Timpl_Decl), .d (.sl Timpl_Seg)] [⟨[.dat [] (.sl Timpl_Decl), .dat [] (.sl Timpl_Seg)], [], Bool, fun p => impl_flatOk p.1.1 p.1.2.1, fun r => (dB r, [])⟩]
theorem c128_snd : SoundC Tryz.prog 128 c128 := br_snd (fn := Tryz.f128) (by kernel_rfl) (by kernel_rfl) (by kernel_rfl) ⟨⟨E103, ⟨⟨tabok, fns_ok ⟨c161_snd, c162_snd, trivial⟩⟩, mixed⟩, fun p R K => U103 R p.1.1 p.1.2.1 K⟩, trivial⟩
abbrev E104 : Env := ⟨tab, lookH [(104, c104), (128, c128)], { deep := true }⟩
def impl_FlatOk (a : (List Timpl_Decl.V)) (b : (List Timpl_Seg.V)) : Option Bool :=
 (impl_DeclsOk a).bind fun c =>
 bif c then
 (impl_flatOk a b).bind fun d =>
 some d
 else
 some false
theorem U104 (R : Type) (a : (List Timpl_Decl.V)) (b : (List Timpl_Seg.V)) (K : AV → List Blk → Option R) : runF E104 Tryz.f125 R [dD (.sl Timpl_Decl) a, dD (.sl Timpl_Seg) b] [] K = (impl_FlatOk a b).bind fun r => K (dB r) [] := by
  simp only [impl_FlatOk, bC, bI, bN, bE, bA, bS, bO, bM]
  kernel_rfl
def c125 : Va.Callee := brC [.d (.sl Timpl_Decl), .d (.sl Timpl_Seg)] [⟨[.dat [] (.sl Timpl_Decl), .dat [] (.sl Timpl_Seg)], [], Bool, fun p => impl_FlatOk p.1.1 p.1.2.1, fun r => (dB r, [])⟩]
theorem c125_snd : SoundC Tryz.prog 125 c125 := br_snd (fn := Tryz.f125) (by kernel_rfl) (by kernel_rfl) (by kernel_rfl) ⟨⟨E104, ⟨⟨tabok, fns_ok ⟨c104_snd, c128_snd, trivial⟩⟩, mixed⟩, fun p R K => U104 R p.1.1 p.1.2.1 K⟩, trivial⟩
end
end Go.Proofs.X
namespace Go.Proofs.X
open Go Go.Va
set_option maxRecDepth 100000
noncomputable section
abbrev E105 : Env := ⟨tab, lookH [(39, c39), (125, c125), (126, c126), (127, c127)], { deep := true, joins := [(2, { live := [1, 2, 3, 28] })], ents := [(2, [0, 1, 2, 3])], frzd := [(35, (.sl Timpl_Seg))], res := [(0, .row [] 135 Timpl_Seg true)] }⟩
def S105_0 (a : (List Timpl_Decl.V)) (b : (List Timpl_Seg.V)) (c : Int) (d : Int) : St := sT 37 [(0, dD (.sl Timpl_Decl) a), (1, dD (.sl Timpl_Seg) b), (2, dI c), (3, dI d)] []
def O105_0 (a : (List Timpl_Decl.V)) (b : (List Timpl_Seg.V)) (c : Int) (d : Int) : Bool → Ex × St := fun e => (.normal, sT 37 [(1, dD (.sl Timpl_Seg) b), (2, dI c), (3, dI d), (28, dB e)] [])
def impl_FlatPart_l0 (a : (List Timpl_Decl.V)) (b : (List Timpl_Seg.V)) (c : Int) (d : Int) : Option Bool :=
 (impl_FlatOk a b).bind fun g =>
 bif (!g) then
 some true
 else
 bif (decide (d < 0)) then
 some true
 else
 bif (decide (d > c)) then
 some true
 else
 (impl_flatWidth b).bind fun i =>
 some (decide (c ≥ i))
theorem T105_0 (a : (List Timpl_Decl.V)) (b : (List Timpl_Seg.V)) (c : Int) (d : Int) : JnOk E105 0 2 (code Tryz.f79) [1, 0, 0] (S105_0 a b c d) (impl_FlatPart_l0 a b c d) (O105_0 a b c d) := by
  unfold JnOk
  simp only [impl_FlatPart_l0, mC, mI, mN, mB, mE, mM]
  kernel_rfl
def impl_FlatPart (a : (List Timpl_Decl.V)) (b : (List Timpl_Seg.V)) (c : Int) (d : Int) : Option (Bool × (List Timpl_Seg.V)) :=
 (impl_FlatPart_l0 a b c d).bind fun e =>
 bif e then
 some (false, ([] : List Timpl_Seg.V))
 else
 (impl_flatPart b d (IntKind.i64.wrap ((IntKind.i64.wrap (c - d)) + 1))).bind fun j =>
 (impl_cloneFlat j).bind fun k =>
 some (true, k)
theorem U105 (R : Type) (a : (List Timpl_Decl.V)) (b : (List Timpl_Seg.V)) (c : Int) (d : Int) (K : AV → List Blk → Option R) : runF E105 Tryz.f79 R [dD (.sl Timpl_Decl) a, dD (.sl Timpl_Seg) b, dI c, dI d] [] K = (impl_FlatPart a b c d).bind fun r => K (.cons (.ref 0) (.cons (dB r.1) .nil)) [.row 135 .deep Timpl_Seg r.2] := by
  simp only [impl_FlatPart, bC, bI, bN, bE, bA, bS, bO, bM]
  simp (disch := refine sI ?_ <;> (repeat' refine sA ?_ ?_) <;> intro _ <;> kernel_rfl) only [jn_ok (T105_0 _ _ _ _) (K := finK E105 Tryz.f79 0 R K)]
  kernel_rfl
def c79 : Va.Callee := brC [.d (.sl Timpl_Decl), .d (.sl Timpl_Seg), .d (.int .i64), .d (.int .i64)] [⟨[.dat [] (.sl Timpl_Decl), .dat [] (.sl Timpl_Seg), .dat [] (.int .i64), .dat [] (.int .i64)], [], (Bool × (List Timpl_Seg.V)), fun p => impl_FlatPart p.1.1 p.1.2.1 p.1.2.2.1 p.1.2.2.2.1, fun r => (.cons (.ref 0) (.cons (dB r.1) .nil), [.row 135 .deep Timpl_Seg r.2])⟩]
theorem c79_snd : SoundC Tryz.prog 79 c79 := br_snd (fn := Tryz.f79) (by kernel_rfl) (by kernel_rfl) (by kernel_rfl) ⟨⟨E105, ⟨⟨tabok, fns_ok ⟨c39_snd, c125_snd, c126_snd, c127_snd, trivial⟩⟩, mixed⟩, fun p R K => U105 R p.1.1 p.1.2.1 p.1.2.2.1 p.1.2.2.2.1 K⟩, trivial⟩
abbrev E106 : Env := ⟨tab, lookH [(39, c39), (125, c125), (126, c126), (128, c128), (129, c129)], { deep := true, joins := [(2, { live := [1, 2, 26] })], ents := [(2, [0, 1, 2])], frzd := [(30, (.sl Timpl_Seg))], shal := [28], frz := [(0, (.sl Timpl_Seg)), (1, .bool)] }⟩
def S106_0 (a : (List Timpl_Decl.V)) (b : (List Timpl_Seg.V)) (c : (List Timpl_Seg.V)) : St := sT 36 [(0, dD (.sl Timpl_Decl) a), (1, dD (.sl Timpl_Seg) b), (2, dD (.sl Timpl_Seg) c)] []
def O106_0 (a : (List Timpl_Decl.V)) (b : (List Timpl_Seg.V)) (c : (List Timpl_Seg.V)) : Bool → Ex × St := fun d => (.normal, sT 36 [(1, dD (.sl Timpl_Seg) b), (2, dD (.sl Timpl_Seg) c), (26, dB d)] [])
def impl_FlatJoin_l0 (a : (List Timpl_Decl.V)) (b : (List Timpl_Seg.V)) (c : (List Timpl_Seg.V)) : Option Bool :=
 (impl_FlatOk a b).bind fun e =>
 bif (!e) then
 some true
 else
 (impl_flatOk a c).bind fun g =>
 bif (!g) then
 some true
 else
 (impl_flatWidth b).bind fun i =>
 (impl_flatWidth c).bind fun j =>
 some (decide ((IntKind.i64.wrap (i + j)) > 4096))
theorem T106_0 (a : (List Timpl_Decl.V)) (b : (List Timpl_Seg.V)) (c : (List Timpl_Seg.V)) : JnOk E106 0 2 (code Tryz.f80) [1, 0, 0] (S106_0 a b c) (impl_FlatJoin_l0 a b c) (O106_0 a b c) := by
  unfold JnOk
  simp only [impl_FlatJoin_l0, mC, mI, mN, mB, mE, mM]
  kernel_rfl
def impl_FlatJoin (a : (List Timpl_Decl.V)) (b : (List Timpl_Seg.V)) (c : (List Timpl_Seg.V)) : Option ((List Timpl_Seg.V) × Bool) :=
 (impl_FlatJoin_l0 a b c).bind fun d =>
 bif d then
 some (([] : List Timpl_Seg.V), false)
 else
 (impl_cloneFlat c).bind fun k =>
 (impl_cloneFlat b).bind fun l =>
 (impl_raise_b l k).bind fun n =>
 bif (decide ((n.length : Int) > 2000)) then
 some (([] : List Timpl_Seg.V), false)
 else
 some (n, true)
theorem U106 (R : Type) (a : (List Timpl_Decl.V)) (b : (List Timpl_Seg.V)) (c : (List Timpl_Seg.V)) (K : AV → List Blk → Option R) : runF E106 Tryz.f80 R [dD (.sl Timpl_Decl) a, dD (.sl Timpl_Seg) b, dD (.sl Timpl_Seg) c] [] K = (impl_FlatJoin a b c).bind fun r => K (.cons (dD (.sl Timpl_Seg) r.1) (.cons (dB r.2) .nil)) [] := by
  simp only [impl_FlatJoin, bC, bI, bN, bE, bA, bS, bO, bM]
  simp (disch := refine sI ?_ <;> (repeat' refine sA ?_ ?_) <;> intro _ <;> kernel_rfl) only [jn_ok (T106_0 _ _ _) (K := finK E106 Tryz.f80 0 R K)]
  kernel_rfl
def c80 : Va.Callee := brC [.d (.sl Timpl_Decl), .d (.sl Timpl_Seg), .d (.sl Timpl_Seg)] [⟨[.dat [] (.sl Timpl_Decl), .dat [] (.sl Timpl_Seg), .dat [] (.sl Timpl_Seg)], [], ((List Timpl_Seg.V) × Bool), fun p => impl_FlatJoin p.1.1 p.1.2.1 p.1.2.2.1, fun r => (.cons (dD (.sl Timpl_Seg) r.1) (.cons (dB r.2) .nil), [])⟩]
theorem c80_snd : SoundC Tryz.prog 80 c80 := br_snd (fn := Tryz.f80) (by kernel_rfl) (by kernel_rfl) (by kernel_rfl) ⟨⟨E106, ⟨⟨tabok, fns_ok ⟨c39_snd, c125_snd, c126_snd, c128_snd, c129_snd, trivial⟩⟩, mixed⟩, fun p R K => U106 R p.1.1 p.1.2.1 p.1.2.2.1 K⟩, trivial⟩
abbrev E107 : Env := ⟨tab, lookH [(74, c74), (75, c75), (76, c76), (77, c77), (78, c78), (79, c79), (80, c80)], { deep := true, joins := [(24, { live := [4, 9, 11, 205] }), (29, { live := [4, 13, 15, 275] })], ents := [(24, [4, 9, 10, 11, 12]), (29, [4, 13, 14, 15, 16])], frz := [(0, Timpl_Claim), (1, (.int .i64))] }⟩
def S107_1 (a : ((List Timpl_Seg.V) × Bool)) (b : ((List Timpl_Seg.V) × Bool)) : St := sT 280 [(4, .ptr 0 0 [] 0), (13, dD (.sl Timpl_Seg) a.1), (14, dB a.2), (15, dD (.sl Timpl_Seg) b.1), (16, dB b.2)] [.box (.pr .zs (.pr .zs .u))]
def O107_1 (a : ((List Timpl_Seg.V) × Bool)) (b : ((List Timpl_Seg.V) × Bool)) (m0 : Bool) : Ex × St := (.normal, sT 280 [(4, .ptr 0 0 [] 0), (13, dD (.sl Timpl_Seg) a.1), (15, dD (.sl Timpl_Seg) b.1), (275, dB m0)] [.box (.pr .zs (.pr .zs .u))])
theorem T107_1 (a : ((List Timpl_Seg.V) × Bool)) (b : ((List Timpl_Seg.V) × Bool)) : jnS E107 0 29 (code Tryz.f38) [1, 1, 1, 1, 1, 1, 0, 0] (S107_1 a b) = some (O107_1 a b ((!a.2) || (!b.2))) := by
  have h0 : jnS E107 0 29 (code Tryz.f38) [1, 1, 1, 1, 1, 1, 0, 0] (S107_1 a b) =
 bif (!a.2) then
 some (O107_1 a b true)
 else
 some (O107_1 a b (!b.2)) := by kernel_rfl
  rw [h0]
  cases h1 : (!a.2)
  · first | rfl | kernel_rfl
  · first | rfl | kernel_rfl
def S107_0 (c : (Bool × (List Timpl_Seg.V))) (d : (Bool × (List Timpl_Seg.V))) : St := sT 280 [(4, .ptr 0 0 [] 0), (9, .ref 1), (10, dB c.1), (11, .ref 2), (12, dB d.1)] [.box (.pr .zs (.pr .zs .u)), .row 135 .deep Timpl_Seg c.2, .row 135 .deep Timpl_Seg d.2]
def O107_0 (c : (Bool × (List Timpl_Seg.V))) (d : (Bool × (List Timpl_Seg.V))) (m0 : Bool) : Ex × St := (.normal, sT 280 [(4, .ptr 0 0 [] 0), (9, .ref 1), (11, .ref 2), (205, dB m0)] [.box (.pr .zs (.pr .zs .u)), .row 135 .deep Timpl_Seg c.2, .row 135 .deep Timpl_Seg d.2])
theorem T107_0 (c : (Bool × (List Timpl_Seg.V))) (d : (Bool × (List Timpl_Seg.V))) : jnS E107 0 24 (code Tryz.f38) [1, 1, 1, 0, 1, 0, 1, 1, 1, 1, 1, 1, 1, 1, 1, 0, 1, 1, 0, 0] (S107_0 c d) = some (O107_0 c d ((!c.1) || (!d.1))) := by
  have h0 : jnS E107 0 24 (code Tryz.f38) [1, 1, 1, 0, 1, 0, 1, 1, 1, 1, 1, 1, 1, 1, 1, 0, 1, 1, 0, 0] (S107_0 c d) =
 bif (!c.1) then
 some (O107_0 c d true)
 else
 some (O107_0 c d (!d.1)) := by kernel_rfl
  rw [h0]
  cases h1 : (!c.1)
  · first | rfl | kernel_rfl
  · first | rfl | kernel_rfl
def impl_prover_claim (e : Timpl_prover.V) (g : Timpl_PStep.V) : Option (Timpl_Claim.V × Int) :=
 bif (!(impl_PStep_fits g)) then
 some ((([] : List Timpl_Seg.V), ([] : List Timpl_Seg.V), ()), 2)
 else
 (impl_prover_stepsOk e g).bind fun i =>
 bif (!i) then
 some ((([] : List Timpl_Seg.V), ([] : List Timpl_Seg.V), ()), 3)
 else
 bif (g.1 == 1) then
 (impl_prover_given e g.2.1).bind fun j =>
 if (0 : Int) ≤ j ∧ j < (e.2.2.1.length : Int) then
 some (((e.2.2.1.getD j.toNat (Ty.zero Timpl_Claim)).1, (e.2.2.1.getD j.toNat (Ty.zero Timpl_Claim)).2.1, ()), 0)
 else none
 else
 bif (g.1 == 2) then
 (impl_formOf e.1 g.2.2.2.2.2.1).bind fun k =>
 bif (!k.1) then
 some ((([] : List Timpl_Seg.V), ([] : List Timpl_Seg.V), ()), 4)
 else
 some ((k.2, k.2, ()), 0)
 else
 bif (g.1 == 3) then
 if (0 : Int) ≤ g.2.1 ∧ g.2.1 < (e.2.2.2.1.length : Int) then
 if (0 : Int) ≤ g.2.1 ∧ g.2.1 < (e.2.2.2.1.length : Int) then
 some (((e.2.2.2.1.getD g.2.1.toNat (Ty.zero Timpl_Claim)).2.1, (e.2.2.2.1.getD g.2.1.toNat (Ty.zero Timpl_Claim)).1, ()), 0)
 else none
 else none
 else
 bif (g.1 == 4) then
 if (0 : Int) ≤ g.2.1 ∧ g.2.1 < (e.2.2.2.1.length : Int) then
 if (0 : Int) ≤ g.2.2.1 ∧ g.2.2.1 < (e.2.2.2.1.length : Int) then
 (impl_sameFlat (e.2.2.2.1.getD g.2.1.toNat (Ty.zero Timpl_Claim)).2.1 (e.2.2.2.1.getD g.2.2.1.toNat (Ty.zero Timpl_Claim)).1).bind fun l =>
 bif (!l) then
 some ((([] : List Timpl_Seg.V), ([] : List Timpl_Seg.V), ()), 5)
 else
 if (0 : Int) ≤ g.2.1 ∧ g.2.1 < (e.2.2.2.1.length : Int) then
 if (0 : Int) ≤ g.2.2.1 ∧ g.2.2.1 < (e.2.2.2.1.length : Int) then
 some (((e.2.2.2.1.getD g.2.1.toNat (Ty.zero Timpl_Claim)).1, (e.2.2.2.1.getD g.2.2.1.toNat (Ty.zero Timpl_Claim)).2.1, ()), 0)
 else none
 else none
 else none
 else none
 else
 bif (g.1 == 5) then
 if (0 : Int) ≤ g.2.1 ∧ g.2.1 < (e.2.2.2.1.length : Int) then
 (impl_FlatPart e.1 (e.2.2.2.1.getD g.2.1.toNat (Ty.zero Timpl_Claim)).1 g.2.2.2.1 g.2.2.2.2.1).bind fun c =>
 if (0 : Int) ≤ g.2.1 ∧ g.2.1 < (e.2.2.2.1.length : Int) then
 (impl_FlatPart e.1 (e.2.2.2.1.getD g.2.1.toNat (Ty.zero Timpl_Claim)).2.1 g.2.2.2.1 g.2.2.2.2.1).bind fun d =>
 mkr (S107_0 c d) (
 bif ((!c.1) || (!d.1)) then
 some ((([] : List Timpl_Seg.V), ([] : List Timpl_Seg.V), ()), 6)
 else
 some ((c.2, d.2, ()), 0))
 else none
 else none
 else
 if (0 : Int) ≤ g.2.1 ∧ g.2.1 < (e.2.2.2.1.length : Int) then
 if (0 : Int) ≤ g.2.2.1 ∧ g.2.2.1 < (e.2.2.2.1.length : Int) then
 (impl_FlatJoin e.1 (e.2.2.2.1.getD g.2.1.toNat (Ty.zero Timpl_Claim)).1 (e.2.2.2.1.getD g.2.2.1.toNat (Ty.zero Timpl_Claim)).1).bind fun a =>
 if (0 : Int) ≤ g.2.1 ∧ g.2.1 < (e.2.2.2.1.length : Int) then
 if (0 : Int) ≤ g.2.2.1 ∧ g.2.2.1 < (e.2.2.2.1.length : Int) then
 (impl_FlatJoin e.1 (e.2.2.2.1.getD g.2.1.toNat (Ty.zero Timpl_Claim)).2.1 (e.2.2.2.1.getD g.2.2.1.toNat (Ty.zero Timpl_Claim)).2.1).bind fun b =>
 mkr (S107_1 a b) (
 bif ((!a.2) || (!b.2)) then
 some ((([] : List Timpl_Seg.V), ([] : List Timpl_Seg.V), ()), 6)
 else
 some ((a.1, b.1, ()), 0))
 else none
 else none
 else none
 else none
theorem U107 (R : Type) (e : Timpl_prover.V) (g : Timpl_PStep.V) (K : AV → List Blk → Option R) : runF E107 Tryz.f38 R [.rop [] Timpl_prover e, .rop [] Timpl_PStep g] [] K = (impl_prover_claim e g).bind fun r => K (.cons (dD Timpl_Claim r.1) (.cons (dI r.2) .nil)) [] := by
  simp only [impl_prover_claim, bC, bI, bN, bE, bA, bS, bO, bM]
  simp (disch := refine sI ?_ <;> (repeat' refine sA ?_ ?_) <;> intro _ <;> kernel_rfl) only [in_ok (T107_0 _ _) (K := finK E107 Tryz.f38 0 R K), in_ok (T107_1 _ _) (K := finK E107 Tryz.f38 0 R K)]
  kernel_rfl
def c38 : Va.Callee := brC [.p Timpl_prover, .p Timpl_PStep] [⟨[.rop [] Timpl_prover, .rop [] Timpl_PStep], [], (Timpl_Claim.V × Int), fun p => impl_prover_claim p.1.1 p.1.2.1, fun r => (.cons (dD Timpl_Claim r.1) (.cons (dI r.2) .nil), [])⟩]
theorem c38_snd : SoundC Tryz.prog 38 c38 := br_snd (fn := Tryz.f38) (by kernel_rfl) (by kernel_rfl) (by kernel_rfl) ⟨⟨E107, ⟨⟨tabok, fns_ok ⟨c74_snd, c75_snd, c76_snd, c77_snd, c78_snd, c79_snd, c80_snd, trivial⟩⟩, mixed⟩, fun p R K => U107 R p.1.1 p.1.2.1 K⟩, trivial⟩
abbrev E108 : Env := ⟨tab, lookH [(36, c36), (37, c37), (38, c38), (39, c39)], { deep := true, heads := [(6, { live := [2, 9, 33, 34], pre := [(9, true, .row [3] 71 Timpl_Claim true)] })], outs := [(6, { live := [6, 7, 8, 9] })], joins := [(2, { live := [0, 1, 2, 21] })], draws := [(11, { live := [2, 9, 33, 34] })], ents := [(2, [0, 1, 2])], dents := [(11, [2, 9, 11, 33, 34])], res := [(0, .row [] 71 Timpl_Claim true)] }⟩
def S108_3 (a : (List Timpl_PStep.V)) (b : (List Timpl_Decl.V)) (c : (List Timpl_Literal.V)) (d : Int) (e : (List Timpl_Claim.V)) (z_ : (Int × (List Timpl_Claim.V))) : St := sT 63 [(2, dD (.sl Timpl_PStep) a), (9, .ptr 0 0 [] 0), (33, dI d), (34, dI z_.1)] [.box (.pr (dD (.sl Timpl_Decl) b) (.pr (dD (.sl Timpl_Literal) c) (.pr (.ref 1) (.pr (.ref 2) .u)))), .row 126 .deep Timpl_Claim e, .row 71 .deep Timpl_Claim z_.2]
def O108_3 (a : (List Timpl_PStep.V)) (b : (List Timpl_Decl.V)) (c : (List Timpl_Literal.V)) (d : Int) (e : (List Timpl_Claim.V)) : ((Int × Int × (List Timpl_Claim.V)) ⊕ (List Timpl_Claim.V)) → Ex × St := Sum.elim (fun g => (.ret, sT 63 [(6, .zs), (7, dI g.1), (8, dI g.2.1), (9, .ptr 0 0 [] 0)] [.box (.pr (dD (.sl Timpl_Decl) b) (.pr (dD (.sl Timpl_Literal) c) (.pr (.ref 1) (.pr (.ref 2) .u)))), .row 126 .deep Timpl_Claim e, .row 71 .deep Timpl_Claim g.2.2])) (fun i => ((.exit 0), sT 63 [(9, .ptr 0 0 [] 0)] [.box (.pr (dD (.sl Timpl_Decl) b) (.pr (dD (.sl Timpl_Literal) c) (.pr (.ref 1) (.pr (.ref 2) .u)))), .row 126 .deep Timpl_Claim e, .row 71 .deep Timpl_Claim i]))
def S108_2 (a : (List Timpl_PStep.V)) (d : Int) (j : Int) (b : (List Timpl_Decl.V)) (c : (List Timpl_Literal.V)) (e : (List Timpl_Claim.V)) (k : (List Timpl_Claim.V)) (l : Timpl_Claim.V) : St := sT 63 [(2, dD (.sl Timpl_PStep) a), (9, .ptr 0 0 [] 0), (11, .ptr 1 0 [] 0), (33, dI d), (34, dI j)] [.box (.pr (dD (.sl Timpl_Decl) b) (.pr (dD (.sl Timpl_Literal) c) (.pr (.ref 2) (.pr (.ref 3) .u)))), .box (.dat [0, 2, 3] Timpl_Claim l), .row 126 .deep Timpl_Claim e, .row 71 .deep Timpl_Claim k]
def O108_2 (a : (List Timpl_PStep.V)) (d : Int) (j : Int) (b : (List Timpl_Decl.V)) (c : (List Timpl_Literal.V)) (e : (List Timpl_Claim.V)) (k : (List Timpl_Claim.V)) (l : Timpl_Claim.V) : (List Timpl_Claim.V) → St := fun n => sT 63 [(2, dD (.sl Timpl_PStep) a), (9, .ptr 0 0 [] 0), (33, dI d), (34, dI j)] [.box (.pr (dD (.sl Timpl_Decl) b) (.pr (dD (.sl Timpl_Literal) c) (.pr (.ref 1) (.pr (.ref 2) .u)))), .row 126 .deep Timpl_Claim e, .row 71 .deep Timpl_Claim n]
def impl_Conclude_l2 (a : (List Timpl_PStep.V)) (d : Int) (j : Int) (b : (List Timpl_Decl.V)) (c : (List Timpl_Literal.V)) (e : (List Timpl_Claim.V)) (k : (List Timpl_Claim.V)) (l : Timpl_Claim.V) : Option (List Timpl_Claim.V) :=
 (impl_cloneFlat l.1).bind fun o =>
 (impl_cloneFlat l.2.1).bind fun q =>
 if (k.length + ([(o, q, ())] : List Timpl_Claim.V).length) * 48 ≤ 140737488355328 then
 some (k ++ ([(o, q, ())] : List Timpl_Claim.V))
 else none
theorem T108_2 (a : (List Timpl_PStep.V)) (d : Int) (j : Int) (b : (List Timpl_Decl.V)) (c : (List Timpl_Literal.V)) (e : (List Timpl_Claim.V)) (k : (List Timpl_Claim.V)) (l : Timpl_Claim.V) : DrOk E108 0 11 (sub (code Tryz.f12) [1, 1, 1, 1, 0, 1, 0, 0]) [1, 1, 0, 0, 1, 1, 1] (S108_2 a d j b c e k l) (impl_Conclude_l2 a d j b c e k l) (O108_2 a d j b c e k l) := by
  unfold DrOk
  have h : drS E108 0 11 (sub (code Tryz.f12) [1, 1, 1, 1, 0, 1, 0, 0]) [1, 1, 0, 0, 1, 1, 1] (S108_2 a d j b c e k l) =
 (impl_cloneFlat l.1).bind fun o =>
 (impl_cloneFlat l.2.1).bind fun q =>
 if (k.length + ([(o, q, ())] : List Timpl_Claim.V).length) * 48 ≤ 140737488355328 then
 ((((((impl_cloneFlat l.1).bind fun s =>
(impl_cloneFlat l.2.1).bind fun t =>
 if (k.length + ([(s, t, ())] : List Timpl_Claim.V).length) * 48 ≤ 140737488355328 then
 eqSt (O108_2 a d j b c e k l (k ++ ([(s, t, ())] : List Timpl_Claim.V))) (O108_2 a d j b c e k l (k ++ ([(o, q, ())] : List Timpl_Claim.V)))
 else none).bind fun _ =>
 (impl_cloneFlat l.1).bind fun u =>
(impl_cloneFlat l.2.1).bind fun v =>
 if (k.length + ([(u, v, ())] : List Timpl_Claim.V).length) * 48 ≤ 140737488355328 then
 eqSt (O108_2 a d j b c e k l (k ++ ([(u, v, ())] : List Timpl_Claim.V))) (O108_2 a d j b c e k l (k ++ ([(o, q, ())] : List Timpl_Claim.V)))
 else none).bind fun _ =>
 (impl_cloneFlat l.1).bind fun w =>
(impl_cloneFlat l.2.1).bind fun x =>
 if (k.length + ([(w, x, ())] : List Timpl_Claim.V).length) * 48 ≤ 140737488355328 then
 eqSt (O108_2 a d j b c e k l (k ++ ([(w, x, ())] : List Timpl_Claim.V))) (O108_2 a d j b c e k l (k ++ ([(o, q, ())] : List Timpl_Claim.V)))
 else none).bind fun _ =>
  ((((impl_cloneFlat l.1).bind fun y =>
(impl_cloneFlat l.2.1).bind fun a1 =>
 if (k.length + ([(y, a1, ())] : List Timpl_Claim.V).length) * 48 ≤ 140737488355328 then
 eqSt (O108_2 a d j b c e k l (k ++ ([(y, a1, ())] : List Timpl_Claim.V))) (O108_2 a d j b c e k l (k ++ ([(o, q, ())] : List Timpl_Claim.V)))
 else none).bind fun _ =>
 (impl_cloneFlat l.1).bind fun b1 =>
(impl_cloneFlat l.2.1).bind fun c1 =>
 if (k.length + ([(b1, c1, ())] : List Timpl_Claim.V).length) * 48 ≤ 140737488355328 then
 eqSt (O108_2 a d j b c e k l (k ++ ([(b1, c1, ())] : List Timpl_Claim.V))) (O108_2 a d j b c e k l (k ++ ([(o, q, ())] : List Timpl_Claim.V)))
 else none).bind fun _ =>
  ((impl_cloneFlat l.1).bind fun d1 =>
 ((impl_cloneFlat l.2.1).bind fun e1 =>
 if (k.length + ([(d1, e1, ())] : List Timpl_Claim.V).length) * 48 ≤ 140737488355328 then
 eqSt (O108_2 a d j b c e k l (k ++ ([(d1, e1, ())] : List Timpl_Claim.V))) (O108_2 a d j b c e k l (k ++ ([(o, q, ())] : List Timpl_Claim.V)))
 else none).bind fun _ =>
 ((impl_cloneFlat l.2.1).bind fun g1 =>
 if (k.length + ([(d1, g1, ())] : List Timpl_Claim.V).length) * 48 ≤ 140737488355328 then
 eqSt (O108_2 a d j b c e k l (k ++ ([(d1, g1, ())] : List Timpl_Claim.V))) (O108_2 a d j b c e k l (k ++ ([(o, q, ())] : List Timpl_Claim.V)))
 else none).bind fun _ =>
 (impl_cloneFlat l.2.1).bind fun i1 =>
 (if (k.length + ([(d1, i1, ())] : List Timpl_Claim.V).length) * 48 ≤ 140737488355328 then
 eqSt (O108_2 a d j b c e k l (k ++ ([(d1, i1, ())] : List Timpl_Claim.V))) (O108_2 a d j b c e k l (k ++ ([(o, q, ())] : List Timpl_Claim.V)))
 else none).bind fun _ =>
 (if (k.length + ([(d1, i1, ())] : List Timpl_Claim.V).length) * 48 ≤ 140737488355328 then
 eqSt (O108_2 a d j b c e k l (k ++ ([(d1, i1, ())] : List Timpl_Claim.V))) (O108_2 a d j b c e k l (k ++ ([(o, q, ())] : List Timpl_Claim.V)))
 else none).bind fun _ =>
 if (k.length + ([(d1, i1, ())] : List Timpl_Claim.V).length) * 48 ≤ 140737488355328 then
 eqSt (O108_2 a d j b c e k l (k ++ ([(d1, i1, ())] : List Timpl_Claim.V))) (O108_2 a d j b c e k l (k ++ ([(o, q, ())] : List Timpl_Claim.V)))
 else none).bind fun _ =>
 ((impl_cloneFlat l.1).bind fun j1 =>
(impl_cloneFlat l.2.1).bind fun k1 =>
 if (k.length + ([(j1, k1, ())] : List Timpl_Claim.V).length) * 48 ≤ 140737488355328 then
 eqSt (O108_2 a d j b c e k l (k ++ ([(j1, k1, ())] : List Timpl_Claim.V))) (O108_2 a d j b c e k l (k ++ ([(o, q, ())] : List Timpl_Claim.V)))
 else none).bind fun _ =>
 (impl_cloneFlat l.1).bind fun l1 =>
 ((impl_cloneFlat l.2.1).bind fun n1 =>
 if (k.length + ([(l1, n1, ())] : List Timpl_Claim.V).length) * 48 ≤ 140737488355328 then
 eqSt (O108_2 a d j b c e k l (k ++ ([(l1, n1, ())] : List Timpl_Claim.V))) (O108_2 a d j b c e k l (k ++ ([(o, q, ())] : List Timpl_Claim.V)))
 else none).bind fun _ =>
 (impl_cloneFlat l.2.1).bind fun o1 =>
 (if (k.length + ([(l1, o1, ())] : List Timpl_Claim.V).length) * 48 ≤ 140737488355328 then
 eqSt (O108_2 a d j b c e k l (k ++ ([(l1, o1, ())] : List Timpl_Claim.V))) (O108_2 a d j b c e k l (k ++ ([(o, q, ())] : List Timpl_Claim.V)))
 else none).bind fun _ =>
 (if (k.length + ([(l1, o1, ())] : List Timpl_Claim.V).length) * 48 ≤ 140737488355328 then
 eqSt (O108_2 a d j b c e k l (k ++ ([(l1, o1, ())] : List Timpl_Claim.V))) (O108_2 a d j b c e k l (k ++ ([(o, q, ())] : List Timpl_Claim.V)))
 else none).bind fun _ =>
 if (k.length + ([(l1, o1, ())] : List Timpl_Claim.V).length) * 48 ≤ 140737488355328 then
 eqSt (O108_2 a d j b c e k l (k ++ ([(l1, o1, ())] : List Timpl_Claim.V))) (O108_2 a d j b c e k l (k ++ ([(o, q, ())] : List Timpl_Claim.V)))
 else none).bind fun _ =>
 ((impl_cloneFlat l.1).bind fun q1 =>
(impl_cloneFlat l.2.1).bind fun s1 =>
 if (k.length + ([(q1, s1, ())] : List Timpl_Claim.V).length) * 48 ≤ 140737488355328 then
 eqSt (O108_2 a d j b c e k l (k ++ ([(q1, s1, ())] : List Timpl_Claim.V))) (O108_2 a d j b c e k l (k ++ ([(o, q, ())] : List Timpl_Claim.V)))
 else none).bind fun _ =>
 ((impl_cloneFlat l.1).bind fun t1 =>
(impl_cloneFlat l.2.1).bind fun u1 =>
 if (k.length + ([(t1, u1, ())] : List Timpl_Claim.V).length) * 48 ≤ 140737488355328 then
 eqSt (O108_2 a d j b c e k l (k ++ ([(t1, u1, ())] : List Timpl_Claim.V))) (O108_2 a d j b c e k l (k ++ ([(o, q, ())] : List Timpl_Claim.V)))
 else none).bind fun _ =>
 (impl_cloneFlat l.1).bind fun v1 =>
 ((impl_cloneFlat l.2.1).bind fun w1 =>
 if (k.length + ([(v1, w1, ())] : List Timpl_Claim.V).length) * 48 ≤ 140737488355328 then
 eqSt (O108_2 a d j b c e k l (k ++ ([(v1, w1, ())] : List Timpl_Claim.V))) (O108_2 a d j b c e k l (k ++ ([(o, q, ())] : List Timpl_Claim.V)))
 else none).bind fun _ =>
 (impl_cloneFlat l.2.1).bind fun x1 =>
 (if (k.length + ([(v1, x1, ())] : List Timpl_Claim.V).length) * 48 ≤ 140737488355328 then
 eqSt (O108_2 a d j b c e k l (k ++ ([(v1, x1, ())] : List Timpl_Claim.V))) (O108_2 a d j b c e k l (k ++ ([(o, q, ())] : List Timpl_Claim.V)))
 else none).bind fun _ =>
 (if (k.length + ([(v1, x1, ())] : List Timpl_Claim.V).length) * 48 ≤ 140737488355328 then
 eqSt (O108_2 a d j b c e k l (k ++ ([(v1, x1, ())] : List Timpl_Claim.V))) (O108_2 a d j b c e k l (k ++ ([(o, q, ())] : List Timpl_Claim.V)))
 else none).bind fun _ =>
 if (k.length + ([(v1, x1, ())] : List Timpl_Claim.V).length) * 48 ≤ 140737488355328 then
 eqSt (O108_2 a d j b c e k l (k ++ ([(v1, x1, ())] : List Timpl_Claim.V))) (O108_2 a d j b c e k l (k ++ ([(o, q, ())] : List Timpl_Claim.V)))
 else none).bind fun _ => some (O108_2 a d j b c e k l (k ++ ([(o, q, ())] : List Timpl_Claim.V))))
 else none := by kernel_rfl
  rw [h]
  unfold impl_Conclude_l2
  simp only [mC, mI, mN, mB, mE, mM, mS, mO]
  clear h
  cases hc0 : impl_cloneFlat l.1 with
  | none => rfl
  | some o =>
    simp only [Option.bind_some]
    cases hc1 : impl_cloneFlat l.2.1 with
    | none => rfl
    | some q =>
      simp only [Option.bind_some]
      by_cases hc2 : (k.length + ([(o, q, ())] : List Timpl_Claim.V).length) * 48 ≤ 140737488355328
      · rw [if_pos hc2, if_pos hc2]
        simp only [hc0, hc1, if_pos hc2, Option.bind_some, eqSt_self]
      · simp only [hc0, hc1, if_neg hc2]
def impl_Conclude_l3_g (a : (List Timpl_PStep.V)) (b : (List Timpl_Decl.V)) (c : (List Timpl_Literal.V)) (d : Int) (e : (List Timpl_Claim.V)) (j : Int) (k : (List Timpl_Claim.V)) : Option ((Int × (List Timpl_Claim.V)) ⊕ ((Int × Int × (List Timpl_Claim.V)) ⊕ (List Timpl_Claim.V))) :=
 bif (decide (j < d)) then
 if (0 : Int) ≤ j ∧ j < (a.length : Int) then
 (impl_prover_claim (b, c, e, k, ()) (a.getD j.toNat (Ty.zero Timpl_PStep))).bind fun y1 =>
 bif (y1.2 != 0) then
 some (.inr (.inl (y1.2, j, k)))
 else
 (impl_Conclude_l2 a d j b c e k y1.1).bind fun n =>
 some (.inl ((IntKind.i64.wrap (j + 1)), n))
 else none
 else
 some (.inr (.inr k))
def impl_Conclude_l3_r (a : (List Timpl_PStep.V)) (b : (List Timpl_Decl.V)) (c : (List Timpl_Literal.V)) (d : Int) (e : (List Timpl_Claim.V)) (z_ : (Int × (List Timpl_Claim.V))) := impl_Conclude_l3_g a b c d e z_.1 z_.2
def impl_Conclude_l3 (a : (List Timpl_PStep.V)) (b : (List Timpl_Decl.V)) (c : (List Timpl_Literal.V)) (d : Int) (e : (List Timpl_Claim.V)) (j : Int) (k : (List Timpl_Claim.V)) := fix (impl_Conclude_l3_r a b c d e) (j, k)
theorem T108_3 (a : (List Timpl_PStep.V)) (b : (List Timpl_Decl.V)) (c : (List Timpl_Literal.V)) (d : Int) (e : (List Timpl_Claim.V)) : LpOk E108 0 6 (code Tryz.f12) [1, 1, 1, 1, 0, 1, 0] (S108_3 a b c d e) (impl_Conclude_l3_r a b c d e) (O108_3 a b c d e) := by
  intro _
  simp only [impl_Conclude_l3_r, impl_Conclude_l3_g, mC, mI, mN, mB, mE, mM]
  simp (disch := refine sI ?_ <;> (repeat' refine sA ?_ ?_) <;> intro _ <;> kernel_rfl) only [dr_ok (T108_2 _ _ _ _ _ _ _ _) (K := stepK 0 (E108.hd 6) (E108.ot 6))]
  kernel_rfl
def S108_0 (b : (List Timpl_Decl.V)) (c : (List Timpl_Literal.V)) (a : (List Timpl_PStep.V)) : St := sT 63 [(0, dD (.sl Timpl_Decl) b), (1, dD (.sl Timpl_Literal) c), (2, dD (.sl Timpl_PStep) a)] []
def O108_0 (b : (List Timpl_Decl.V)) (c : (List Timpl_Literal.V)) (a : (List Timpl_PStep.V)) : Bool → Ex × St := fun a2 => (.normal, sT 63 [(0, dD (.sl Timpl_Decl) b), (1, dD (.sl Timpl_Literal) c), (2, dD (.sl Timpl_PStep) a), (21, dB a2)] [])
def impl_Conclude_l0 (b : (List Timpl_Decl.V)) (c : (List Timpl_Literal.V)) (a : (List Timpl_PStep.V)) : Option Bool :=
 (impl_flatLiterals b c).bind fun b2 =>
 bif (!b2) then
 some true
 else
 some (decide ((a.length : Int) > 200))
theorem T108_0 (b : (List Timpl_Decl.V)) (c : (List Timpl_Literal.V)) (a : (List Timpl_PStep.V)) : JnOk E108 0 2 (code Tryz.f12) [1, 0, 0] (S108_0 b c a) (impl_Conclude_l0 b c a) (O108_0 b c a) := by
  unfold JnOk
  simp only [impl_Conclude_l0, mC, mI, mN, mB, mE, mM]
  kernel_rfl
def impl_Conclude (b : (List Timpl_Decl.V)) (c : (List Timpl_Literal.V)) (a : (List Timpl_PStep.V)) : Option (Int × Int × (List Timpl_Claim.V)) :=
 (impl_Conclude_l0 b c a).bind fun a2 =>
 bif a2 then
 some (1, (-1), ([] : List Timpl_Claim.V))
 else
 (impl_sides b c).bind fun c2 =>
 (impl_Conclude_l3 a b c (a.length : Int) c2.2 0 ([] : List Timpl_Claim.V)).bind (Sum.elim (fun g =>
 some (g.1, g.2.1, ([] : List Timpl_Claim.V))) (fun i =>
 some (0, (-1), i)))
theorem U108 (R : Type) (b : (List Timpl_Decl.V)) (c : (List Timpl_Literal.V)) (a : (List Timpl_PStep.V)) (K : AV → List Blk → Option R) : runF E108 Tryz.f12 R [dD (.sl Timpl_Decl) b, dD (.sl Timpl_Literal) c, dD (.sl Timpl_PStep) a] [] K = (impl_Conclude b c a).bind fun r => K (.cons (.ref 0) (.cons (dI r.1) (.cons (dI r.2.1) .nil))) [.row 71 .deep Timpl_Claim r.2.2] := by
  simp only [impl_Conclude, bC, bI, bN, bE, bA, bS, bO, bM]
  simp (disch := refine sI ?_ <;> (repeat' refine sA ?_ ?_) <;> intro _ <;> kernel_rfl) only [jn_ok (T108_0 _ _ _) (K := finK E108 Tryz.f12 0 R K), impl_Conclude_l3, lp_ok (T108_3 _ _ _ _ _) (K := finK E108 Tryz.f12 0 R K)]
  kernel_rfl
def c12 : Va.Callee := brC [.d (.sl Timpl_Decl), .d (.sl Timpl_Literal), .d (.sl Timpl_PStep)] [⟨[.dat [] (.sl Timpl_Decl), .dat [] (.sl Timpl_Literal), .dat [] (.sl Timpl_PStep)], [], (Int × Int × (List Timpl_Claim.V)), fun p => impl_Conclude p.1.1 p.1.2.1 p.1.2.2.1, fun r => (.cons (.ref 0) (.cons (dI r.1) (.cons (dI r.2.1) .nil)), [.row 71 .deep Timpl_Claim r.2.2])⟩]
theorem c12_snd : SoundC Tryz.prog 12 c12 := br_snd (fn := Tryz.f12) (by kernel_rfl) (by kernel_rfl) (by kernel_rfl) ⟨⟨E108, ⟨⟨tabok, fns_ok ⟨c36_snd, c37_snd, c38_snd, c39_snd, trivial⟩⟩, mixed⟩, fun p R K => U108 R p.1.1 p.1.2.1 p.1.2.2.1 K⟩, trivial⟩
abbrev E109 : Env := ⟨tab, lookH [], { deep := true, heads := [(4, { live := [0, 1, 5] })], outs := [(4, { live := [4] })] }⟩
def S109_0 (a : (List Int)) (b : (List Int)) (z_ : Int) : St := sT 26 [(0, dD (.sl (.int .u64)) a), (1, dD (.sl (.int .u64)) b), (5, dI z_)] []
def O109_0 (a : (List Int)) (b : (List Int)) : (Unit ⊕ Unit) → Ex × St := Sum.elim (fun c => (.ret, sT 26 [(4, dB false)] [])) (fun d => ((.exit 0), sT 26 [] []))
def laws_eqUint64S_l0_g (a : (List Int)) (b : (List Int)) (e : Int) : Option (Int ⊕ (Unit ⊕ Unit)) :=
 bif (decide (e < (a.length : Int))) then
 if (0 : Int) ≤ e ∧ e < (a.length : Int) then
 if (0 : Int) ≤ e ∧ e < (b.length : Int) then
 bif ((a.getD e.toNat (Ty.zero (.int .u64))) != (b.getD e.toNat (Ty.zero (.int .u64)))) then
 some (.inr (.inl ()))
 else
 some (.inl (IntKind.i64.wrap (e + 1)))
 else none
 else none
 else
 some (.inr (.inr ()))
def laws_eqUint64S_l0_r (a : (List Int)) (b : (List Int)) (z_ : Int) := laws_eqUint64S_l0_g a b z_
def laws_eqUint64S_l0 (a : (List Int)) (b : (List Int)) (e : Int) := fix (laws_eqUint64S_l0_r a b) e
theorem T109_0 (a : (List Int)) (b : (List Int)) : LpOk E109 0 4 (code Tryz.f149) [1, 1, 0, 1, 0] (S109_0 a b) (laws_eqUint64S_l0_r a b) (O109_0 a b) := by
  intro _
  simp only [laws_eqUint64S_l0_r, laws_eqUint64S_l0_g, mC, mI, mN, mB, mE, mM]
  kernel_rfl
def laws_eqUint64S (a : (List Int)) (b : (List Int)) : Option Bool :=
 bif ((a.length : Int) != (b.length : Int)) then
 some false
 else
 (laws_eqUint64S_l0 a b 0).bind (Sum.elim (fun c =>
 some false) (fun d =>
 some true))
theorem U109 (R : Type) (a : (List Int)) (b : (List Int)) (K : AV → List Blk → Option R) : runF E109 Tryz.f149 R [dD (.sl (.int .u64)) a, dD (.sl (.int .u64)) b] [] K = (laws_eqUint64S a b).bind fun r => K (dB r) [] := by
  simp only [laws_eqUint64S, bC, bI, bN, bE, bA, bS, bO, bM]
  simp (disch := refine sI ?_ <;> (repeat' refine sA ?_ ?_) <;> intro _ <;> kernel_rfl) only [laws_eqUint64S_l0, lp_ok (T109_0 _ _) (K := finK E109 Tryz.f149 0 R K)]
  kernel_rfl
def c149 : Va.Callee := brC [.d (.sl (.int .u64)), .d (.sl (.int .u64))] [⟨[.dat [] (.sl (.int .u64)), .dat [] (.sl (.int .u64))], [], Bool, fun p => laws_eqUint64S p.1.1 p.1.2.1, fun r => (dB r, [])⟩]
theorem c149_snd : SoundC Tryz.prog 149 c149 := br_snd (fn := Tryz.f149) (by kernel_rfl) (by kernel_rfl) (by kernel_rfl) ⟨⟨E109, ⟨⟨tabok, fns_ok trivial⟩, mixed⟩, fun p R K => U109 R p.1.1 p.1.2.1 K⟩, trivial⟩
abbrev E110 : Env := ⟨tab, lookH [(149, c149)], { deep := true }⟩
def laws_eqBits (a : Timpl_Bits.V) (b : Timpl_Bits.V) : Option Bool :=
 bif (a.1 != b.1) then
 some false
 else
 (laws_eqUint64S a.2.1 b.2.1).bind fun c =>
 bif (!c) then
 some false
 else
 some true
theorem U110 (R : Type) (a : Timpl_Bits.V) (b : Timpl_Bits.V) (K : AV → List Blk → Option R) : runF E110 Tryz.f107 R [dD Timpl_Bits a, dD Timpl_Bits b] [] K = (laws_eqBits a b).bind fun r => K (dB r) [] := by
  simp only [laws_eqBits, bC, bI, bN, bE, bA, bS, bO, bM]
  kernel_rfl
def c107 : Va.Callee := brC [.d Timpl_Bits, .d Timpl_Bits] [⟨[.dat [] Timpl_Bits, .dat [] Timpl_Bits], [], Bool, fun p => laws_eqBits p.1.1 p.1.2.1, fun r => (dB r, [])⟩]
theorem c107_snd : SoundC Tryz.prog 107 c107 := br_snd (fn := Tryz.f107) (by kernel_rfl) (by kernel_rfl) (by kernel_rfl) ⟨⟨E110, ⟨⟨tabok, fns_ok ⟨c149_snd, trivial⟩⟩, mixed⟩, fun p R K => U110 R p.1.1 p.1.2.1 K⟩, trivial⟩
abbrev E111 : Env := ⟨tab, lookH [(107, c107)], { deep := true }⟩
def laws_eqSeg (a : Timpl_Seg.V) (b : Timpl_Seg.V) : Option Bool :=
 bif (a.1 != b.1) then
 some false
 else
 bif (a.2.1 != b.2.1) then
 some false
 else
 bif (a.2.2.1 != b.2.2.1) then
 some false
 else
 (laws_eqBits a.2.2.2.1 b.2.2.2.1).bind fun c =>
 bif (!c) then
 some false
 else
 some true
theorem U111 (R : Type) (a : Timpl_Seg.V) (b : Timpl_Seg.V) (K : AV → List Blk → Option R) : runF E111 Tryz.f131 R [dD Timpl_Seg a, dD Timpl_Seg b] [] K = (laws_eqSeg a b).bind fun r => K (dB r) [] := by
  simp only [laws_eqSeg, bC, bI, bN, bE, bA, bS, bO, bM]
  kernel_rfl
def c131 : Va.Callee := brC [.d Timpl_Seg, .d Timpl_Seg] [⟨[.dat [] Timpl_Seg, .dat [] Timpl_Seg], [], Bool, fun p => laws_eqSeg p.1.1 p.1.2.1, fun r => (dB r, [])⟩]
theorem c131_snd : SoundC Tryz.prog 131 c131 := br_snd (fn := Tryz.f131) (by kernel_rfl) (by kernel_rfl) (by kernel_rfl) ⟨⟨E111, ⟨⟨tabok, fns_ok ⟨c107_snd, trivial⟩⟩, mixed⟩, fun p R K => U111 R p.1.1 p.1.2.1 K⟩, trivial⟩
abbrev E112 : Env := ⟨tab, lookH [(131, c131)], { deep := true, heads := [(4, { live := [0, 1, 5] })], outs := [(4, { live := [4] })] }⟩
def S112_0 (a : (List Timpl_Seg.V)) (b : (List Timpl_Seg.V)) (z_ : Int) : St := sT 27 [(0, dD (.sl Timpl_Seg) a), (1, dD (.sl Timpl_Seg) b), (5, dI z_)] []
def O112_0 (a : (List Timpl_Seg.V)) (b : (List Timpl_Seg.V)) : (Unit ⊕ Unit) → Ex × St := Sum.elim (fun c => (.ret, sT 27 [(4, dB false)] [])) (fun d => ((.exit 0), sT 27 [] []))
def laws_eqSegS_l0_g (a : (List Timpl_Seg.V)) (b : (List Timpl_Seg.V)) (e : Int) : Option (Int ⊕ (Unit ⊕ Unit)) :=
 bif (decide (e < (a.length : Int))) then
 if (0 : Int) ≤ e ∧ e < (a.length : Int) then
 if (0 : Int) ≤ e ∧ e < (b.length : Int) then
 (laws_eqSeg (a.getD e.toNat (Ty.zero Timpl_Seg)) (b.getD e.toNat (Ty.zero Timpl_Seg))).bind fun g =>
 bif (!g) then
 some (.inr (.inl ()))
 else
 some (.inl (IntKind.i64.wrap (e + 1)))
 else none
 else none
 else
 some (.inr (.inr ()))
def laws_eqSegS_l0_r (a : (List Timpl_Seg.V)) (b : (List Timpl_Seg.V)) (z_ : Int) := laws_eqSegS_l0_g a b z_
def laws_eqSegS_l0 (a : (List Timpl_Seg.V)) (b : (List Timpl_Seg.V)) (e : Int) := fix (laws_eqSegS_l0_r a b) e
theorem T112_0 (a : (List Timpl_Seg.V)) (b : (List Timpl_Seg.V)) : LpOk E112 0 4 (code Tryz.f82) [1, 1, 0, 1, 0] (S112_0 a b) (laws_eqSegS_l0_r a b) (O112_0 a b) := by
  intro _
  simp only [laws_eqSegS_l0_r, laws_eqSegS_l0_g, mC, mI, mN, mB, mE, mM]
  kernel_rfl
def laws_eqSegS (a : (List Timpl_Seg.V)) (b : (List Timpl_Seg.V)) : Option Bool :=
 bif ((a.length : Int) != (b.length : Int)) then
 some false
 else
 (laws_eqSegS_l0 a b 0).bind (Sum.elim (fun c =>
 some false) (fun d =>
 some true))
theorem U112 (R : Type) (a : (List Timpl_Seg.V)) (b : (List Timpl_Seg.V)) (K : AV → List Blk → Option R) : runF E112 Tryz.f82 R [dD (.sl Timpl_Seg) a, dD (.sl Timpl_Seg) b] [] K = (laws_eqSegS a b).bind fun r => K (dB r) [] := by
  simp only [laws_eqSegS, bC, bI, bN, bE, bA, bS, bO, bM]
  simp (disch := refine sI ?_ <;> (repeat' refine sA ?_ ?_) <;> intro _ <;> kernel_rfl) only [laws_eqSegS_l0, lp_ok (T112_0 _ _) (K := finK E112 Tryz.f82 0 R K)]
  kernel_rfl
def c82 : Va.Callee := brC [.d (.sl Timpl_Seg), .d (.sl Timpl_Seg)] [⟨[.dat [] (.sl Timpl_Seg), .dat [] (.sl Timpl_Seg)], [], Bool, fun p => laws_eqSegS p.1.1 p.1.2.1, fun r => (dB r, [])⟩]
theorem c82_snd : SoundC Tryz.prog 82 c82 := br_snd (fn := Tryz.f82) (by kernel_rfl) (by kernel_rfl) (by kernel_rfl) ⟨⟨E112, ⟨⟨tabok, fns_ok ⟨c131_snd, trivial⟩⟩, mixed⟩, fun p R K => U112 R p.1.1 p.1.2.1 K⟩, trivial⟩
end
end Go.Proofs.X
namespace Go.Proofs.X
open Go Go.Va
set_option maxRecDepth 100000
noncomputable section
abbrev E113 : Env := ⟨tab, lookH [(82, c82)], { deep := true }⟩
def laws_eqClaim (a : Timpl_Claim.V) (b : Timpl_Claim.V) : Option Bool :=
 (laws_eqSegS a.1 b.1).bind fun c =>
 bif (!c) then
 some false
 else
 (laws_eqSegS a.2.1 b.2.1).bind fun d =>
 bif (!d) then
 some false
 else
 some true
theorem U113 (R : Type) (a : Timpl_Claim.V) (b : Timpl_Claim.V) (K : AV → List Blk → Option R) : runF E113 Tryz.f40 R [dD Timpl_Claim a, dD Timpl_Claim b] [] K = (laws_eqClaim a b).bind fun r => K (dB r) [] := by
  simp only [laws_eqClaim, bC, bI, bN, bE, bA, bS, bO, bM]
  kernel_rfl
def c40 : Va.Callee := brC [.d Timpl_Claim, .d Timpl_Claim] [⟨[.dat [] Timpl_Claim, .dat [] Timpl_Claim], [], Bool, fun p => laws_eqClaim p.1.1 p.1.2.1, fun r => (dB r, [])⟩]
theorem c40_snd : SoundC Tryz.prog 40 c40 := br_snd (fn := Tryz.f40) (by kernel_rfl) (by kernel_rfl) (by kernel_rfl) ⟨⟨E113, ⟨⟨tabok, fns_ok ⟨c82_snd, trivial⟩⟩, mixed⟩, fun p R K => U113 R p.1.1 p.1.2.1 K⟩, trivial⟩
abbrev E114 : Env := ⟨tab, lookH [(40, c40)], { deep := true, heads := [(4, { live := [0, 1, 5] })], outs := [(4, { live := [4] })] }⟩
def S114_0 (a : (List Timpl_Claim.V)) (b : (List Timpl_Claim.V)) (z_ : Int) : St := sT 27 [(0, dD (.sl Timpl_Claim) a), (1, dD (.sl Timpl_Claim) b), (5, dI z_)] []
def O114_0 (a : (List Timpl_Claim.V)) (b : (List Timpl_Claim.V)) : (Unit ⊕ Unit) → Ex × St := Sum.elim (fun c => (.ret, sT 27 [(4, dB false)] [])) (fun d => ((.exit 0), sT 27 [] []))
def laws_eqClaimS_l0_g (a : (List Timpl_Claim.V)) (b : (List Timpl_Claim.V)) (e : Int) : Option (Int ⊕ (Unit ⊕ Unit)) :=
 bif (decide (e < (a.length : Int))) then
 if (0 : Int) ≤ e ∧ e < (a.length : Int) then
 if (0 : Int) ≤ e ∧ e < (b.length : Int) then
 (laws_eqClaim (a.getD e.toNat (Ty.zero Timpl_Claim)) (b.getD e.toNat (Ty.zero Timpl_Claim))).bind fun g =>
 bif (!g) then
 some (.inr (.inl ()))
 else
 some (.inl (IntKind.i64.wrap (e + 1)))
 else none
 else none
 else
 some (.inr (.inr ()))
def laws_eqClaimS_l0_r (a : (List Timpl_Claim.V)) (b : (List Timpl_Claim.V)) (z_ : Int) := laws_eqClaimS_l0_g a b z_
def laws_eqClaimS_l0 (a : (List Timpl_Claim.V)) (b : (List Timpl_Claim.V)) (e : Int) := fix (laws_eqClaimS_l0_r a b) e
theorem T114_0 (a : (List Timpl_Claim.V)) (b : (List Timpl_Claim.V)) : LpOk E114 0 4 (code Tryz.f13) [1, 1, 0, 1, 0] (S114_0 a b) (laws_eqClaimS_l0_r a b) (O114_0 a b) := by
  intro _
  simp only [laws_eqClaimS_l0_r, laws_eqClaimS_l0_g, mC, mI, mN, mB, mE, mM]
  kernel_rfl
def laws_eqClaimS (a : (List Timpl_Claim.V)) (b : (List Timpl_Claim.V)) : Option Bool :=
 bif ((a.length : Int) != (b.length : Int)) then
 some false
 else
 (laws_eqClaimS_l0 a b 0).bind (Sum.elim (fun c =>
 some false) (fun d =>
 some true))
theorem U114 (R : Type) (a : (List Timpl_Claim.V)) (b : (List Timpl_Claim.V)) (K : AV → List Blk → Option R) : runF E114 Tryz.f13 R [dD (.sl Timpl_Claim) a, dD (.sl Timpl_Claim) b] [] K = (laws_eqClaimS a b).bind fun r => K (dB r) [] := by
  simp only [laws_eqClaimS, bC, bI, bN, bE, bA, bS, bO, bM]
  simp (disch := refine sI ?_ <;> (repeat' refine sA ?_ ?_) <;> intro _ <;> kernel_rfl) only [laws_eqClaimS_l0, lp_ok (T114_0 _ _) (K := finK E114 Tryz.f13 0 R K)]
  kernel_rfl
def c13 : Va.Callee := brC [.d (.sl Timpl_Claim), .d (.sl Timpl_Claim)] [⟨[.dat [] (.sl Timpl_Claim), .dat [] (.sl Timpl_Claim)], [], Bool, fun p => laws_eqClaimS p.1.1 p.1.2.1, fun r => (dB r, [])⟩]
theorem c13_snd : SoundC Tryz.prog 13 c13 := br_snd (fn := Tryz.f13) (by kernel_rfl) (by kernel_rfl) (by kernel_rfl) ⟨⟨E114, ⟨⟨tabok, fns_ok ⟨c40_snd, trivial⟩⟩, mixed⟩, fun p R K => U114 R p.1.1 p.1.2.1 K⟩, trivial⟩
abbrev E115 : Env := ⟨tab, lookH [], { deep := true }⟩
def laws_eqDecl (a : Timpl_Decl.V) (b : Timpl_Decl.V) : Bool := ((!(!(strEq a.1 b.1))) && ((!(a.2.1 != b.2.1)) && true))
theorem U115 (R : Type) (a : Timpl_Decl.V) (b : Timpl_Decl.V) (K : AV → List Blk → Option R) : runF E115 Tryz.f41 R [dD Timpl_Decl a, dD Timpl_Decl b] [] K = K (dB (laws_eqDecl a b)) [] := by
  have h : runF E115 Tryz.f41 R [dD Timpl_Decl a, dD Timpl_Decl b] [] K =
 bif (!(strEq a.1 b.1)) then
 K (dB false) []
 else
 bif (a.2.1 != b.2.1) then
 K (dB false) []
 else
 K (dB true) [] := by kernel_rfl
  rw [h]
  unfold laws_eqDecl
  cases h1 : (!(strEq a.1 b.1))
  · cases h2 : (a.2.1 != b.2.1)
    · first | rfl | kernel_rfl
    · first | rfl | kernel_rfl
  · first | rfl | kernel_rfl
def c41 : Va.Callee := brC [.d Timpl_Decl, .d Timpl_Decl] [⟨[.dat [] Timpl_Decl, .dat [] Timpl_Decl], [], Bool, fun p => some (laws_eqDecl p.1.1 p.1.2.1), fun r => (dB r, [])⟩]
theorem c41_snd : SoundC Tryz.prog 41 c41 := br_snd (fn := Tryz.f41) (by kernel_rfl) (by kernel_rfl) (by kernel_rfl) ⟨⟨E115, ⟨⟨tabok, fns_ok trivial⟩, mixed⟩, fun p R K => U115 R p.1.1 p.1.2.1 K⟩, trivial⟩
abbrev E116 : Env := ⟨tab, lookH [(41, c41)], { deep := true, heads := [(4, { live := [0, 1, 5] })], outs := [(4, { live := [4] })] }⟩
def S116_0 (a : (List Timpl_Decl.V)) (b : (List Timpl_Decl.V)) (z_ : Int) : St := sT 27 [(0, dD (.sl Timpl_Decl) a), (1, dD (.sl Timpl_Decl) b), (5, dI z_)] []
def O116_0 (a : (List Timpl_Decl.V)) (b : (List Timpl_Decl.V)) : (Unit ⊕ Unit) → Ex × St := Sum.elim (fun c => (.ret, sT 27 [(4, dB false)] [])) (fun d => ((.exit 0), sT 27 [] []))
def laws_eqDeclS_l0_g (a : (List Timpl_Decl.V)) (b : (List Timpl_Decl.V)) (e : Int) : Option (Int ⊕ (Unit ⊕ Unit)) :=
 bif (decide (e < (a.length : Int))) then
 if (0 : Int) ≤ e ∧ e < (a.length : Int) then
 if (0 : Int) ≤ e ∧ e < (b.length : Int) then
 bif (!(laws_eqDecl (a.getD e.toNat (Ty.zero Timpl_Decl)) (b.getD e.toNat (Ty.zero Timpl_Decl)))) then
 some (.inr (.inl ()))
 else
 some (.inl (IntKind.i64.wrap (e + 1)))
 else none
 else none
 else
 some (.inr (.inr ()))
def laws_eqDeclS_l0_r (a : (List Timpl_Decl.V)) (b : (List Timpl_Decl.V)) (z_ : Int) := laws_eqDeclS_l0_g a b z_
def laws_eqDeclS_l0 (a : (List Timpl_Decl.V)) (b : (List Timpl_Decl.V)) (e : Int) := fix (laws_eqDeclS_l0_r a b) e
theorem T116_0 (a : (List Timpl_Decl.V)) (b : (List Timpl_Decl.V)) : LpOk E116 0 4 (code Tryz.f14) [1, 1, 0, 1, 0] (S116_0 a b) (laws_eqDeclS_l0_r a b) (O116_0 a b) := by
  intro _
  simp only [laws_eqDeclS_l0_r, laws_eqDeclS_l0_g, mC, mI, mN, mB, mE, mM]
  kernel_rfl
def laws_eqDeclS (a : (List Timpl_Decl.V)) (b : (List Timpl_Decl.V)) : Option Bool :=
 bif ((a.length : Int) != (b.length : Int)) then
 some false
 else
 (laws_eqDeclS_l0 a b 0).bind (Sum.elim (fun c =>
 some false) (fun d =>
 some true))
theorem U116 (R : Type) (a : (List Timpl_Decl.V)) (b : (List Timpl_Decl.V)) (K : AV → List Blk → Option R) : runF E116 Tryz.f14 R [dD (.sl Timpl_Decl) a, dD (.sl Timpl_Decl) b] [] K = (laws_eqDeclS a b).bind fun r => K (dB r) [] := by
  simp only [laws_eqDeclS, bC, bI, bN, bE, bA, bS, bO, bM]
  simp (disch := refine sI ?_ <;> (repeat' refine sA ?_ ?_) <;> intro _ <;> kernel_rfl) only [laws_eqDeclS_l0, lp_ok (T116_0 _ _) (K := finK E116 Tryz.f14 0 R K)]
  kernel_rfl
def c14 : Va.Callee := brC [.d (.sl Timpl_Decl), .d (.sl Timpl_Decl)] [⟨[.dat [] (.sl Timpl_Decl), .dat [] (.sl Timpl_Decl)], [], Bool, fun p => laws_eqDeclS p.1.1 p.1.2.1, fun r => (dB r, [])⟩]
theorem c14_snd : SoundC Tryz.prog 14 c14 := br_snd (fn := Tryz.f14) (by kernel_rfl) (by kernel_rfl) (by kernel_rfl) ⟨⟨E116, ⟨⟨tabok, fns_ok ⟨c41_snd, trivial⟩⟩, mixed⟩, fun p R K => U116 R p.1.1 p.1.2.1 K⟩, trivial⟩
abbrev E117 : Env := ⟨tab, lookH [], { deep := true, heads := [(4, { live := [0, 1, 5] })], outs := [(4, { live := [4] })] }⟩
def S117_0 (a : (List Int)) (b : (List Int)) (z_ : Int) : St := sT 26 [(0, dD (.sl (.int .i64)) a), (1, dD (.sl (.int .i64)) b), (5, dI z_)] []
def O117_0 (a : (List Int)) (b : (List Int)) : (Unit ⊕ Unit) → Ex × St := Sum.elim (fun c => (.ret, sT 26 [(4, dB false)] [])) (fun d => ((.exit 0), sT 26 [] []))
def laws_eqInt64S_l0_g (a : (List Int)) (b : (List Int)) (e : Int) : Option (Int ⊕ (Unit ⊕ Unit)) :=
 bif (decide (e < (a.length : Int))) then
 if (0 : Int) ≤ e ∧ e < (a.length : Int) then
 if (0 : Int) ≤ e ∧ e < (b.length : Int) then
 bif ((a.getD e.toNat (Ty.zero (.int .i64))) != (b.getD e.toNat (Ty.zero (.int .i64)))) then
 some (.inr (.inl ()))
 else
 some (.inl (IntKind.i64.wrap (e + 1)))
 else none
 else none
 else
 some (.inr (.inr ()))
def laws_eqInt64S_l0_r (a : (List Int)) (b : (List Int)) (z_ : Int) := laws_eqInt64S_l0_g a b z_
def laws_eqInt64S_l0 (a : (List Int)) (b : (List Int)) (e : Int) := fix (laws_eqInt64S_l0_r a b) e
theorem T117_0 (a : (List Int)) (b : (List Int)) : LpOk E117 0 4 (code Tryz.f184) [1, 1, 0, 1, 0] (S117_0 a b) (laws_eqInt64S_l0_r a b) (O117_0 a b) := by
  intro _
  simp only [laws_eqInt64S_l0_r, laws_eqInt64S_l0_g, mC, mI, mN, mB, mE, mM]
  kernel_rfl
def laws_eqInt64S (a : (List Int)) (b : (List Int)) : Option Bool :=
 bif ((a.length : Int) != (b.length : Int)) then
 some false
 else
 (laws_eqInt64S_l0 a b 0).bind (Sum.elim (fun c =>
 some false) (fun d =>
 some true))
theorem U117 (R : Type) (a : (List Int)) (b : (List Int)) (K : AV → List Blk → Option R) : runF E117 Tryz.f184 R [dD (.sl (.int .i64)) a, dD (.sl (.int .i64)) b] [] K = (laws_eqInt64S a b).bind fun r => K (dB r) [] := by
  simp only [laws_eqInt64S, bC, bI, bN, bE, bA, bS, bO, bM]
  simp (disch := refine sI ?_ <;> (repeat' refine sA ?_ ?_) <;> intro _ <;> kernel_rfl) only [laws_eqInt64S_l0, lp_ok (T117_0 _ _) (K := finK E117 Tryz.f184 0 R K)]
  kernel_rfl
def c184 : Va.Callee := brC [.d (.sl (.int .i64)), .d (.sl (.int .i64))] [⟨[.dat [] (.sl (.int .i64)), .dat [] (.sl (.int .i64))], [], Bool, fun p => laws_eqInt64S p.1.1 p.1.2.1, fun r => (dB r, [])⟩]
theorem c184_snd : SoundC Tryz.prog 184 c184 := br_snd (fn := Tryz.f184) (by kernel_rfl) (by kernel_rfl) (by kernel_rfl) ⟨⟨E117, ⟨⟨tabok, fns_ok trivial⟩, mixed⟩, fun p R K => U117 R p.1.1 p.1.2.1 K⟩, trivial⟩
abbrev E118 : Env := ⟨tab, lookH [(107, c107), (184, c184)], { deep := true }⟩
def laws_eqTNode (a : Timpl_TNode.V) (b : Timpl_TNode.V) : Option Bool :=
 bif (a.1 != b.1) then
 some false
 else
 bif (a.2.1 != b.2.1) then
 some false
 else
 bif (a.2.2.1 != b.2.2.1) then
 some false
 else
 bif (a.2.2.2.1 != b.2.2.2.1) then
 some false
 else
 (laws_eqBits a.2.2.2.2.1 b.2.2.2.2.1).bind fun c =>
 bif (!c) then
 some false
 else
 (laws_eqInt64S a.2.2.2.2.2.1 b.2.2.2.2.2.1).bind fun d =>
 bif (!d) then
 some false
 else
 some true
theorem U118 (R : Type) (a : Timpl_TNode.V) (b : Timpl_TNode.V) (K : AV → List Blk → Option R) : runF E118 Tryz.f164 R [dD Timpl_TNode a, dD Timpl_TNode b] [] K = (laws_eqTNode a b).bind fun r => K (dB r) [] := by
  simp only [laws_eqTNode, bC, bI, bN, bE, bA, bS, bO, bM]
  kernel_rfl
def c164 : Va.Callee := brC [.d Timpl_TNode, .d Timpl_TNode] [⟨[.dat [] Timpl_TNode, .dat [] Timpl_TNode], [], Bool, fun p => laws_eqTNode p.1.1 p.1.2.1, fun r => (dB r, [])⟩]
theorem c164_snd : SoundC Tryz.prog 164 c164 := br_snd (fn := Tryz.f164) (by kernel_rfl) (by kernel_rfl) (by kernel_rfl) ⟨⟨E118, ⟨⟨tabok, fns_ok ⟨c107_snd, c184_snd, trivial⟩⟩, mixed⟩, fun p R K => U118 R p.1.1 p.1.2.1 K⟩, trivial⟩
abbrev E119 : Env := ⟨tab, lookH [(164, c164)], { deep := true, heads := [(4, { live := [0, 1, 5] })], outs := [(4, { live := [4] })] }⟩
def S119_0 (a : (List Timpl_TNode.V)) (b : (List Timpl_TNode.V)) (z_ : Int) : St := sT 27 [(0, dD (.sl Timpl_TNode) a), (1, dD (.sl Timpl_TNode) b), (5, dI z_)] []
def O119_0 (a : (List Timpl_TNode.V)) (b : (List Timpl_TNode.V)) : (Unit ⊕ Unit) → Ex × St := Sum.elim (fun c => (.ret, sT 27 [(4, dB false)] [])) (fun d => ((.exit 0), sT 27 [] []))
def laws_eqTNodeS_l0_g (a : (List Timpl_TNode.V)) (b : (List Timpl_TNode.V)) (e : Int) : Option (Int ⊕ (Unit ⊕ Unit)) :=
 bif (decide (e < (a.length : Int))) then
 if (0 : Int) ≤ e ∧ e < (a.length : Int) then
 if (0 : Int) ≤ e ∧ e < (b.length : Int) then
 (laws_eqTNode (a.getD e.toNat (Ty.zero Timpl_TNode)) (b.getD e.toNat (Ty.zero Timpl_TNode))).bind fun g =>
 bif (!g) then
 some (.inr (.inl ()))
 else
 some (.inl (IntKind.i64.wrap (e + 1)))
 else none
 else none
 else
 some (.inr (.inr ()))
def laws_eqTNodeS_l0_r (a : (List Timpl_TNode.V)) (b : (List Timpl_TNode.V)) (z_ : Int) := laws_eqTNodeS_l0_g a b z_
def laws_eqTNodeS_l0 (a : (List Timpl_TNode.V)) (b : (List Timpl_TNode.V)) (e : Int) := fix (laws_eqTNodeS_l0_r a b) e
theorem T119_0 (a : (List Timpl_TNode.V)) (b : (List Timpl_TNode.V)) : LpOk E119 0 4 (code Tryz.f132) [1, 1, 0, 1, 0] (S119_0 a b) (laws_eqTNodeS_l0_r a b) (O119_0 a b) := by
  intro _
  simp only [laws_eqTNodeS_l0_r, laws_eqTNodeS_l0_g, mC, mI, mN, mB, mE, mM]
  kernel_rfl
def laws_eqTNodeS (a : (List Timpl_TNode.V)) (b : (List Timpl_TNode.V)) : Option Bool :=
 bif ((a.length : Int) != (b.length : Int)) then
 some false
 else
 (laws_eqTNodeS_l0 a b 0).bind (Sum.elim (fun c =>
 some false) (fun d =>
 some true))
theorem U119 (R : Type) (a : (List Timpl_TNode.V)) (b : (List Timpl_TNode.V)) (K : AV → List Blk → Option R) : runF E119 Tryz.f132 R [dD (.sl Timpl_TNode) a, dD (.sl Timpl_TNode) b] [] K = (laws_eqTNodeS a b).bind fun r => K (dB r) [] := by
  simp only [laws_eqTNodeS, bC, bI, bN, bE, bA, bS, bO, bM]
  simp (disch := refine sI ?_ <;> (repeat' refine sA ?_ ?_) <;> intro _ <;> kernel_rfl) only [laws_eqTNodeS_l0, lp_ok (T119_0 _ _) (K := finK E119 Tryz.f132 0 R K)]
  kernel_rfl
def c132 : Va.Callee := brC [.d (.sl Timpl_TNode), .d (.sl Timpl_TNode)] [⟨[.dat [] (.sl Timpl_TNode), .dat [] (.sl Timpl_TNode)], [], Bool, fun p => laws_eqTNodeS p.1.1 p.1.2.1, fun r => (dB r, [])⟩]
theorem c132_snd : SoundC Tryz.prog 132 c132 := br_snd (fn := Tryz.f132) (by kernel_rfl) (by kernel_rfl) (by kernel_rfl) ⟨⟨E119, ⟨⟨tabok, fns_ok ⟨c164_snd, trivial⟩⟩, mixed⟩, fun p R K => U119 R p.1.1 p.1.2.1 K⟩, trivial⟩
abbrev E120 : Env := ⟨tab, lookH [(132, c132)], { deep := true }⟩
def laws_eqTerm (a : Timpl_Term.V) (b : Timpl_Term.V) : Option Bool :=
 (laws_eqTNodeS a.1 b.1).bind fun c =>
 bif (!c) then
 some false
 else
 some true
theorem U120 (R : Type) (a : Timpl_Term.V) (b : Timpl_Term.V) (K : AV → List Blk → Option R) : runF E120 Tryz.f83 R [dD Timpl_Term a, dD Timpl_Term b] [] K = (laws_eqTerm a b).bind fun r => K (dB r) [] := by
  simp only [laws_eqTerm, bC, bI, bN, bE, bA, bS, bO, bM]
  kernel_rfl
def c83 : Va.Callee := brC [.d Timpl_Term, .d Timpl_Term] [⟨[.dat [] Timpl_Term, .dat [] Timpl_Term], [], Bool, fun p => laws_eqTerm p.1.1 p.1.2.1, fun r => (dB r, [])⟩]
theorem c83_snd : SoundC Tryz.prog 83 c83 := br_snd (fn := Tryz.f83) (by kernel_rfl) (by kernel_rfl) (by kernel_rfl) ⟨⟨E120, ⟨⟨tabok, fns_ok ⟨c132_snd, trivial⟩⟩, mixed⟩, fun p R K => U120 R p.1.1 p.1.2.1 K⟩, trivial⟩
end
end Go.Proofs.X
