import Derived.KernelRfl
import Derived.Test.YtjbdmijibelnlaaGreatK8
set_option linter.unusedVariables false
set_option linter.unusedSimpArgs false
namespace Go.Proofs.X
open Go Go.Va
set_option maxRecDepth 100000
noncomputable section
abbrev E40 : Env := ⟨tab, lookH [(61, c61), (111, c111), (112, c112)], { heads := [(6, { live := [0, 3, 6, 7, 8], pre := [(6, false, .row [] 146 (.sl Tspec_l5Bit) false), (7, false, .row [] 135 Timpl_Seg true)] }), (10, { live := [0, 3, 6, 8, 9, 10], pre := [(9, false, .row [] 146 (.sl Tspec_l5Bit) false)] })], outs := [(6, { live := [4, 5, 7] }), (10, { live := [0, 3, 6, 8, 9], frz := [(9, false, (.sl (.sl Tspec_l5Bit)))] })], res := [(0, .row [] 135 Timpl_Seg true)] }⟩
def S40_3 (a : (List Timpl_Decl.V)) (b : Timpl_Term.V) (z_ : (Int × (List (List Tspec_l5Bit.V)) × (List Timpl_Seg.V))) : St := sT 77 [(0, dD (.sl Timpl_Decl) a), (3, .ptr 0 0 [] 0), (6, .ref 1), (7, .ref 2), (8, dI z_.1)] [.box (dD Timpl_Term b), .row 146 (.sh []) (.sl Tspec_l5Bit) z_.2.1, .row 135 .deep Timpl_Seg z_.2.2]
def O40_3 (a : (List Timpl_Decl.V)) (b : Timpl_Term.V) : (Unit ⊕ (List Timpl_Seg.V)) → Ex × St := Sum.elim (fun c => (.ret, sT 77 [(4, .zs), (5, dB false)] [])) (fun d => ((.exit 0), sT 77 [(7, .ref 0)] [.row 135 .deep Timpl_Seg d]))
def S40_2 (a : (List Timpl_Decl.V)) (e : Int) (b : Timpl_Term.V) (g : (List (List Tspec_l5Bit.V))) (z_ : (Int × (List (List Tspec_l5Bit.V)))) : St := sT 77 [(0, dD (.sl Timpl_Decl) a), (3, .ptr 0 0 [] 0), (6, .ref 1), (8, dI e), (9, .ref 2), (10, dI z_.1)] [.box (dD Timpl_Term b), .row 146 (.sh []) (.sl Tspec_l5Bit) g, .row 146 (.sh []) (.sl Tspec_l5Bit) z_.2]
def O40_2 (a : (List Timpl_Decl.V)) (e : Int) (b : Timpl_Term.V) (g : (List (List Tspec_l5Bit.V))) : (List (List Tspec_l5Bit.V)) → Ex × St := fun i => ((.exit 2), sT 77 [(0, dD (.sl Timpl_Decl) a), (3, .ptr 0 0 [] 0), (6, .ref 1), (8, dI e), (9, dD (.sl (.sl Tspec_l5Bit)) i)] [.box (dD Timpl_Term b), .row 146 (.sh []) (.sl Tspec_l5Bit) g])
def spec_Flatten_l2_g (a : (List Timpl_Decl.V)) (e : Int) (b : Timpl_Term.V) (g : (List (List Tspec_l5Bit.V))) (j : Int) (k : (List (List Tspec_l5Bit.V))) : Option ((Int × (List (List Tspec_l5Bit.V))) ⊕ (List (List Tspec_l5Bit.V))) :=
 if (0 : Int) ≤ e ∧ e < (b.1.length : Int) then
 bif (decide (j < ((b.1.getD e.toNat (Ty.zero Timpl_TNode)).2.2.2.2.2.1.length : Int))) then
 if (0 : Int) ≤ e ∧ e < (b.1.length : Int) then
 if (0 : Int) ≤ j ∧ j < ((b.1.getD e.toNat (Ty.zero Timpl_TNode)).2.2.2.2.2.1.length : Int) then
 if (0 : Int) ≤ ((b.1.getD e.toNat (Ty.zero Timpl_TNode)).2.2.2.2.2.1.getD j.toNat (Ty.zero (.int .i64))) ∧ ((b.1.getD e.toNat (Ty.zero Timpl_TNode)).2.2.2.2.2.1.getD j.toNat (Ty.zero (.int .i64))) < (g.length : Int) then
 if (k.length + ([(g.getD ((b.1.getD e.toNat (Ty.zero Timpl_TNode)).2.2.2.2.2.1.getD j.toNat (Ty.zero (.int .i64))).toNat (Ty.zero (.sl Tspec_l5Bit)))] : List (List Tspec_l5Bit.V)).length) * 24 ≤ 140737488355328 then
 some (.inl ((IntKind.i64.wrap (j + 1)), (k ++ ([(g.getD ((b.1.getD e.toNat (Ty.zero Timpl_TNode)).2.2.2.2.2.1.getD j.toNat (Ty.zero (.int .i64))).toNat (Ty.zero (.sl Tspec_l5Bit)))] : List (List Tspec_l5Bit.V)))))
 else none
 else none
 else none
 else none
 else
 some (.inr k)
 else none
def spec_Flatten_l2_r (a : (List Timpl_Decl.V)) (e : Int) (b : Timpl_Term.V) (g : (List (List Tspec_l5Bit.V))) (z_ : (Int × (List (List Tspec_l5Bit.V)))) := spec_Flatten_l2_g a e b g z_.1 z_.2
def spec_Flatten_l2 (a : (List Timpl_Decl.V)) (e : Int) (b : Timpl_Term.V) (g : (List (List Tspec_l5Bit.V))) (j : Int) (k : (List (List Tspec_l5Bit.V))) := fix (spec_Flatten_l2_r a e b g) (j, k)
theorem T40_2 (a : (List Timpl_Decl.V)) (e : Int) (b : Timpl_Term.V) (g : (List (List Tspec_l5Bit.V))) : LpOk E40 0 10 (sub (code Tryz.f62) [1, 1, 1, 1, 0, 1, 0, 0]) [1, 0, 0, 1, 0, 1, 0] (S40_2 a e b g) (spec_Flatten_l2_r a e b g) (O40_2 a e b g) := by
  intro _
  simp only [spec_Flatten_l2_r, spec_Flatten_l2_g, mC, mI, mN, mB, mE, mM]
  kernel_rfl
def spec_Flatten_l3_g (a : (List Timpl_Decl.V)) (b : Timpl_Term.V) (e : Int) (g : (List (List Tspec_l5Bit.V))) (l : (List Timpl_Seg.V)) : Option ((Int × (List (List Tspec_l5Bit.V)) × (List Timpl_Seg.V)) ⊕ (Unit ⊕ (List Timpl_Seg.V))) :=
 bif (decide (e < (b.1.length : Int))) then
 (spec_Flatten_l2 a e b g 0 ([] : List (List Tspec_l5Bit.V))).bind fun i =>
 if (0 : Int) ≤ e ∧ e < (b.1.length : Int) then
 (spec_l5Node a (b.1.getD e.toNat (Ty.zero Timpl_TNode)) i).bind fun n =>
 (spec_l5Form n).bind fun o =>
 bif (!o.1) then
 some (.inr (.inl ()))
 else
 if (g.length + ([n] : List (List Tspec_l5Bit.V)).length) * 24 ≤ 140737488355328 then
 some (.inl ((IntKind.i64.wrap (e + 1)), (g ++ ([n] : List (List Tspec_l5Bit.V))), o.2))
 else none
 else none
 else
 some (.inr (.inr l))
def spec_Flatten_l3_r (a : (List Timpl_Decl.V)) (b : Timpl_Term.V) (z_ : (Int × (List (List Tspec_l5Bit.V)) × (List Timpl_Seg.V))) := spec_Flatten_l3_g a b z_.1 z_.2.1 z_.2.2
def spec_Flatten_l3 (a : (List Timpl_Decl.V)) (b : Timpl_Term.V) (e : Int) (g : (List (List Tspec_l5Bit.V))) (l : (List Timpl_Seg.V)) := fix (spec_Flatten_l3_r a b) (e, g, l)
theorem T40_3 (a : (List Timpl_Decl.V)) (b : Timpl_Term.V) : LpOk E40 0 6 (code Tryz.f62) [1, 1, 1, 1, 0, 1, 0] (S40_3 a b) (spec_Flatten_l3_r a b) (O40_3 a b) := by
  intro _
  simp only [spec_Flatten_l3_r, spec_Flatten_l3_g, mC, mI, mN, mB, mE, mM]
  simp (disch := refine sI ?_ <;> (repeat' refine sA ?_ ?_) <;> intro _ <;> kernel_rfl) only [spec_Flatten_l2, lp_ok (T40_2 _ _ _ _) (K := stepK 0 (E40.hd 6) (E40.ot 6))]
  kernel_rfl
def spec_Flatten (a : (List Timpl_Decl.V)) (b : Timpl_Term.V) : Option (Bool × (List Timpl_Seg.V)) :=
 (spec_WidthOf a b).bind fun q =>
 bif (decide (q < 0)) then
 some (false, ([] : List Timpl_Seg.V))
 else
 (spec_Flatten_l3 a b 0 ([] : List (List Tspec_l5Bit.V)) ([] : List Timpl_Seg.V)).bind (Sum.elim (fun c =>
 some (false, ([] : List Timpl_Seg.V))) (fun d =>
 some (true, d)))
theorem U40 (R : Type) (a : (List Timpl_Decl.V)) (b : Timpl_Term.V) (K : AV → List Blk → Option R) : runF E40 Tryz.f62 R [dD (.sl Timpl_Decl) a, dD Timpl_Term b] [] K = (spec_Flatten a b).bind fun r => K (.cons (.ref 0) (.cons (dB r.1) .nil)) [.row 135 .deep Timpl_Seg r.2] := by
  simp only [spec_Flatten, bC, bI, bN, bE, bA, bS, bO, bM]
  simp (disch := refine sI ?_ <;> (repeat' refine sA ?_ ?_) <;> intro _ <;> kernel_rfl) only [spec_Flatten_l3, lp_ok (T40_3 _ _) (K := finK E40 Tryz.f62 0 R K)]
  kernel_rfl
def c62 : Va.Callee := brC [.d (.sl Timpl_Decl), .d Timpl_Term] [⟨[.dat [] (.sl Timpl_Decl), .dat [] Timpl_Term], [], (Bool × (List Timpl_Seg.V)), fun p => spec_Flatten p.1.1 p.1.2.1, fun r => (.cons (.ref 0) (.cons (dB r.1) .nil), [.row 135 .deep Timpl_Seg r.2])⟩]
theorem c62_snd : SoundC Tryz.prog 62 c62 := br_snd (fn := Tryz.f62) (by kernel_rfl) (by kernel_rfl) (by kernel_rfl) ⟨⟨E40, ⟨⟨tabok, fns_ok ⟨c61_snd, c111_snd, c112_snd, trivial⟩⟩, mixed⟩, fun p R K => U40 R p.1.1 p.1.2.1 K⟩, trivial⟩
abbrev E41 : Env := ⟨tab, lookH [(62, c62)], { deep := true, heads := [(3, { live := [0, 1, 6, 7], pre := [(6, false, .row [] 69 (.sl Timpl_Seg) true)] })], outs := [(3, { live := [4, 5, 6] })], joins := [(8, { live := [0, 1, 6, 7, 8, 10, 44] })], ents := [(8, [0, 1, 6, 7, 8, 9, 10, 11])] }⟩
def S41_2 (a : (List Timpl_Decl.V)) (b : (List Timpl_Literal.V)) (z_ : (Int × (List (List Timpl_Seg.V)))) : St := sT 52 [(0, dD (.sl Timpl_Decl) a), (1, dD (.sl Timpl_Literal) b), (6, .ref 0), (7, dI z_.1)] [.row 69 .deep (.sl Timpl_Seg) z_.2]
def O41_2 (a : (List Timpl_Decl.V)) (b : (List Timpl_Literal.V)) : ((List (List Timpl_Seg.V)) ⊕ (List (List Timpl_Seg.V))) → Ex × St := Sum.elim (fun c => (.ret, sT 52 [(4, .ref 0), (5, dB false), (6, .ref 0)] [.row 69 .deep (.sl Timpl_Seg) c])) (fun d => ((.exit 0), sT 52 [(6, .ref 0)] [.row 69 .deep (.sl Timpl_Seg) d]))
def S41_1 (a : (List Timpl_Decl.V)) (b : (List Timpl_Literal.V)) (e : Int) (g : (Bool × (List Timpl_Seg.V))) (i : (Bool × (List Timpl_Seg.V))) (j : (List (List Timpl_Seg.V))) : St := sT 52 [(0, dD (.sl Timpl_Decl) a), (1, dD (.sl Timpl_Literal) b), (6, .ref 0), (7, dI e), (8, .ref 1), (9, dB g.1), (10, .ref 2), (11, dB i.1)] [.row 69 .deep (.sl Timpl_Seg) j, .row 135 .deep Timpl_Seg g.2, .row 135 .deep Timpl_Seg i.2]
def O41_1 (a : (List Timpl_Decl.V)) (b : (List Timpl_Literal.V)) (e : Int) (g : (Bool × (List Timpl_Seg.V))) (i : (Bool × (List Timpl_Seg.V))) (j : (List (List Timpl_Seg.V))) (m0 : Bool) : Ex × St := (.normal, sT 52 [(0, dD (.sl Timpl_Decl) a), (1, dD (.sl Timpl_Literal) b), (6, .ref 0), (7, dI e), (8, .ref 1), (10, .ref 2), (44, dB m0)] [.row 69 .deep (.sl Timpl_Seg) j, .row 135 .deep Timpl_Seg g.2, .row 135 .deep Timpl_Seg i.2])
theorem T41_1 (a : (List Timpl_Decl.V)) (b : (List Timpl_Literal.V)) (e : Int) (g : (Bool × (List Timpl_Seg.V))) (i : (Bool × (List Timpl_Seg.V))) (j : (List (List Timpl_Seg.V))) : jnS E41 0 8 (sub (code Tryz.f31) [1, 1, 0, 1, 0, 0]) [1, 0, 0, 1, 1, 0, 0] (S41_1 a b e g i j) = some (O41_1 a b e g i j ((!g.1) || (!i.1))) := by
  have h0 : jnS E41 0 8 (sub (code Tryz.f31) [1, 1, 0, 1, 0, 0]) [1, 0, 0, 1, 1, 0, 0] (S41_1 a b e g i j) =
 bif (!g.1) then
 some (O41_1 a b e g i j true)
 else
 some (O41_1 a b e g i j (!i.1)) := by kernel_rfl
  rw [h0]
  cases h1 : (!g.1)
  · first | rfl | kernel_rfl
  · first | rfl | kernel_rfl
def spec_l6Sides_l2_g (a : (List Timpl_Decl.V)) (b : (List Timpl_Literal.V)) (e : Int) (j : (List (List Timpl_Seg.V))) : Option ((Int × (List (List Timpl_Seg.V))) ⊕ ((List (List Timpl_Seg.V)) ⊕ (List (List Timpl_Seg.V)))) :=
 bif (decide (e < (b.length : Int))) then
 if (0 : Int) ≤ e ∧ e < (b.length : Int) then
 (spec_Flatten a (b.getD e.toNat (Ty.zero Timpl_Literal)).2.2.1).bind fun g =>
 if (0 : Int) ≤ e ∧ e < (b.length : Int) then
 (spec_Flatten a (b.getD e.toNat (Ty.zero Timpl_Literal)).2.2.2.1).bind fun i =>
 mkr (S41_1 a b e g i j) (
 bif ((!g.1) || (!i.1)) then
 some (.inr (.inl j))
 else
 if (j.length + ([g.2, i.2] : List (List Timpl_Seg.V)).length) * 24 ≤ 140737488355328 then
 some (.inl ((IntKind.i64.wrap (e + 1)), (j ++ ([g.2, i.2] : List (List Timpl_Seg.V)))))
 else none)
 else none
 else none
 else
 some (.inr (.inr j))
def spec_l6Sides_l2_r (a : (List Timpl_Decl.V)) (b : (List Timpl_Literal.V)) (z_ : (Int × (List (List Timpl_Seg.V)))) := spec_l6Sides_l2_g a b z_.1 z_.2
def spec_l6Sides_l2 (a : (List Timpl_Decl.V)) (b : (List Timpl_Literal.V)) (e : Int) (j : (List (List Timpl_Seg.V))) := fix (spec_l6Sides_l2_r a b) (e, j)
theorem T41_2 (a : (List Timpl_Decl.V)) (b : (List Timpl_Literal.V)) : LpOk E41 0 3 (code Tryz.f31) [1, 1, 0, 1, 0] (S41_2 a b) (spec_l6Sides_l2_r a b) (O41_2 a b) := by
  intro _
  simp only [spec_l6Sides_l2_r, spec_l6Sides_l2_g, mC, mI, mN, mB, mE, mM]
  simp (disch := refine sI ?_ <;> (repeat' refine sA ?_ ?_) <;> intro _ <;> kernel_rfl) only [in_ok (T41_1 _ _ _ _ _ _) (K := stepK 0 (E41.hd 3) (E41.ot 3))]
  kernel_rfl
def spec_l6Sides (a : (List Timpl_Decl.V)) (b : (List Timpl_Literal.V)) : Option (Bool × (List (List Timpl_Seg.V))) :=
 (spec_l6Sides_l2 a b 0 ([] : List (List Timpl_Seg.V))).bind (Sum.elim (fun c =>
 some (false, c)) (fun d =>
 some (true, d)))
theorem U41 (R : Type) (a : (List Timpl_Decl.V)) (b : (List Timpl_Literal.V)) (K : AV → List Blk → Option R) : runF E41 Tryz.f31 R [dD (.sl Timpl_Decl) a, dD (.sl Timpl_Literal) b] [] K = (spec_l6Sides a b).bind fun r => K (.cons (.ref 0) (.cons (dB r.1) .nil)) [.row 69 .deep (.sl Timpl_Seg) r.2] := by
  simp only [spec_l6Sides, bC, bI, bN, bE, bA, bS, bO, bM]
  simp (disch := refine sI ?_ <;> (repeat' refine sA ?_ ?_) <;> intro _ <;> kernel_rfl) only [spec_l6Sides_l2, lp_ok (T41_2 _ _) (K := finK E41 Tryz.f31 0 R K)]
  kernel_rfl
def c31 : Va.Callee := brC [.d (.sl Timpl_Decl), .d (.sl Timpl_Literal)] [⟨[.dat [] (.sl Timpl_Decl), .dat [] (.sl Timpl_Literal)], [], (Bool × (List (List Timpl_Seg.V))), fun p => spec_l6Sides p.1.1 p.1.2.1, fun r => (.cons (.ref 0) (.cons (dB r.1) .nil), [.row 69 .deep (.sl Timpl_Seg) r.2])⟩]
theorem c31_snd : SoundC Tryz.prog 31 c31 := br_snd (fn := Tryz.f31) (by kernel_rfl) (by kernel_rfl) (by kernel_rfl) ⟨⟨E41, ⟨⟨tabok, fns_ok ⟨c62_snd, trivial⟩⟩, mixed⟩, fun p R K => U41 R p.1.1 p.1.2.1 K⟩, trivial⟩
abbrev E42 : Env := ⟨tab, lookH [], { deep := true, joins := [(4, { live := [3, 4] }), (9, { live := [3, 9] })], ents := [(4, [3]), (9, [3])] }⟩
def S42_1 (a : Int) : St := sT 14 [(3, dI a)] []
def O42_1 (a : Int) (m0 : Bool) : Ex × St := (.normal, sT 14 [(3, dI a), (9, dB m0)] [])
theorem T42_1 (a : Int) : jnS E42 0 9 (code Tryz.f64) [1, 0, 1, 0, 1, 1, 1, 1, 0] (S42_1 a) = some (O42_1 a (bif (a == 4) then (a == 4) else (a == 6))) := by
  have h0 : jnS E42 0 9 (code Tryz.f64) [1, 0, 1, 0, 1, 1, 1, 1, 0] (S42_1 a) =
 bif (a == 4) then
 some (O42_1 a (a == 4))
 else
 some (O42_1 a (a == 6)) := by kernel_rfl
  rw [h0]
  cases h1 : (a == 4)
  · first | rfl | kernel_rfl
  · first | rfl | kernel_rfl
def S42_0 (a : Int) : St := sT 14 [(3, dI a)] []
def O42_0 (a : Int) (m0 : Bool) : Ex × St := (.normal, sT 14 [(3, dI a), (4, dB m0)] [])
theorem T42_0 (a : Int) : jnS E42 0 4 (code Tryz.f64) [1, 0, 1, 0, 0] (S42_0 a) = some (O42_0 a (bif (a == 1) then (a == 1) else (a == 3))) := by
  have h0 : jnS E42 0 4 (code Tryz.f64) [1, 0, 1, 0, 0] (S42_0 a) =
 bif (a == 1) then
 some (O42_0 a (a == 1))
 else
 some (O42_0 a (a == 3)) := by kernel_rfl
  rw [h0]
  cases h1 : (a == 1)
  · first | rfl | kernel_rfl
  · first | rfl | kernel_rfl
def spec_l14Uses (a : Int) : ByteArray := (bif (bif (a == 1) then (a == 1) else (a == 3)) then (⟨#[105]⟩ : ByteArray) else (bif (a == 2) then (⟨#[116]⟩ : ByteArray) else (bif (bif (a == 4) then (a == 4) else (a == 6)) then (⟨#[105, 106]⟩ : ByteArray) else (bif (a == 5) then (⟨#[105, 112]⟩ : ByteArray) else (⟨#[]⟩ : ByteArray)))))
theorem U42 (R : Type) (a : Int) (K : AV → List Blk → Option R) : runF E42 Tryz.f64 R [dI a] [] K = K (dD .str (spec_l14Uses a)) [] := by
  have h : runF E42 Tryz.f64 R [dI a] [] K =
 mkr (S42_0 a) (
 bif (bif (a == 1) then (a == 1) else (a == 3)) then
 K (dD .str (⟨#[105]⟩ : ByteArray)) []
 else
 bif (a == 2) then
 K (dD .str (⟨#[116]⟩ : ByteArray)) []
 else
 mkr (S42_1 a) (
 bif (bif (a == 4) then (a == 4) else (a == 6)) then
 K (dD .str (⟨#[105, 106]⟩ : ByteArray)) []
 else
 bif (a == 5) then
 K (dD .str (⟨#[105, 112]⟩ : ByteArray)) []
 else
 K (dD .str (⟨#[]⟩ : ByteArray)) [])) := by
    simp (disch := refine sI ?_ <;> (repeat' refine sA ?_ ?_) <;> intro _ <;> kernel_rfl) only [in_ok (T42_0 _) (K := finK E42 Tryz.f64 0 R K), in_ok (T42_1 _) (K := finK E42 Tryz.f64 0 R K)]
    kernel_rfl
  rw [h]
  unfold spec_l14Uses
  cases h1 : (bif (a == 1) then (a == 1) else (a == 3))
  · cases h2 : (a == 2)
    · cases h3 : (bif (a == 4) then (a == 4) else (a == 6))
      · cases h4 : (a == 5)
        · first | rfl | kernel_rfl
        · first | rfl | kernel_rfl
      · first | rfl | kernel_rfl
    · first | rfl | kernel_rfl
  · first | rfl | kernel_rfl
def c64 : Va.Callee := brC [.d (.int .i64)] [⟨[.dat [] (.int .i64)], [], ByteArray, fun p => some (spec_l14Uses p.1.1), fun r => (dD .str r, [])⟩]
theorem c64_snd : SoundC Tryz.prog 64 c64 := br_snd (fn := Tryz.f64) (by kernel_rfl) (by kernel_rfl) (by kernel_rfl) ⟨⟨E42, ⟨⟨tabok, fns_ok trivial⟩, mixed⟩, fun p R K => U42 R p.1.1 K⟩, trivial⟩
abbrev E43 : Env := ⟨tab, lookH [], { deep := true, heads := [(2, { live := [0, 1, 5] })], outs := [(2, { live := [4] })] }⟩
def S43_0 (a : ByteArray) (b : Int) (z_ : Int) : St := sT 17 [(0, dD .str a), (1, dD (.int .u8) b), (5, dI z_)] []
def O43_0 (a : ByteArray) (b : Int) : (Unit ⊕ Unit) → Ex × St := Sum.elim (fun c => (.ret, sT 17 [(4, dB true)] [])) (fun d => ((.exit 0), sT 17 [] []))
def spec_l14In_l0_g (a : ByteArray) (b : Int) (e : Int) : Option (Int ⊕ (Unit ⊕ Unit)) :=
 bif (decide (e < (a.size : Int))) then
 if (0 : Int) ≤ e ∧ e < (a.size : Int) then
 bif ((bgetI a e) == b) then
 some (.inr (.inl ()))
 else
 some (.inl (IntKind.i64.wrap (e + 1)))
 else none
 else
 some (.inr (.inr ()))
def spec_l14In_l0_r (a : ByteArray) (b : Int) (z_ : Int) := spec_l14In_l0_g a b z_
def spec_l14In_l0 (a : ByteArray) (b : Int) (e : Int) := fix (spec_l14In_l0_r a b) e
theorem T43_0 (a : ByteArray) (b : Int) : LpOk E43 0 2 (code Tryz.f66) [1, 0, 1, 0] (S43_0 a b) (spec_l14In_l0_r a b) (O43_0 a b) := by
  intro _
  simp only [spec_l14In_l0_r, spec_l14In_l0_g, mC, mI, mN, mB, mE, mM]
  kernel_rfl
def spec_l14In (a : ByteArray) (b : Int) : Option Bool :=
 (spec_l14In_l0 a b 0).bind (Sum.elim (fun c =>
 some true) (fun d =>
 some false))
theorem U43 (R : Type) (a : ByteArray) (b : Int) (K : AV → List Blk → Option R) : runF E43 Tryz.f66 R [dD .str a, dD (.int .u8) b] [] K = (spec_l14In a b).bind fun r => K (dB r) [] := by
  simp only [spec_l14In, bC, bI, bN, bE, bA, bS, bO, bM]
  simp (disch := refine sI ?_ <;> (repeat' refine sA ?_ ?_) <;> intro _ <;> kernel_rfl) only [spec_l14In_l0, lp_ok (T43_0 _ _) (K := finK E43 Tryz.f66 0 R K)]
  kernel_rfl
def c66 : Va.Callee := brC [.d .str, .d (.int .u8)] [⟨[.dat [] .str, .dat [] (.int .u8)], [], Bool, fun p => spec_l14In p.1.1 p.1.2.1, fun r => (dB r, [])⟩]
theorem c66_snd : SoundC Tryz.prog 66 c66 := br_snd (fn := Tryz.f66) (by kernel_rfl) (by kernel_rfl) (by kernel_rfl) ⟨⟨E43, ⟨⟨tabok, fns_ok trivial⟩, mixed⟩, fun p R K => U43 R p.1.1 p.1.2.1 K⟩, trivial⟩
abbrev E44 : Env := ⟨tab, lookH [(64, c64), (66, c66)], { deep := true }⟩
def spec_l14Fields (a : Timpl_PStep.V) : Option Bool :=
 bif (!(strEq (spec_l14Uses a.1) (⟨#[]⟩ : ByteArray))) then
 (spec_l14In (spec_l14Uses a.1) 105).bind fun b =>
 bif b then
 (spec_l14In (spec_l14Uses a.1) 106).bind fun c =>
 bif c then
 (spec_l14In (spec_l14Uses a.1) 112).bind fun d =>
 bif d then
 (spec_l14In (spec_l14Uses a.1) 116).bind fun e =>
 bif e then
 some true
 else
 some ((a.2.2.2.2.2.1.1.length : Int) == 0)
 else
 bif (a.2.2.2.1 == 0) then
 bif (a.2.2.2.2.1 == 0) then
 (spec_l14In (spec_l14Uses a.1) 116).bind fun g =>
 bif g then
 some true
 else
 some ((a.2.2.2.2.2.1.1.length : Int) == 0)
 else
 some false
 else
 some false
 else
 bif (a.2.2.1 == 0) then
 (spec_l14In (spec_l14Uses a.1) 112).bind fun i =>
 bif i then
 (spec_l14In (spec_l14Uses a.1) 116).bind fun j =>
 bif j then
 some true
 else
 some ((a.2.2.2.2.2.1.1.length : Int) == 0)
 else
 bif (a.2.2.2.1 == 0) then
 bif (a.2.2.2.2.1 == 0) then
 (spec_l14In (spec_l14Uses a.1) 116).bind fun k =>
 bif k then
 some true
 else
 some ((a.2.2.2.2.2.1.1.length : Int) == 0)
 else
 some false
 else
 some false
 else
 some false
 else
 bif (a.2.1 == 0) then
 (spec_l14In (spec_l14Uses a.1) 106).bind fun l =>
 bif l then
 (spec_l14In (spec_l14Uses a.1) 112).bind fun n =>
 bif n then
 (spec_l14In (spec_l14Uses a.1) 116).bind fun o =>
 bif o then
 some true
 else
 some ((a.2.2.2.2.2.1.1.length : Int) == 0)
 else
 bif (a.2.2.2.1 == 0) then
 bif (a.2.2.2.2.1 == 0) then
 (spec_l14In (spec_l14Uses a.1) 116).bind fun q =>
 bif q then
 some true
 else
 some ((a.2.2.2.2.2.1.1.length : Int) == 0)
 else
 some false
 else
 some false
 else
 bif (a.2.2.1 == 0) then
 (spec_l14In (spec_l14Uses a.1) 112).bind fun s =>
 bif s then
 (spec_l14In (spec_l14Uses a.1) 116).bind fun t =>
 bif t then
 some true
 else
 some ((a.2.2.2.2.2.1.1.length : Int) == 0)
 else
 bif (a.2.2.2.1 == 0) then
 bif (a.2.2.2.2.1 == 0) then
 (spec_l14In (spec_l14Uses a.1) 116).bind fun u =>
 bif u then
 some true
 else
 some ((a.2.2.2.2.2.1.1.length : Int) == 0)
 else
 some false
 else
 some false
 else
 some false
 else
 some false
 else
 some false
theorem U44 (R : Type) (a : Timpl_PStep.V) (K : AV → List Blk → Option R) : runF E44 Tryz.f63 R [dD Timpl_PStep a] [] K = (spec_l14Fields a).bind fun r => K (dB r) [] := by
  simp only [spec_l14Fields, bC, bI, bN, bE, bA, bS, bO, bM]
  kernel_rfl
def c63 : Va.Callee := brC [.d Timpl_PStep] [⟨[.dat [] Timpl_PStep], [], Bool, fun p => spec_l14Fields p.1.1, fun r => (dB r, [])⟩]
theorem c63_snd : SoundC Tryz.prog 63 c63 := br_snd (fn := Tryz.f63) (by kernel_rfl) (by kernel_rfl) (by kernel_rfl) ⟨⟨E44, ⟨⟨tabok, fns_ok ⟨c64_snd, c66_snd, trivial⟩⟩, mixed⟩, fun p R K => U44 R p.1.1 K⟩, trivial⟩
abbrev E45 : Env := ⟨tab, lookH [], { deep := true, heads := [(2, { live := [0, 1, 5] })], outs := [(2, { live := [4] })], joins := [(5, { live := [0, 1, 5, 25] })], ents := [(5, [0, 1, 5])] }⟩
def S45_1 (a : (List Timpl_Literal.V)) (b : Int) (z_ : Int) : St := sT 27 [(0, dD (.sl Timpl_Literal) a), (1, dI b), (5, dI z_)] []
def O45_1 (a : (List Timpl_Literal.V)) (b : Int) : (Int ⊕ Unit) → Ex × St := Sum.elim (fun c => (.ret, sT 27 [(4, dI c)] [])) (fun d => ((.exit 0), sT 27 [] []))
def S45_0 (a : (List Timpl_Literal.V)) (b : Int) (e : Int) : St := sT 27 [(0, dD (.sl Timpl_Literal) a), (1, dI b), (5, dI e)] []
def O45_0 (a : (List Timpl_Literal.V)) (b : Int) (e : Int) : Bool → Ex × St := fun g => (.normal, sT 27 [(0, dD (.sl Timpl_Literal) a), (1, dI b), (5, dI e), (25, dB g)] [])
def spec_l14Given_l0 (a : (List Timpl_Literal.V)) (b : Int) (e : Int) : Option Bool :=
 if (0 : Int) ≤ e ∧ e < (a.length : Int) then
 bif ((a.getD e.toNat (Ty.zero Timpl_Literal)).1 == b) then
 if (0 : Int) ≤ e ∧ e < (a.length : Int) then
 some (a.getD e.toNat (Ty.zero Timpl_Literal)).2.1
 else none
 else
 some false
 else none
theorem T45_0 (a : (List Timpl_Literal.V)) (b : Int) (e : Int) : JnOk E45 0 5 (sub (code Tryz.f65) [1, 0, 1, 0, 0]) [1, 0, 0, 0] (S45_0 a b e) (spec_l14Given_l0 a b e) (O45_0 a b e) := by
  unfold JnOk
  simp only [spec_l14Given_l0, mC, mI, mN, mB, mE, mM]
  kernel_rfl
def spec_l14Given_l1_g (a : (List Timpl_Literal.V)) (b : Int) (e : Int) : Option (Int ⊕ (Int ⊕ Unit)) :=
 bif (decide (e < (a.length : Int))) then
 (spec_l14Given_l0 a b e).bind fun g =>
 bif g then
 some (.inr (.inl e))
 else
 some (.inl (IntKind.i64.wrap (e + 1)))
 else
 some (.inr (.inr ()))
def spec_l14Given_l1_r (a : (List Timpl_Literal.V)) (b : Int) (z_ : Int) := spec_l14Given_l1_g a b z_
def spec_l14Given_l1 (a : (List Timpl_Literal.V)) (b : Int) (e : Int) := fix (spec_l14Given_l1_r a b) e
theorem T45_1 (a : (List Timpl_Literal.V)) (b : Int) : LpOk E45 0 2 (code Tryz.f65) [1, 0, 1, 0] (S45_1 a b) (spec_l14Given_l1_r a b) (O45_1 a b) := by
  intro _
  simp only [spec_l14Given_l1_r, spec_l14Given_l1_g, mC, mI, mN, mB, mE, mM]
  simp (disch := refine sI ?_ <;> (repeat' refine sA ?_ ?_) <;> intro _ <;> kernel_rfl) only [jn_ok (T45_0 _ _ _) (K := stepK 0 (E45.hd 2) (E45.ot 2))]
  kernel_rfl
def spec_l14Given (a : (List Timpl_Literal.V)) (b : Int) : Option Int :=
 (spec_l14Given_l1 a b 0).bind (Sum.elim (fun c =>
 some c) (fun d =>
 some (-1)))
theorem U45 (R : Type) (a : (List Timpl_Literal.V)) (b : Int) (K : AV → List Blk → Option R) : runF E45 Tryz.f65 R [dD (.sl Timpl_Literal) a, dI b] [] K = (spec_l14Given a b).bind fun r => K (dI r) [] := by
  simp only [spec_l14Given, bC, bI, bN, bE, bA, bS, bO, bM]
  simp (disch := refine sI ?_ <;> (repeat' refine sA ?_ ?_) <;> intro _ <;> kernel_rfl) only [spec_l14Given_l1, lp_ok (T45_1 _ _) (K := finK E45 Tryz.f65 0 R K)]
  kernel_rfl
def c65 : Va.Callee := brC [.d (.sl Timpl_Literal), .d (.int .i64)] [⟨[.dat [] (.sl Timpl_Literal), .dat [] (.int .i64)], [], Int, fun p => spec_l14Given p.1.1 p.1.2.1, fun r => (dI r, [])⟩]
theorem c65_snd : SoundC Tryz.prog 65 c65 := br_snd (fn := Tryz.f65) (by kernel_rfl) (by kernel_rfl) (by kernel_rfl) ⟨⟨E45, ⟨⟨tabok, fns_ok trivial⟩, mixed⟩, fun p R K => U45 R p.1.1 p.1.2.1 K⟩, trivial⟩
abbrev E46 : Env := ⟨tab, lookH [], { deep := true }⟩
def spec_l8CopyBits (a : Timpl_Bits.V) : Option (Int × (List Int)) :=
 if a.2.1.length * 8 ≤ 140737488355328 then
 some (a.1, a.2.1)
 else none
theorem U46 (R : Type) (a : Timpl_Bits.V) (K : AV → List Blk → Option R) : runF E46 Tryz.f113 R [dD Timpl_Bits a] [] K = (spec_l8CopyBits a).bind fun r => K (.pr (dI r.1) (.pr (.ref 0) .u)) [.row 169 .deep (.int .u64) r.2] := by
  simp only [spec_l8CopyBits, bC, bI, bN, bE, bA, bS, bO, bM]
  kernel_rfl
def c113 : Va.Callee := brC [.d Timpl_Bits] [⟨[.dat [] Timpl_Bits], [], (Int × (List Int)), fun p => spec_l8CopyBits p.1.1, fun r => (.pr (dI r.1) (.pr (.ref 0) .u), [.row 169 .deep (.int .u64) r.2])⟩]
theorem c113_snd : SoundC Tryz.prog 113 c113 := br_snd (fn := Tryz.f113) (by kernel_rfl) (by kernel_rfl) (by kernel_rfl) ⟨⟨E46, ⟨⟨tabok, fns_ok trivial⟩, mixed⟩, fun p R K => U46 R p.1.1 K⟩, trivial⟩
abbrev E47 : Env := ⟨tab, lookH [(113, c113)], { deep := true, heads := [(3, { live := [0, 3, 4], pre := [(3, false, .row [] 135 Timpl_Seg true)] })], outs := [(3, { live := [3] })] }⟩
def S47_0 (a : (List Timpl_Seg.V)) (z_ : (Int × (List Timpl_Seg.V))) : St := sT 26 [(0, dD (.sl Timpl_Seg) a), (3, .ref 0), (4, dI z_.1)] [.row 135 .deep Timpl_Seg z_.2]
def O47_0 (a : (List Timpl_Seg.V)) : (List Timpl_Seg.V) → Ex × St := fun b => ((.exit 0), sT 26 [(3, .ref 0)] [.row 135 .deep Timpl_Seg b])
def spec_l14CopyForm_l0_g (a : (List Timpl_Seg.V)) (c : Int) (d : (List Timpl_Seg.V)) : Option ((Int × (List Timpl_Seg.V)) ⊕ (List Timpl_Seg.V)) :=
 bif (decide (c < (a.length : Int))) then
 if (0 : Int) ≤ c ∧ c < (a.length : Int) then
 (spec_l8CopyBits (a.getD c.toNat (Ty.zero Timpl_Seg)).2.2.2.1).bind fun e =>
 if (d.length + ([((a.getD c.toNat (Ty.zero Timpl_Seg)).1, (a.getD c.toNat (Ty.zero Timpl_Seg)).2.1, (a.getD c.toNat (Ty.zero Timpl_Seg)).2.2.1, (e.1, e.2, ()), (a.getD c.toNat (Ty.zero Timpl_Seg)).2.2.2.2)] : List Timpl_Seg.V).length) * 56 ≤ 140737488355328 then
 some (.inl ((IntKind.i64.wrap (c + 1)), (d ++ ([((a.getD c.toNat (Ty.zero Timpl_Seg)).1, (a.getD c.toNat (Ty.zero Timpl_Seg)).2.1, (a.getD c.toNat (Ty.zero Timpl_Seg)).2.2.1, (e.1, e.2, ()), (a.getD c.toNat (Ty.zero Timpl_Seg)).2.2.2.2)] : List Timpl_Seg.V))))
 else none
 else none
 else
 some (.inr d)
def spec_l14CopyForm_l0_r (a : (List Timpl_Seg.V)) (z_ : (Int × (List Timpl_Seg.V))) := spec_l14CopyForm_l0_g a z_.1 z_.2
def spec_l14CopyForm_l0 (a : (List Timpl_Seg.V)) (c : Int) (d : (List Timpl_Seg.V)) := fix (spec_l14CopyForm_l0_r a) (c, d)
theorem T47_0 (a : (List Timpl_Seg.V)) : LpOk E47 0 3 (code Tryz.f67) [1, 1, 0, 1, 0] (S47_0 a) (spec_l14CopyForm_l0_r a) (O47_0 a) := by
  intro _
  simp only [spec_l14CopyForm_l0_r, spec_l14CopyForm_l0_g, mC, mI, mN, mB, mE, mM]
  kernel_rfl
def spec_l14CopyForm (a : (List Timpl_Seg.V)) : Option (List Timpl_Seg.V) :=
 (spec_l14CopyForm_l0 a 0 ([] : List Timpl_Seg.V)).bind fun b =>
 some b
theorem U47 (R : Type) (a : (List Timpl_Seg.V)) (K : AV → List Blk → Option R) : runF E47 Tryz.f67 R [dD (.sl Timpl_Seg) a] [] K = (spec_l14CopyForm a).bind fun r => K (.ref 0) [.row 135 .deep Timpl_Seg r] := by
  simp only [spec_l14CopyForm, bC, bI, bN, bE, bA, bS, bO, bM]
  simp (disch := refine sI ?_ <;> (repeat' refine sA ?_ ?_) <;> intro _ <;> kernel_rfl) only [spec_l14CopyForm_l0, lp_ok (T47_0 _) (K := finK E47 Tryz.f67 0 R K)]
  kernel_rfl
def c67 : Va.Callee := brC [.d (.sl Timpl_Seg)] [⟨[.dat [] (.sl Timpl_Seg)], [], (List Timpl_Seg.V), fun p => spec_l14CopyForm p.1.1, fun r => (.ref 0, [.row 135 .deep Timpl_Seg r])⟩]
theorem c67_snd : SoundC Tryz.prog 67 c67 := br_snd (fn := Tryz.f67) (by kernel_rfl) (by kernel_rfl) (by kernel_rfl) ⟨⟨E47, ⟨⟨tabok, fns_ok ⟨c113_snd, trivial⟩⟩, mixed⟩, fun p R K => U47 R p.1.1 K⟩, trivial⟩
end
end Go.Proofs.X
namespace Go.Proofs.X
open Go Go.Va
set_option maxRecDepth 100000
noncomputable section
abbrev E48 : Env := ⟨tab, lookH [], { deep := true, heads := [(4, { live := [2, 3, 5] })], outs := [(4, { live := [4] })], joins := [(2, { live := [2, 3, 19] })], ents := [(2, [2, 3])] }⟩
def S48_1 (a : Timpl_Bits.V) (b : Timpl_Bits.V) (z_ : Int) : St := sT 38 [(2, .ptr 0 0 [] 0), (3, .ptr 1 0 [] 0), (5, dI z_)] [.box (dD Timpl_Bits a), .box (dD Timpl_Bits b)]
def O48_1 (a : Timpl_Bits.V) (b : Timpl_Bits.V) : (Unit ⊕ Unit) → Ex × St := Sum.elim (fun c => (.ret, sT 38 [(4, dB false)] [])) (fun d => ((.exit 0), sT 38 [] []))
def spec_l3SameBits_l1_g (a : Timpl_Bits.V) (b : Timpl_Bits.V) (e : Int) : Option (Int ⊕ (Unit ⊕ Unit)) :=
 bif (decide (e < (a.2.1.length : Int))) then
 if (0 : Int) ≤ e ∧ e < (a.2.1.length : Int) then
 if (0 : Int) ≤ e ∧ e < (b.2.1.length : Int) then
 bif ((a.2.1.getD e.toNat (Ty.zero (.int .u64))) != (b.2.1.getD e.toNat (Ty.zero (.int .u64)))) then
 some (.inr (.inl ()))
 else
 some (.inl (IntKind.i64.wrap (e + 1)))
 else none
 else none
 else
 some (.inr (.inr ()))
def spec_l3SameBits_l1_r (a : Timpl_Bits.V) (b : Timpl_Bits.V) (z_ : Int) := spec_l3SameBits_l1_g a b z_
def spec_l3SameBits_l1 (a : Timpl_Bits.V) (b : Timpl_Bits.V) (e : Int) := fix (spec_l3SameBits_l1_r a b) e
theorem T48_1 (a : Timpl_Bits.V) (b : Timpl_Bits.V) : LpOk E48 0 4 (code Tryz.f114) [1, 1, 0, 1, 0] (S48_1 a b) (spec_l3SameBits_l1_r a b) (O48_1 a b) := by
  intro _
  simp only [spec_l3SameBits_l1_r, spec_l3SameBits_l1_g, mC, mI, mN, mB, mE, mM]
  kernel_rfl
def S48_0 (a : Timpl_Bits.V) (b : Timpl_Bits.V) : St := sT 38 [(2, .ptr 0 0 [] 0), (3, .ptr 1 0 [] 0)] [.box (dD Timpl_Bits a), .box (dD Timpl_Bits b)]
def O48_0 (a : Timpl_Bits.V) (b : Timpl_Bits.V) (m0 : Bool) : Ex × St := (.normal, sT 38 [(2, .ptr 0 0 [] 0), (3, .ptr 1 0 [] 0), (19, dB m0)] [.box (dD Timpl_Bits a), .box (dD Timpl_Bits b)])
theorem T48_0 (a : Timpl_Bits.V) (b : Timpl_Bits.V) : jnS E48 0 2 (code Tryz.f114) [1, 0, 0] (S48_0 a b) = some (O48_0 a b ((a.1 != b.1) || ((a.2.1.length : Int) != (b.2.1.length : Int)))) := by
  have h0 : jnS E48 0 2 (code Tryz.f114) [1, 0, 0] (S48_0 a b) =
 bif (a.1 != b.1) then
 some (O48_0 a b true)
 else
 some (O48_0 a b ((a.2.1.length : Int) != (b.2.1.length : Int))) := by kernel_rfl
  rw [h0]
  cases h1 : (a.1 != b.1)
  · first | rfl | kernel_rfl
  · first | rfl | kernel_rfl
def spec_l3SameBits (a : Timpl_Bits.V) (b : Timpl_Bits.V) : Option Bool :=
 mkr (S48_0 a b) (
 bif ((a.1 != b.1) || ((a.2.1.length : Int) != (b.2.1.length : Int))) then
 some false
 else
 (spec_l3SameBits_l1 a b 0).bind (Sum.elim (fun c =>
 some false) (fun d =>
 some true)))
theorem U48 (R : Type) (a : Timpl_Bits.V) (b : Timpl_Bits.V) (K : AV → List Blk → Option R) : runF E48 Tryz.f114 R [dD Timpl_Bits a, dD Timpl_Bits b] [] K = (spec_l3SameBits a b).bind fun r => K (dB r) [] := by
  simp only [spec_l3SameBits, bC, bI, bN, bE, bA, bS, bO, bM]
  simp (disch := refine sI ?_ <;> (repeat' refine sA ?_ ?_) <;> intro _ <;> kernel_rfl) only [in_ok (T48_0 _ _) (K := finK E48 Tryz.f114 0 R K), spec_l3SameBits_l1, lp_ok (T48_1 _ _) (K := finK E48 Tryz.f114 0 R K)]
  kernel_rfl
def c114 : Va.Callee := brC [.d Timpl_Bits, .d Timpl_Bits] [⟨[.dat [] Timpl_Bits, .dat [] Timpl_Bits], [], Bool, fun p => spec_l3SameBits p.1.1 p.1.2.1, fun r => (dB r, [])⟩]
theorem c114_snd : SoundC Tryz.prog 114 c114 := br_snd (fn := Tryz.f114) (by kernel_rfl) (by kernel_rfl) (by kernel_rfl) ⟨⟨E48, ⟨⟨tabok, fns_ok trivial⟩, mixed⟩, fun p R K => U48 R p.1.1 p.1.2.1 K⟩, trivial⟩
abbrev E49 : Env := ⟨tab, lookH [(114, c114)], { deep := true, heads := [(4, { live := [0, 1, 5] })], outs := [(4, { live := [4] })], joins := [(7, { live := [0, 1, 5, 67] })], ents := [(7, [0, 1, 5])] }⟩
def S49_1 (a : (List Timpl_Seg.V)) (b : (List Timpl_Seg.V)) (z_ : Int) : St := sT 68 [(0, dD (.sl Timpl_Seg) a), (1, dD (.sl Timpl_Seg) b), (5, dI z_)] []
def O49_1 (a : (List Timpl_Seg.V)) (b : (List Timpl_Seg.V)) : (Unit ⊕ Unit) → Ex × St := Sum.elim (fun c => (.ret, sT 68 [(4, dB false)] [])) (fun d => ((.exit 0), sT 68 [] []))
def S49_0 (a : (List Timpl_Seg.V)) (b : (List Timpl_Seg.V)) (e : Int) : St := sT 68 [(0, dD (.sl Timpl_Seg) a), (1, dD (.sl Timpl_Seg) b), (5, dI e)] []
def O49_0 (a : (List Timpl_Seg.V)) (b : (List Timpl_Seg.V)) (e : Int) : Bool → Ex × St := fun g => (.normal, sT 68 [(0, dD (.sl Timpl_Seg) a), (1, dD (.sl Timpl_Seg) b), (5, dI e), (67, dB g)] [])
def spec_l14SameForm_l0 (a : (List Timpl_Seg.V)) (b : (List Timpl_Seg.V)) (e : Int) : Option Bool :=
 if (0 : Int) ≤ e ∧ e < (a.length : Int) then
 if (0 : Int) ≤ e ∧ e < (b.length : Int) then
 bif ((a.getD e.toNat (Ty.zero Timpl_Seg)).1 != (b.getD e.toNat (Ty.zero Timpl_Seg)).1) then
 some true
 else
 if (0 : Int) ≤ e ∧ e < (a.length : Int) then
 if (0 : Int) ≤ e ∧ e < (b.length : Int) then
 bif ((a.getD e.toNat (Ty.zero Timpl_Seg)).2.1 != (b.getD e.toNat (Ty.zero Timpl_Seg)).2.1) then
 some true
 else
 if (0 : Int) ≤ e ∧ e < (a.length : Int) then
 if (0 : Int) ≤ e ∧ e < (b.length : Int) then
 bif ((a.getD e.toNat (Ty.zero Timpl_Seg)).2.2.1 != (b.getD e.toNat (Ty.zero Timpl_Seg)).2.2.1) then
 some true
 else
 if (0 : Int) ≤ e ∧ e < (a.length : Int) then
 if (0 : Int) ≤ e ∧ e < (b.length : Int) then
 (spec_l3SameBits (a.getD e.toNat (Ty.zero Timpl_Seg)).2.2.2.1 (b.getD e.toNat (Ty.zero Timpl_Seg)).2.2.2.1).bind fun i =>
 some (!i)
 else none
 else none
 else none
 else none
 else none
 else none
 else none
 else none
theorem T49_0 (a : (List Timpl_Seg.V)) (b : (List Timpl_Seg.V)) (e : Int) : JnOk E49 0 7 (sub (code Tryz.f68) [1, 1, 0, 1, 0, 0]) [1, 0, 0, 0] (S49_0 a b e) (spec_l14SameForm_l0 a b e) (O49_0 a b e) := by
  unfold JnOk
  simp only [spec_l14SameForm_l0, mC, mI, mN, mB, mE, mM]
  kernel_rfl
def spec_l14SameForm_l1_g (a : (List Timpl_Seg.V)) (b : (List Timpl_Seg.V)) (e : Int) : Option (Int ⊕ (Unit ⊕ Unit)) :=
 bif (decide (e < (a.length : Int))) then
 (spec_l14SameForm_l0 a b e).bind fun g =>
 bif g then
 some (.inr (.inl ()))
 else
 some (.inl (IntKind.i64.wrap (e + 1)))
 else
 some (.inr (.inr ()))
def spec_l14SameForm_l1_r (a : (List Timpl_Seg.V)) (b : (List Timpl_Seg.V)) (z_ : Int) := spec_l14SameForm_l1_g a b z_
def spec_l14SameForm_l1 (a : (List Timpl_Seg.V)) (b : (List Timpl_Seg.V)) (e : Int) := fix (spec_l14SameForm_l1_r a b) e
theorem T49_1 (a : (List Timpl_Seg.V)) (b : (List Timpl_Seg.V)) : LpOk E49 0 4 (code Tryz.f68) [1, 1, 0, 1, 0] (S49_1 a b) (spec_l14SameForm_l1_r a b) (O49_1 a b) := by
  intro _
  simp only [spec_l14SameForm_l1_r, spec_l14SameForm_l1_g, mC, mI, mN, mB, mE, mM]
  simp (disch := refine sI ?_ <;> (repeat' refine sA ?_ ?_) <;> intro _ <;> kernel_rfl) only [jn_ok (T49_0 _ _ _) (K := stepK 0 (E49.hd 4) (E49.ot 4))]
  kernel_rfl
def spec_l14SameForm (a : (List Timpl_Seg.V)) (b : (List Timpl_Seg.V)) : Option Bool :=
 bif ((a.length : Int) != (b.length : Int)) then
 some false
 else
 (spec_l14SameForm_l1 a b 0).bind (Sum.elim (fun c =>
 some false) (fun d =>
 some true))
theorem U49 (R : Type) (a : (List Timpl_Seg.V)) (b : (List Timpl_Seg.V)) (K : AV → List Blk → Option R) : runF E49 Tryz.f68 R [dD (.sl Timpl_Seg) a, dD (.sl Timpl_Seg) b] [] K = (spec_l14SameForm a b).bind fun r => K (dB r) [] := by
  simp only [spec_l14SameForm, bC, bI, bN, bE, bA, bS, bO, bM]
  simp (disch := refine sI ?_ <;> (repeat' refine sA ?_ ?_) <;> intro _ <;> kernel_rfl) only [spec_l14SameForm_l1, lp_ok (T49_1 _ _) (K := finK E49 Tryz.f68 0 R K)]
  kernel_rfl
def c68 : Va.Callee := brC [.d (.sl Timpl_Seg), .d (.sl Timpl_Seg)] [⟨[.dat [] (.sl Timpl_Seg), .dat [] (.sl Timpl_Seg)], [], Bool, fun p => spec_l14SameForm p.1.1 p.1.2.1, fun r => (dB r, [])⟩]
theorem c68_snd : SoundC Tryz.prog 68 c68 := br_snd (fn := Tryz.f68) (by kernel_rfl) (by kernel_rfl) (by kernel_rfl) ⟨⟨E49, ⟨⟨tabok, fns_ok ⟨c114_snd, trivial⟩⟩, mixed⟩, fun p R K => U49 R p.1.1 p.1.2.1 K⟩, trivial⟩
abbrev E50 : Env := ⟨tab, lookH [(48, c48), (172, c172), (174, c174)], { deep := true, joins := [(4, { live := [0, 3, 37] })], ents := [(4, [0, 3])] }⟩
def S50_0 (a : (List Timpl_Decl.V)) (b : Timpl_Seg.V) : St := sT 58 [(0, dD (.sl Timpl_Decl) a), (3, .ptr 0 0 [] 0)] [.box (dD Timpl_Seg b)]
def O50_0 (a : (List Timpl_Decl.V)) (b : Timpl_Seg.V) (m0 : Bool) : Ex × St := (.normal, sT 58 [(0, dD (.sl Timpl_Decl) a), (3, .ptr 0 0 [] 0), (37, dB m0)] [.box (dD Timpl_Seg b)])
theorem T50_0 (a : (List Timpl_Decl.V)) (b : Timpl_Seg.V) : jnS E50 0 4 (code Tryz.f154) [1, 1, 0, 0] (S50_0 a b) = some (O50_0 a b ((!(spec_l1In b.1 0 (IntKind.i64.wrap ((a.length : Int) - 1)))) || (!(spec_l3NoBits b.2.2.2.1)))) := by
  have h0 : jnS E50 0 4 (code Tryz.f154) [1, 1, 0, 0] (S50_0 a b) =
 bif (!(spec_l1In b.1 0 (IntKind.i64.wrap ((a.length : Int) - 1)))) then
 some (O50_0 a b true)
 else
 some (O50_0 a b (!(spec_l3NoBits b.2.2.2.1))) := by kernel_rfl
  rw [h0]
  cases h1 : (!(spec_l1In b.1 0 (IntKind.i64.wrap ((a.length : Int) - 1))))
  · first | rfl | kernel_rfl
  · first | rfl | kernel_rfl
def spec_l5Seg (a : (List Timpl_Decl.V)) (b : Timpl_Seg.V) : Option Bool :=
 bif (b.1 == (-1)) then
 bif (b.2.1 == 0) then
 (spec_BitsOk b.2.2.2.1).bind fun c =>
 bif c then
 some (b.2.2.2.1.1 == b.2.2.1)
 else
 some false
 else
 some false
 else
 mkr (S50_0 a b) (
 bif ((!(spec_l1In b.1 0 (IntKind.i64.wrap ((a.length : Int) - 1)))) || (!(spec_l3NoBits b.2.2.2.1))) then
 some false
 else
 if (0 : Int) ≤ b.1 ∧ b.1 < (a.length : Int) then
 bif (spec_l1In b.2.1 0 (IntKind.i64.wrap ((a.getD b.1.toNat (Ty.zero Timpl_Decl)).2.1 - 1))) then
 some (spec_l1In b.2.2.1 1 (IntKind.i64.wrap ((a.getD b.1.toNat (Ty.zero Timpl_Decl)).2.1 - b.2.1)))
 else
 some false
 else none)
theorem U50 (R : Type) (a : (List Timpl_Decl.V)) (b : Timpl_Seg.V) (K : AV → List Blk → Option R) : runF E50 Tryz.f154 R [dD (.sl Timpl_Decl) a, dD Timpl_Seg b] [] K = (spec_l5Seg a b).bind fun r => K (dB r) [] := by
  simp only [spec_l5Seg, bC, bI, bN, bE, bA, bS, bO, bM]
  simp (disch := refine sI ?_ <;> (repeat' refine sA ?_ ?_) <;> intro _ <;> kernel_rfl) only [in_ok (T50_0 _ _) (K := finK E50 Tryz.f154 0 R K)]
  kernel_rfl
def c154 : Va.Callee := brC [.d (.sl Timpl_Decl), .d Timpl_Seg] [⟨[.dat [] (.sl Timpl_Decl), .dat [] Timpl_Seg], [], Bool, fun p => spec_l5Seg p.1.1 p.1.2.1, fun r => (dB r, [])⟩]
theorem c154_snd : SoundC Tryz.prog 154 c154 := br_snd (fn := Tryz.f154) (by kernel_rfl) (by kernel_rfl) (by kernel_rfl) ⟨⟨E50, ⟨⟨tabok, fns_ok ⟨c48_snd, c172_snd, c174_snd, trivial⟩⟩, mixed⟩, fun p R K => U50 R p.1.1 p.1.2.1 K⟩, trivial⟩
abbrev E51 : Env := ⟨tab, lookH [(60, c60), (154, c154)], { deep := true, heads := [(5, { live := [0, 1, 5, 6] })], outs := [(5, { live := [4, 5] })], joins := [(2, { live := [0, 1, 19] }), (11, { live := [0, 1, 5, 6, 84] })], ents := [(2, [0, 1]), (11, [0, 1, 5, 6])] }⟩
def S51_2 (a : (List Timpl_Decl.V)) (b : (List Timpl_Seg.V)) (z_ : (Int × Int)) : St := sT 87 [(0, dD (.sl Timpl_Decl) a), (1, dD (.sl Timpl_Seg) b), (5, dI z_.1), (6, dI z_.2)] []
def O51_2 (a : (List Timpl_Decl.V)) (b : (List Timpl_Seg.V)) : (Int ⊕ Int) → Ex × St := Sum.elim (fun c => (.ret, sT 87 [(4, dB false), (5, dI c)] [])) (fun d => ((.exit 0), sT 87 [(5, dI d)] []))
def S51_1 (a : (List Timpl_Decl.V)) (b : (List Timpl_Seg.V)) (e : Int) (g : Int) : St := sT 87 [(0, dD (.sl Timpl_Decl) a), (1, dD (.sl Timpl_Seg) b), (5, dI g), (6, dI e)] []
def O51_1 (a : (List Timpl_Decl.V)) (b : (List Timpl_Seg.V)) (e : Int) (g : Int) : Bool → Ex × St := fun i => (.normal, sT 87 [(0, dD (.sl Timpl_Decl) a), (1, dD (.sl Timpl_Seg) b), (5, dI g), (6, dI e), (84, dB i)] [])
def spec_FlatOk_l1 (a : (List Timpl_Decl.V)) (b : (List Timpl_Seg.V)) (e : Int) (g : Int) : Option Bool :=
 bif (decide (e > 0)) then
 if (0 : Int) ≤ e ∧ e < (b.length : Int) then
 if (0 : Int) ≤ (IntKind.i64.wrap (e - 1)) ∧ (IntKind.i64.wrap (e - 1)) < (b.length : Int) then
 bif ((b.getD e.toNat (Ty.zero Timpl_Seg)).1 == (b.getD (IntKind.i64.wrap (e - 1)).toNat (Ty.zero Timpl_Seg)).1) then
 if (0 : Int) ≤ e ∧ e < (b.length : Int) then
 bif ((b.getD e.toNat (Ty.zero Timpl_Seg)).1 == (-1)) then
 some true
 else
 if (0 : Int) ≤ e ∧ e < (b.length : Int) then
 if (0 : Int) ≤ (IntKind.i64.wrap (e - 1)) ∧ (IntKind.i64.wrap (e - 1)) < (b.length : Int) then
 if (0 : Int) ≤ (IntKind.i64.wrap (e - 1)) ∧ (IntKind.i64.wrap (e - 1)) < (b.length : Int) then
 some ((b.getD e.toNat (Ty.zero Timpl_Seg)).2.1 == (IntKind.i64.wrap ((b.getD (IntKind.i64.wrap (e - 1)).toNat (Ty.zero Timpl_Seg)).2.1 + (b.getD (IntKind.i64.wrap (e - 1)).toNat (Ty.zero Timpl_Seg)).2.2.1)))
 else none
 else none
 else none
 else none
 else
 some false
 else none
 else none
 else
 some false
theorem T51_1 (a : (List Timpl_Decl.V)) (b : (List Timpl_Seg.V)) (e : Int) (g : Int) : JnOk E51 0 11 (sub (code Tryz.f115) [1, 1, 1, 0, 1, 0, 0]) [1, 0, 0, 1, 1, 0] (S51_1 a b e g) (spec_FlatOk_l1 a b e g) (O51_1 a b e g) := by
  unfold JnOk
  simp only [spec_FlatOk_l1, mC, mI, mN, mB, mE, mM]
  kernel_rfl
def spec_FlatOk_l2_g (a : (List Timpl_Decl.V)) (b : (List Timpl_Seg.V)) (j : Int) (e : Int) : Option ((Int × Int) ⊕ (Int ⊕ Int)) :=
 bif (decide (e < (b.length : Int))) then
 if (0 : Int) ≤ e ∧ e < (b.length : Int) then
 (spec_l5Seg a (b.getD e.toNat (Ty.zero Timpl_Seg))).bind fun k =>
 bif (!k) then
 some (.inr (.inl j))
 else
 if (0 : Int) ≤ e ∧ e < (b.length : Int) then
 (spec_FlatOk_l1 a b e (IntKind.i64.wrap (j + (b.getD e.toNat (Ty.zero Timpl_Seg)).2.2.1))).bind fun i =>
 bif i then
 some (.inr (.inl (IntKind.i64.wrap (j + (b.getD e.toNat (Ty.zero Timpl_Seg)).2.2.1))))
 else
 some (.inl ((IntKind.i64.wrap (j + (b.getD e.toNat (Ty.zero Timpl_Seg)).2.2.1)), (IntKind.i64.wrap (e + 1))))
 else none
 else none
 else
 some (.inr (.inr j))
def spec_FlatOk_l2_r (a : (List Timpl_Decl.V)) (b : (List Timpl_Seg.V)) (z_ : (Int × Int)) := spec_FlatOk_l2_g a b z_.1 z_.2
def spec_FlatOk_l2 (a : (List Timpl_Decl.V)) (b : (List Timpl_Seg.V)) (j : Int) (e : Int) := fix (spec_FlatOk_l2_r a b) (j, e)
theorem T51_2 (a : (List Timpl_Decl.V)) (b : (List Timpl_Seg.V)) : LpOk E51 0 5 (code Tryz.f115) [1, 1, 1, 0, 1, 0] (S51_2 a b) (spec_FlatOk_l2_r a b) (O51_2 a b) := by
  intro _
  simp only [spec_FlatOk_l2_r, spec_FlatOk_l2_g, mC, mI, mN, mB, mE, mM]
  simp (disch := refine sI ?_ <;> (repeat' refine sA ?_ ?_) <;> intro _ <;> kernel_rfl) only [jn_ok (T51_1 _ _ _ _) (K := stepK 0 (E51.hd 5) (E51.ot 5))]
  kernel_rfl
def S51_0 (a : (List Timpl_Decl.V)) (b : (List Timpl_Seg.V)) : St := sT 87 [(0, dD (.sl Timpl_Decl) a), (1, dD (.sl Timpl_Seg) b)] []
def O51_0 (a : (List Timpl_Decl.V)) (b : (List Timpl_Seg.V)) : Bool → Ex × St := fun l => (.normal, sT 87 [(0, dD (.sl Timpl_Decl) a), (1, dD (.sl Timpl_Seg) b), (19, dB l)] [])
def spec_FlatOk_l0 (a : (List Timpl_Decl.V)) (b : (List Timpl_Seg.V)) : Option Bool :=
 (spec_DeclsOk a).bind fun n =>
 bif (!n) then
 some true
 else
 bif (decide ((b.length : Int) < 1)) then
 some true
 else
 some (decide ((b.length : Int) > 2000))
theorem T51_0 (a : (List Timpl_Decl.V)) (b : (List Timpl_Seg.V)) : JnOk E51 0 2 (code Tryz.f115) [1, 0, 0] (S51_0 a b) (spec_FlatOk_l0 a b) (O51_0 a b) := by
  unfold JnOk
  simp only [spec_FlatOk_l0, mC, mI, mN, mB, mE, mM]
  kernel_rfl
def spec_FlatOk (a : (List Timpl_Decl.V)) (b : (List Timpl_Seg.V)) : Option Bool :=
 (spec_FlatOk_l0 a b).bind fun l =>
 bif l then
 some false
 else
 (spec_FlatOk_l2 a b 0 0).bind (Sum.elim (fun c =>
 some false) (fun d =>
 some (decide (d ≤ 4096))))
theorem U51 (R : Type) (a : (List Timpl_Decl.V)) (b : (List Timpl_Seg.V)) (K : AV → List Blk → Option R) : runF E51 Tryz.f115 R [dD (.sl Timpl_Decl) a, dD (.sl Timpl_Seg) b] [] K = (spec_FlatOk a b).bind fun r => K (dB r) [] := by
  simp only [spec_FlatOk, bC, bI, bN, bE, bA, bS, bO, bM]
  simp (disch := refine sI ?_ <;> (repeat' refine sA ?_ ?_) <;> intro _ <;> kernel_rfl) only [jn_ok (T51_0 _ _) (K := finK E51 Tryz.f115 0 R K), spec_FlatOk_l2, lp_ok (T51_2 _ _) (K := finK E51 Tryz.f115 0 R K)]
  kernel_rfl
def c115 : Va.Callee := brC [.d (.sl Timpl_Decl), .d (.sl Timpl_Seg)] [⟨[.dat [] (.sl Timpl_Decl), .dat [] (.sl Timpl_Seg)], [], Bool, fun p => spec_FlatOk p.1.1 p.1.2.1, fun r => (dB r, [])⟩]
theorem c115_snd : SoundC Tryz.prog 115 c115 := br_snd (fn := Tryz.f115) (by kernel_rfl) (by kernel_rfl) (by kernel_rfl) ⟨⟨E51, ⟨⟨tabok, fns_ok ⟨c60_snd, c154_snd, trivial⟩⟩, mixed⟩, fun p R K => U51 R p.1.1 p.1.2.1 K⟩, trivial⟩
abbrev E52 : Env := ⟨tab, lookH [(133, c133)], { deep := true, heads := [(3, { live := [0, 3, 4], pre := [(3, false, .row [] 150 Tspec_l5Bit true)] }), (6, { live := [0, 3, 4, 5], pre := [(3, false, .row [] 150 Tspec_l5Bit true)] })], outs := [(3, { live := [3] }), (6, { live := [0, 3, 4] })], joins := [(7, { live := [0, 3, 4, 5] })], ents := [(7, [0, 3, 4, 5])] }⟩
def S52_5 (a : (List Timpl_Seg.V)) (z_ : (Int × (List Tspec_l5Bit.V))) : St := sT 57 [(0, dD (.sl Timpl_Seg) a), (3, .ref 0), (4, dI z_.1)] [.row 150 .deep Tspec_l5Bit z_.2]
def O52_5 (a : (List Timpl_Seg.V)) : (List Tspec_l5Bit.V) → Ex × St := fun b => ((.exit 0), sT 57 [(3, .ref 0)] [.row 150 .deep Tspec_l5Bit b])
def S52_4 (a : (List Timpl_Seg.V)) (c : Int) (z_ : (Int × (List Tspec_l5Bit.V))) : St := sT 57 [(0, dD (.sl Timpl_Seg) a), (3, .ref 0), (4, dI c), (5, dI z_.1)] [.row 150 .deep Tspec_l5Bit z_.2]
def O52_4 (a : (List Timpl_Seg.V)) (c : Int) : (List Tspec_l5Bit.V) → Ex × St := fun d => ((.exit 2), sT 57 [(0, dD (.sl Timpl_Seg) a), (3, .ref 0), (4, dI c)] [.row 150 .deep Tspec_l5Bit d])
def S52_3 (a : (List Timpl_Seg.V)) (c : Int) (e : Int) (g : (List Tspec_l5Bit.V)) : St := sT 57 [(0, dD (.sl Timpl_Seg) a), (3, .ref 0), (4, dI c), (5, dI e)] [.row 150 .deep Tspec_l5Bit g]
def O52_3 (a : (List Timpl_Seg.V)) (c : Int) (e : Int) (g : (List Tspec_l5Bit.V)) : (List Tspec_l5Bit.V) → Ex × St := fun i => (.normal, sT 57 [(0, dD (.sl Timpl_Seg) a), (3, .ref 0), (4, dI c), (5, dI e)] [.row 150 .deep Tspec_l5Bit i])
def spec_l5Bits_l3 (a : (List Timpl_Seg.V)) (c : Int) (e : Int) (g : (List Tspec_l5Bit.V)) : Option (List Tspec_l5Bit.V) :=
 if (0 : Int) ≤ c ∧ c < (a.length : Int) then
 bif (decide ((a.getD c.toNat (Ty.zero Timpl_Seg)).1 < 0)) then
 if (0 : Int) ≤ c ∧ c < (a.length : Int) then
 (spec_l1Bit (a.getD c.toNat (Ty.zero Timpl_Seg)).2.2.2.1 e).bind fun j =>
 if (g.length + ([((-1), (IntKind.i64.wrap j), ())] : List Tspec_l5Bit.V).length) * 16 ≤ 140737488355328 then
 some (g ++ ([((-1), (IntKind.i64.wrap j), ())] : List Tspec_l5Bit.V))
 else none
 else none
 else
 if (0 : Int) ≤ c ∧ c < (a.length : Int) then
 if (0 : Int) ≤ c ∧ c < (a.length : Int) then
 if (g.length + ([((a.getD c.toNat (Ty.zero Timpl_Seg)).1, (IntKind.i64.wrap ((a.getD c.toNat (Ty.zero Timpl_Seg)).2.1 + e)), ())] : List Tspec_l5Bit.V).length) * 16 ≤ 140737488355328 then
 some (g ++ ([((a.getD c.toNat (Ty.zero Timpl_Seg)).1, (IntKind.i64.wrap ((a.getD c.toNat (Ty.zero Timpl_Seg)).2.1 + e)), ())] : List Tspec_l5Bit.V))
 else none
 else none
 else none
 else none
theorem T52_3 (a : (List Timpl_Seg.V)) (c : Int) (e : Int) (g : (List Tspec_l5Bit.V)) : JnOk E52 0 7 (sub (sub (code Tryz.f88) [1, 1, 0, 1, 0, 0]) [1, 0, 0, 1, 0, 0]) [1, 0] (S52_3 a c e g) (spec_l5Bits_l3 a c e g) (O52_3 a c e g) := by
  unfold JnOk
  simp only [spec_l5Bits_l3, mC, mI, mN, mB, mE, mM]
  kernel_rfl
def spec_l5Bits_l4_g (a : (List Timpl_Seg.V)) (c : Int) (e : Int) (g : (List Tspec_l5Bit.V)) : Option ((Int × (List Tspec_l5Bit.V)) ⊕ (List Tspec_l5Bit.V)) :=
 if (0 : Int) ≤ c ∧ c < (a.length : Int) then
 bif (decide (e < (a.getD c.toNat (Ty.zero Timpl_Seg)).2.2.1)) then
 (spec_l5Bits_l3 a c e g).bind fun i =>
 some (.inl ((IntKind.i64.wrap (e + 1)), i))
 else
 some (.inr g)
 else none
def spec_l5Bits_l4_r (a : (List Timpl_Seg.V)) (c : Int) (z_ : (Int × (List Tspec_l5Bit.V))) := spec_l5Bits_l4_g a c z_.1 z_.2
def spec_l5Bits_l4 (a : (List Timpl_Seg.V)) (c : Int) (e : Int) (g : (List Tspec_l5Bit.V)) := fix (spec_l5Bits_l4_r a c) (e, g)
theorem T52_4 (a : (List Timpl_Seg.V)) (c : Int) : LpOk E52 0 6 (sub (code Tryz.f88) [1, 1, 0, 1, 0, 0]) [1, 0, 0, 1, 0] (S52_4 a c) (spec_l5Bits_l4_r a c) (O52_4 a c) := by
  intro _
  simp only [spec_l5Bits_l4_r, spec_l5Bits_l4_g, mC, mI, mN, mB, mE, mM]
  simp (disch := refine sI ?_ <;> (repeat' refine sA ?_ ?_) <;> intro _ <;> kernel_rfl) only [jn_ok (T52_3 _ _ _ _) (K := stepK 0 (E52.hd 6) (E52.ot 6))]
  kernel_rfl
def spec_l5Bits_l5_g (a : (List Timpl_Seg.V)) (c : Int) (k : (List Tspec_l5Bit.V)) : Option ((Int × (List Tspec_l5Bit.V)) ⊕ (List Tspec_l5Bit.V)) :=
 bif (decide (c < (a.length : Int))) then
 (spec_l5Bits_l4 a c 0 k).bind fun d =>
 some (.inl ((IntKind.i64.wrap (c + 1)), d))
 else
 some (.inr k)
def spec_l5Bits_l5_r (a : (List Timpl_Seg.V)) (z_ : (Int × (List Tspec_l5Bit.V))) := spec_l5Bits_l5_g a z_.1 z_.2
def spec_l5Bits_l5 (a : (List Timpl_Seg.V)) (c : Int) (k : (List Tspec_l5Bit.V)) := fix (spec_l5Bits_l5_r a) (c, k)
theorem T52_5 (a : (List Timpl_Seg.V)) : LpOk E52 0 3 (code Tryz.f88) [1, 1, 0, 1, 0] (S52_5 a) (spec_l5Bits_l5_r a) (O52_5 a) := by
  intro _
  simp only [spec_l5Bits_l5_r, spec_l5Bits_l5_g, mC, mI, mN, mB, mE, mM]
  simp (disch := refine sI ?_ <;> (repeat' refine sA ?_ ?_) <;> intro _ <;> kernel_rfl) only [spec_l5Bits_l4, lp_ok (T52_4 _ _) (K := stepK 0 (E52.hd 3) (E52.ot 3))]
  kernel_rfl
def spec_l5Bits (a : (List Timpl_Seg.V)) : Option (List Tspec_l5Bit.V) :=
 (spec_l5Bits_l5 a 0 ([] : List Tspec_l5Bit.V)).bind fun b =>
 some b
theorem U52 (R : Type) (a : (List Timpl_Seg.V)) (K : AV → List Blk → Option R) : runF E52 Tryz.f88 R [dD (.sl Timpl_Seg) a] [] K = (spec_l5Bits a).bind fun r => K (.ref 0) [.row 150 .deep Tspec_l5Bit r] := by
  simp only [spec_l5Bits, bC, bI, bN, bE, bA, bS, bO, bM]
  simp (disch := refine sI ?_ <;> (repeat' refine sA ?_ ?_) <;> intro _ <;> kernel_rfl) only [spec_l5Bits_l5, lp_ok (T52_5 _) (K := finK E52 Tryz.f88 0 R K)]
  kernel_rfl
def c88 : Va.Callee := brC [.d (.sl Timpl_Seg)] [⟨[.dat [] (.sl Timpl_Seg)], [], (List Tspec_l5Bit.V), fun p => spec_l5Bits p.1.1, fun r => (.ref 0, [.row 150 .deep Tspec_l5Bit r])⟩]
theorem c88_snd : SoundC Tryz.prog 88 c88 := br_snd (fn := Tryz.f88) (by kernel_rfl) (by kernel_rfl) (by kernel_rfl) ⟨⟨E52, ⟨⟨tabok, fns_ok ⟨c133_snd, trivial⟩⟩, mixed⟩, fun p R K => U52 R p.1.1 K⟩, trivial⟩
abbrev E53 : Env := ⟨tab, lookH [(88, c88), (112, c112), (115, c115)], { deep := true, joins := [(5, { live := [2, 3, 10, 30], frz := [(10, false, (.sl Tspec_l5Bit))] })], ents := [(5, [2, 3, 10])], res := [(0, .row [] 135 Timpl_Seg true)] }⟩
def S53_0 (a : Int) (b : Int) (c : (List Tspec_l5Bit.V)) : St := sT 40 [(2, dI a), (3, dI b), (10, .ref 0)] [.row 150 .deep Tspec_l5Bit c]
def O53_0 (a : Int) (b : Int) (c : (List Tspec_l5Bit.V)) (m0 : Bool) : Ex × St := (.normal, sT 40 [(2, dI a), (3, dI b), (10, dD (.sl Tspec_l5Bit) c), (30, dB m0)] [])
theorem T53_0 (a : Int) (b : Int) (c : (List Tspec_l5Bit.V)) : jnS E53 0 5 (code Tryz.f69) [1, 1, 1, 0, 0] (S53_0 a b c) = some (O53_0 a b c ((decide (b < 0)) || ((decide (a < b)) || (decide (a ≥ (c.length : Int)))))) := by
  have h0 : jnS E53 0 5 (code Tryz.f69) [1, 1, 1, 0, 0] (S53_0 a b c) =
 bif (decide (b < 0)) then
 some (O53_0 a b c true)
 else
 bif (decide (a < b)) then
 some (O53_0 a b c true)
 else
 some (O53_0 a b c (decide (a ≥ (c.length : Int)))) := by kernel_rfl
  rw [h0]
  cases h1 : (decide (b < 0))
  · cases h2 : (decide (a < b))
    · first | rfl | kernel_rfl
    · first | rfl | kernel_rfl
  · first | rfl | kernel_rfl
def spec_FlatPart (d : (List Timpl_Decl.V)) (e : (List Timpl_Seg.V)) (a : Int) (b : Int) : Option (Bool × (List Timpl_Seg.V)) :=
 (spec_FlatOk d e).bind fun g =>
 bif (!g) then
 some (false, ([] : List Timpl_Seg.V))
 else
 (spec_l5Bits e).bind fun c =>
 mkr (S53_0 a b c) (
 bif ((decide (b < 0)) || ((decide (a < b)) || (decide (a ≥ (c.length : Int))))) then
 some (false, ([] : List Timpl_Seg.V))
 else
 if (0 : Int) ≤ b ∧ b ≤ (IntKind.i64.wrap (a + 1)) ∧ (IntKind.i64.wrap (a + 1)) ≤ (c.length : Int) then
 (spec_l5Form ((c.take (IntKind.i64.wrap (a + 1)).toNat).drop b.toNat)).bind fun i =>
 some (i.1, i.2)
 else none)
theorem U53 (R : Type) (d : (List Timpl_Decl.V)) (e : (List Timpl_Seg.V)) (a : Int) (b : Int) (K : AV → List Blk → Option R) : runF E53 Tryz.f69 R [dD (.sl Timpl_Decl) d, dD (.sl Timpl_Seg) e, dI a, dI b] [] K = (spec_FlatPart d e a b).bind fun r => K (.cons (.ref 0) (.cons (dB r.1) .nil)) [.row 135 .deep Timpl_Seg r.2] := by
  simp only [spec_FlatPart, bC, bI, bN, bE, bA, bS, bO, bM]
  simp (disch := refine sI ?_ <;> (repeat' refine sA ?_ ?_) <;> intro _ <;> kernel_rfl) only [in_ok (T53_0 _ _ _) (K := finK E53 Tryz.f69 0 R K)]
  kernel_rfl
def c69 : Va.Callee := brC [.d (.sl Timpl_Decl), .d (.sl Timpl_Seg), .d (.int .i64), .d (.int .i64)] [⟨[.dat [] (.sl Timpl_Decl), .dat [] (.sl Timpl_Seg), .dat [] (.int .i64), .dat [] (.int .i64)], [], (Bool × (List Timpl_Seg.V)), fun p => spec_FlatPart p.1.1 p.1.2.1 p.1.2.2.1 p.1.2.2.2.1, fun r => (.cons (.ref 0) (.cons (dB r.1) .nil), [.row 135 .deep Timpl_Seg r.2])⟩]
theorem c69_snd : SoundC Tryz.prog 69 c69 := br_snd (fn := Tryz.f69) (by kernel_rfl) (by kernel_rfl) (by kernel_rfl) ⟨⟨E53, ⟨⟨tabok, fns_ok ⟨c88_snd, c112_snd, c115_snd, trivial⟩⟩, mixed⟩, fun p R K => U53 R p.1.1 p.1.2.1 p.1.2.2.1 p.1.2.2.2.1 K⟩, trivial⟩
abbrev E54 : Env := ⟨tab, lookH [(88, c88), (112, c112), (115, c115)], { deep := true, joins := [(2, { live := [1, 2, 20] })], ents := [(2, [0, 1, 2])], res := [(0, .row [] 135 Timpl_Seg true)] }⟩
def S54_0 (a : (List Timpl_Decl.V)) (b : (List Timpl_Seg.V)) (c : (List Timpl_Seg.V)) : St := sT 40 [(0, dD (.sl Timpl_Decl) a), (1, dD (.sl Timpl_Seg) b), (2, dD (.sl Timpl_Seg) c)] []
def O54_0 (a : (List Timpl_Decl.V)) (b : (List Timpl_Seg.V)) (c : (List Timpl_Seg.V)) : Bool → Ex × St := fun d => (.normal, sT 40 [(1, dD (.sl Timpl_Seg) b), (2, dD (.sl Timpl_Seg) c), (20, dB d)] [])
def spec_FlatJoin_l0 (a : (List Timpl_Decl.V)) (b : (List Timpl_Seg.V)) (c : (List Timpl_Seg.V)) : Option Bool :=
 (spec_FlatOk a b).bind fun e =>
 bif (!e) then
 some true
 else
 (spec_FlatOk a c).bind fun g =>
 some (!g)
theorem T54_0 (a : (List Timpl_Decl.V)) (b : (List Timpl_Seg.V)) (c : (List Timpl_Seg.V)) : JnOk E54 0 2 (code Tryz.f70) [1, 0, 0] (S54_0 a b c) (spec_FlatJoin_l0 a b c) (O54_0 a b c) := by
  unfold JnOk
  simp only [spec_FlatJoin_l0, mC, mI, mN, mB, mE, mM]
  kernel_rfl
def spec_FlatJoin (a : (List Timpl_Decl.V)) (b : (List Timpl_Seg.V)) (c : (List Timpl_Seg.V)) : Option (Bool × (List Timpl_Seg.V)) :=
 (spec_FlatJoin_l0 a b c).bind fun d =>
 bif d then
 some (false, ([] : List Timpl_Seg.V))
 else
 (spec_l5Bits c).bind fun i =>
 (spec_l5Bits b).bind fun j =>
 if (i.length + j.length) * 16 ≤ 140737488355328 then
 bif (decide (((i ++ j).length : Int) > 4096)) then
 some (false, ([] : List Timpl_Seg.V))
 else
 (spec_l5Form (i ++ j)).bind fun k =>
 bif (!k.1) then
 some (false, ([] : List Timpl_Seg.V))
 else
 some (true, k.2)
 else none
theorem U54 (R : Type) (a : (List Timpl_Decl.V)) (b : (List Timpl_Seg.V)) (c : (List Timpl_Seg.V)) (K : AV → List Blk → Option R) : runF E54 Tryz.f70 R [dD (.sl Timpl_Decl) a, dD (.sl Timpl_Seg) b, dD (.sl Timpl_Seg) c] [] K = (spec_FlatJoin a b c).bind fun r => K (.cons (.ref 0) (.cons (dB r.1) .nil)) [.row 135 .deep Timpl_Seg r.2] := by
  simp only [spec_FlatJoin, bC, bI, bN, bE, bA, bS, bO, bM]
  simp (disch := refine sI ?_ <;> (repeat' refine sA ?_ ?_) <;> intro _ <;> kernel_rfl) only [jn_ok (T54_0 _ _ _) (K := finK E54 Tryz.f70 0 R K)]
  kernel_rfl
def c70 : Va.Callee := brC [.d (.sl Timpl_Decl), .d (.sl Timpl_Seg), .d (.sl Timpl_Seg)] [⟨[.dat [] (.sl Timpl_Decl), .dat [] (.sl Timpl_Seg), .dat [] (.sl Timpl_Seg)], [], (Bool × (List Timpl_Seg.V)), fun p => spec_FlatJoin p.1.1 p.1.2.1 p.1.2.2.1, fun r => (.cons (.ref 0) (.cons (dB r.1) .nil), [.row 135 .deep Timpl_Seg r.2])⟩]
theorem c70_snd : SoundC Tryz.prog 70 c70 := br_snd (fn := Tryz.f70) (by kernel_rfl) (by kernel_rfl) (by kernel_rfl) ⟨⟨E54, ⟨⟨tabok, fns_ok ⟨c88_snd, c112_snd, c115_snd, trivial⟩⟩, mixed⟩, fun p R K => U54 R p.1.1 p.1.2.1 p.1.2.2.1 K⟩, trivial⟩
abbrev E55 : Env := ⟨tab, lookH [(48, c48), (62, c62), (63, c63), (64, c64), (65, c65), (66, c66), (67, c67), (68, c68), (69, c69), (70, c70)], { deep := true, joins := [(14, { live := [0, 2, 7, 8, 10, 79] }), (37, { live := [8, 9, 10, 14, 15], pre := [(8, true, .row [0] 135 Timpl_Seg true), (8, true, .row [1] 135 Timpl_Seg true), (10, true, .row [0] 135 Timpl_Seg true), (10, true, .row [1] 135 Timpl_Seg true)] }), (38, { live := [8, 10, 228] })], draws := [(32, { live := [0, 2, 7, 8, 10, 14] }), (33, { live := [8, 10, 14, 15] }), (35, { live := [0, 2, 7, 8, 10, 14] }), (36, { live := [8, 10, 14, 15] })], ents := [(14, [0, 2, 7, 8, 10, 11, 12]), (37, [0, 2, 7, 8, 10, 14, 15]), (38, [8, 10, 14, 15])], dents := [(32, [0, 2, 7, 8, 10]), (33, [0, 2, 7, 8, 10, 14]), (35, [0, 2, 7, 8, 10]), (36, [0, 2, 7, 8, 10, 14])], res := [(0, .row [0] 135 Timpl_Seg true), (0, .row [1] 135 Timpl_Seg true)] }⟩
def S55_6 (a : (Bool × Bool × (List Timpl_Seg.V) × (List Timpl_Seg.V))) : St := sT 231 [(8, .ptr 0 0 [] 0), (10, .ptr 1 0 [] 0), (14, dB a.1), (15, dB a.2.1)] [.box (.pr (.ref 2) (.pr (.ref 3) .u)), .box (.pr (.ref 4) (.pr (.ref 5) .u)), .row 135 .deep Timpl_Seg ([] : List Timpl_Seg.V), .row 135 .deep Timpl_Seg ([] : List Timpl_Seg.V), .row 135 .deep Timpl_Seg a.2.2.1, .row 135 .deep Timpl_Seg a.2.2.2]
def O55_6 (a : (Bool × Bool × (List Timpl_Seg.V) × (List Timpl_Seg.V))) (m0 : Bool) : Ex × St := (.normal, sT 231 [(8, .ptr 0 0 [] 0), (10, .ptr 1 0 [] 0), (228, dB m0)] [.box (.pr (.ref 2) (.pr (.ref 3) .u)), .box (.pr (.ref 4) (.pr (.ref 5) .u)), .row 135 .deep Timpl_Seg ([] : List Timpl_Seg.V), .row 135 .deep Timpl_Seg ([] : List Timpl_Seg.V), .row 135 .deep Timpl_Seg a.2.2.1, .row 135 .deep Timpl_Seg a.2.2.2])
theorem T55_6 (a : (Bool × Bool × (List Timpl_Seg.V) × (List Timpl_Seg.V))) : jnS E55 0 38 (code Tryz.f32) [1, 1, 1, 1, 1, 1, 1, 1, 1, 1, 0, 0] (S55_6 a) = some (O55_6 a ((!a.1) || (!a.2.1))) := by
  have h0 : jnS E55 0 38 (code Tryz.f32) [1, 1, 1, 1, 1, 1, 1, 1, 1, 1, 0, 0] (S55_6 a) =
 bif (!a.1) then
 some (O55_6 a true)
 else
 some (O55_6 a (!a.2.1)) := by kernel_rfl
  rw [h0]
  cases h1 : (!a.1)
  · first | rfl | kernel_rfl
  · first | rfl | kernel_rfl
def S55_5 (b : (List Timpl_Decl.V)) (c : (List Timpl_Claim.V)) (d : Timpl_PStep.V) : St := sT 231 [(0, dD (.sl Timpl_Decl) b), (2, dD (.sl Timpl_Claim) c), (7, .ptr 0 0 [] 0), (8, .ptr 1 0 [] 0), (10, .ptr 2 0 [] 0), (14, dB true), (15, dB true)] [.box (dD Timpl_PStep d), .box (.pr .zs (.pr .zs .u)), .box (.pr .zs (.pr .zs .u))]
def O55_5 (b : (List Timpl_Decl.V)) (c : (List Timpl_Claim.V)) (d : Timpl_PStep.V) : ((Bool × (List Timpl_Seg.V) × (List Timpl_Seg.V)) ⊕ ((Bool × Bool × (List Timpl_Seg.V) × (List Timpl_Seg.V)) ⊕ Unit)) → Ex × St := Sum.elim (fun e => (.ret, sT 231 [(8, .ptr 0 0 [] 0), (9, dI 4), (10, .ptr 1 0 [] 0), (14, dB e.1), (15, dB true)] [.box (.pr (.ref 2) (.pr (.ref 3) .u)), .box (.pr (.ref 2) (.pr (.ref 3) .u)), .row 135 .deep Timpl_Seg e.2.1, .row 135 .deep Timpl_Seg e.2.2])) (Sum.elim (fun a => (.normal, sT 231 [(8, .ptr 0 0 [] 0), (10, .ptr 1 0 [] 0), (14, dB a.1), (15, dB a.2.1)] [.box (.pr (.ref 2) (.pr (.ref 3) .u)), .box (.pr (.ref 4) (.pr (.ref 5) .u)), .row 135 .deep Timpl_Seg ([] : List Timpl_Seg.V), .row 135 .deep Timpl_Seg ([] : List Timpl_Seg.V), .row 135 .deep Timpl_Seg a.2.2.1, .row 135 .deep Timpl_Seg a.2.2.2])) (fun g => (.ret, sT 231 [(8, .ptr 0 0 [] 0), (9, dI 5), (10, .ptr 1 0 [] 0), (14, dB true), (15, dB true)] [.box (.pr (.ref 2) (.pr (.ref 3) .u)), .box (.pr (.ref 4) (.pr (.ref 5) .u)), .row 135 .deep Timpl_Seg ([] : List Timpl_Seg.V), .row 135 .deep Timpl_Seg ([] : List Timpl_Seg.V), .row 135 .deep Timpl_Seg ([] : List Timpl_Seg.V), .row 135 .deep Timpl_Seg ([] : List Timpl_Seg.V)])))
def S55_4 (b : (List Timpl_Decl.V)) (c : (List Timpl_Claim.V)) (d : Timpl_PStep.V) (i : Bool) (j : (List Timpl_Seg.V)) : St := sT 231 [(0, dD (.sl Timpl_Decl) b), (2, dD (.sl Timpl_Claim) c), (7, .ptr 0 0 [] 0), (8, .ptr 1 0 [] 0), (10, .ptr 2 0 [] 0), (14, dB i)] [.box (dD Timpl_PStep d), .box (.pr .zs (.pr .zs .u)), .box (.pr (.ref 3) (.pr .zs .u)), .row 135 .deep Timpl_Seg j]
def O55_4 (b : (List Timpl_Decl.V)) (c : (List Timpl_Claim.V)) (d : Timpl_PStep.V) (i : Bool) (j : (List Timpl_Seg.V)) : (Bool × (List Timpl_Seg.V)) → St := fun k => sT 231 [(8, .ptr 0 0 [] 0), (10, .ptr 1 0 [] 0), (14, dB i), (15, dB k.1)] [.box (.pr .zs (.pr .zs .u)), .box (.pr (.ref 2) (.pr (.ref 3) .u)), .row 135 .deep Timpl_Seg j, .row 135 .deep Timpl_Seg k.2]
def spec_l14Step_l4 (b : (List Timpl_Decl.V)) (c : (List Timpl_Claim.V)) (d : Timpl_PStep.V) (i : Bool) (j : (List Timpl_Seg.V)) : Option (Bool × (List Timpl_Seg.V)) :=
 if (0 : Int) ≤ d.2.1 ∧ d.2.1 < (c.length : Int) then
 if (0 : Int) ≤ d.2.2.1 ∧ d.2.2.1 < (c.length : Int) then
 (spec_FlatJoin b (c.getD d.2.1.toNat (Ty.zero Timpl_Claim)).2.1 (c.getD d.2.2.1.toNat (Ty.zero Timpl_Claim)).2.1).bind fun l =>
 some (l.1, l.2)
 else none
 else none
theorem T55_4 (b : (List Timpl_Decl.V)) (c : (List Timpl_Claim.V)) (d : Timpl_PStep.V) (i : Bool) (j : (List Timpl_Seg.V)) : DrOk E55 0 36 (sub (code Tryz.f32) [1, 1, 1, 1, 1, 1, 1, 1, 1, 0]) [1, 0, 1, 1, 1, 1, 1, 1, 1, 1, 1, 0, 1] (S55_4 b c d i j) (spec_l14Step_l4 b c d i j) (O55_4 b c d i j) := by
  unfold DrOk
  have h : drS E55 0 36 (sub (code Tryz.f32) [1, 1, 1, 1, 1, 1, 1, 1, 1, 0]) [1, 0, 1, 1, 1, 1, 1, 1, 1, 1, 1, 0, 1] (S55_4 b c d i j) =
 if (0 : Int) ≤ d.2.1 ∧ d.2.1 < (c.length : Int) then
 if (0 : Int) ≤ d.2.2.1 ∧ d.2.2.1 < (c.length : Int) then
 (spec_FlatJoin b (c.getD d.2.1.toNat (Ty.zero Timpl_Claim)).2.1 (c.getD d.2.2.1.toNat (Ty.zero Timpl_Claim)).2.1).bind fun l =>
 (((if (0 : Int) ≤ d.2.1 ∧ d.2.1 < (c.length : Int) then
 (if (0 : Int) ≤ d.2.2.1 ∧ d.2.2.1 < (c.length : Int) then
(spec_FlatJoin b (c.getD d.2.1.toNat (Ty.zero Timpl_Claim)).2.1 (c.getD d.2.2.1.toNat (Ty.zero Timpl_Claim)).2.1).bind fun n =>
 eqSt (O55_4 b c d i j (n.1, n.2)) (O55_4 b c d i j (l.1, l.2))
 else none).bind fun _ =>
 if (0 : Int) ≤ d.2.2.1 ∧ d.2.2.1 < (c.length : Int) then
 ((spec_FlatJoin b (c.getD d.2.1.toNat (Ty.zero Timpl_Claim)).2.1 (c.getD d.2.2.1.toNat (Ty.zero Timpl_Claim)).2.1).bind fun o =>
 eqSt (O55_4 b c d i j (o.1, o.2)) (O55_4 b c d i j (l.1, l.2))).bind fun _ =>
 (spec_FlatJoin b (c.getD d.2.1.toNat (Ty.zero Timpl_Claim)).2.1 (c.getD d.2.2.1.toNat (Ty.zero Timpl_Claim)).2.1).bind fun q =>
 eqSt (O55_4 b c d i j (q.1, q.2)) (O55_4 b c d i j (l.1, l.2))
 else none
 else none).bind fun _ =>
 if (0 : Int) ≤ d.2.2.1 ∧ d.2.2.1 < (c.length : Int) then
 (if (0 : Int) ≤ d.2.1 ∧ d.2.1 < (c.length : Int) then
 ((spec_FlatJoin b (c.getD d.2.1.toNat (Ty.zero Timpl_Claim)).2.1 (c.getD d.2.2.1.toNat (Ty.zero Timpl_Claim)).2.1).bind fun s =>
 eqSt (O55_4 b c d i j (s.1, s.2)) (O55_4 b c d i j (l.1, l.2))).bind fun _ =>
 (spec_FlatJoin b (c.getD d.2.1.toNat (Ty.zero Timpl_Claim)).2.1 (c.getD d.2.2.1.toNat (Ty.zero Timpl_Claim)).2.1).bind fun t =>
 eqSt (O55_4 b c d i j (t.1, t.2)) (O55_4 b c d i j (l.1, l.2))
 else none).bind fun _ =>
 if (0 : Int) ≤ d.2.1 ∧ d.2.1 < (c.length : Int) then
(spec_FlatJoin b (c.getD d.2.1.toNat (Ty.zero Timpl_Claim)).2.1 (c.getD d.2.2.1.toNat (Ty.zero Timpl_Claim)).2.1).bind fun u =>
 eqSt (O55_4 b c d i j (u.1, u.2)) (O55_4 b c d i j (l.1, l.2))
 else none
 else none).bind fun _ => some (O55_4 b c d i j (l.1, l.2)))
 else none
 else none := by kernel_rfl
  rw [h]
  unfold spec_l14Step_l4
  simp only [mC, mI, mN, mB, mE, mM, mS, mO]
  clear h
  by_cases hc0 : (0 : Int) ≤ d.2.1 ∧ d.2.1 < (c.length : Int)
  · rw [if_pos hc0, if_pos hc0]
    by_cases hc1 : (0 : Int) ≤ d.2.2.1 ∧ d.2.2.1 < (c.length : Int)
    · rw [if_pos hc1, if_pos hc1]
      cases hc2 : spec_FlatJoin b (c.getD d.2.1.toNat (Ty.zero Timpl_Claim)).2.1 (c.getD d.2.2.1.toNat (Ty.zero Timpl_Claim)).2.1 with
      | none => rfl
      | some l =>
        simp only [Option.bind_some]
        simp only [if_pos hc0, if_pos hc1, hc2, Option.bind_some, eqSt_self]
    · simp only [if_pos hc0, if_neg hc1]
  · simp only [if_neg hc0]
def S55_3 (b : (List Timpl_Decl.V)) (c : (List Timpl_Claim.V)) (d : Timpl_PStep.V) : St := sT 231 [(0, dD (.sl Timpl_Decl) b), (2, dD (.sl Timpl_Claim) c), (7, .ptr 0 0 [] 0), (8, .ptr 1 0 [] 0), (10, .ptr 2 0 [] 0)] [.box (dD Timpl_PStep d), .box (.pr .zs (.pr .zs .u)), .box (.pr .zs (.pr .zs .u))]
def O55_3 (b : (List Timpl_Decl.V)) (c : (List Timpl_Claim.V)) (d : Timpl_PStep.V) : (Bool × (List Timpl_Seg.V)) → St := fun v => sT 231 [(0, dD (.sl Timpl_Decl) b), (2, dD (.sl Timpl_Claim) c), (7, .ptr 0 0 [] 0), (8, .ptr 1 0 [] 0), (10, .ptr 2 0 [] 0), (14, dB v.1)] [.box (dD Timpl_PStep d), .box (.pr .zs (.pr .zs .u)), .box (.pr (.ref 3) (.pr .zs .u)), .row 135 .deep Timpl_Seg v.2]
def spec_l14Step_l3 (b : (List Timpl_Decl.V)) (c : (List Timpl_Claim.V)) (d : Timpl_PStep.V) : Option (Bool × (List Timpl_Seg.V)) :=
 if (0 : Int) ≤ d.2.1 ∧ d.2.1 < (c.length : Int) then
 if (0 : Int) ≤ d.2.2.1 ∧ d.2.2.1 < (c.length : Int) then
 (spec_FlatJoin b (c.getD d.2.1.toNat (Ty.zero Timpl_Claim)).1 (c.getD d.2.2.1.toNat (Ty.zero Timpl_Claim)).1).bind fun w =>
 some (w.1, w.2)
 else none
 else none
theorem T55_3 (b : (List Timpl_Decl.V)) (c : (List Timpl_Claim.V)) (d : Timpl_PStep.V) : DrOk E55 0 35 (sub (code Tryz.f32) [1, 1, 1, 1, 1, 1, 1, 1, 1, 0]) [1, 0, 1, 1, 1, 1, 1, 1, 1, 1, 1, 0, 0] (S55_3 b c d) (spec_l14Step_l3 b c d) (O55_3 b c d) := by
  unfold DrOk
  have h : drS E55 0 35 (sub (code Tryz.f32) [1, 1, 1, 1, 1, 1, 1, 1, 1, 0]) [1, 0, 1, 1, 1, 1, 1, 1, 1, 1, 1, 0, 0] (S55_3 b c d) =
 if (0 : Int) ≤ d.2.1 ∧ d.2.1 < (c.length : Int) then
 if (0 : Int) ≤ d.2.2.1 ∧ d.2.2.1 < (c.length : Int) then
 (spec_FlatJoin b (c.getD d.2.1.toNat (Ty.zero Timpl_Claim)).1 (c.getD d.2.2.1.toNat (Ty.zero Timpl_Claim)).1).bind fun w =>
 (((if (0 : Int) ≤ d.2.1 ∧ d.2.1 < (c.length : Int) then
 (if (0 : Int) ≤ d.2.2.1 ∧ d.2.2.1 < (c.length : Int) then
(spec_FlatJoin b (c.getD d.2.1.toNat (Ty.zero Timpl_Claim)).1 (c.getD d.2.2.1.toNat (Ty.zero Timpl_Claim)).1).bind fun x =>
 eqSt (O55_3 b c d (x.1, x.2)) (O55_3 b c d (w.1, w.2))
 else none).bind fun _ =>
 if (0 : Int) ≤ d.2.2.1 ∧ d.2.2.1 < (c.length : Int) then
 ((spec_FlatJoin b (c.getD d.2.1.toNat (Ty.zero Timpl_Claim)).1 (c.getD d.2.2.1.toNat (Ty.zero Timpl_Claim)).1).bind fun y =>
 eqSt (O55_3 b c d (y.1, y.2)) (O55_3 b c d (w.1, w.2))).bind fun _ =>
 (spec_FlatJoin b (c.getD d.2.1.toNat (Ty.zero Timpl_Claim)).1 (c.getD d.2.2.1.toNat (Ty.zero Timpl_Claim)).1).bind fun a1 =>
 eqSt (O55_3 b c d (a1.1, a1.2)) (O55_3 b c d (w.1, w.2))
 else none
 else none).bind fun _ =>
 if (0 : Int) ≤ d.2.2.1 ∧ d.2.2.1 < (c.length : Int) then
 (if (0 : Int) ≤ d.2.1 ∧ d.2.1 < (c.length : Int) then
 ((spec_FlatJoin b (c.getD d.2.1.toNat (Ty.zero Timpl_Claim)).1 (c.getD d.2.2.1.toNat (Ty.zero Timpl_Claim)).1).bind fun b1 =>
 eqSt (O55_3 b c d (b1.1, b1.2)) (O55_3 b c d (w.1, w.2))).bind fun _ =>
 (spec_FlatJoin b (c.getD d.2.1.toNat (Ty.zero Timpl_Claim)).1 (c.getD d.2.2.1.toNat (Ty.zero Timpl_Claim)).1).bind fun c1 =>
 eqSt (O55_3 b c d (c1.1, c1.2)) (O55_3 b c d (w.1, w.2))
 else none).bind fun _ =>
 if (0 : Int) ≤ d.2.1 ∧ d.2.1 < (c.length : Int) then
(spec_FlatJoin b (c.getD d.2.1.toNat (Ty.zero Timpl_Claim)).1 (c.getD d.2.2.1.toNat (Ty.zero Timpl_Claim)).1).bind fun d1 =>
 eqSt (O55_3 b c d (d1.1, d1.2)) (O55_3 b c d (w.1, w.2))
 else none
 else none).bind fun _ => some (O55_3 b c d (w.1, w.2)))
 else none
 else none := by kernel_rfl
  rw [h]
  unfold spec_l14Step_l3
  simp only [mC, mI, mN, mB, mE, mM, mS, mO]
  clear h
  by_cases hc0 : (0 : Int) ≤ d.2.1 ∧ d.2.1 < (c.length : Int)
  · rw [if_pos hc0, if_pos hc0]
    by_cases hc1 : (0 : Int) ≤ d.2.2.1 ∧ d.2.2.1 < (c.length : Int)
    · rw [if_pos hc1, if_pos hc1]
      cases hc2 : spec_FlatJoin b (c.getD d.2.1.toNat (Ty.zero Timpl_Claim)).1 (c.getD d.2.2.1.toNat (Ty.zero Timpl_Claim)).1 with
      | none => rfl
      | some w =>
        simp only [Option.bind_some]
        simp only [if_pos hc0, if_pos hc1, hc2, Option.bind_some, eqSt_self]
    · simp only [if_pos hc0, if_neg hc1]
  · simp only [if_neg hc0]
def S55_2 (b : (List Timpl_Decl.V)) (c : (List Timpl_Claim.V)) (d : Timpl_PStep.V) (e1 : Bool) (g1 : (List Timpl_Seg.V)) : St := sT 231 [(0, dD (.sl Timpl_Decl) b), (2, dD (.sl Timpl_Claim) c), (7, .ptr 0 0 [] 0), (8, .ptr 1 0 [] 0), (10, .ptr 2 0 [] 0), (14, dB e1)] [.box (dD Timpl_PStep d), .box (.pr .zs (.pr .zs .u)), .box (.pr (.ref 3) (.pr .zs .u)), .row 135 .deep Timpl_Seg g1]
def O55_2 (b : (List Timpl_Decl.V)) (c : (List Timpl_Claim.V)) (d : Timpl_PStep.V) (e1 : Bool) (g1 : (List Timpl_Seg.V)) : (Bool × (List Timpl_Seg.V)) → St := fun i1 => sT 231 [(8, .ptr 0 0 [] 0), (10, .ptr 1 0 [] 0), (14, dB e1), (15, dB i1.1)] [.box (.pr .zs (.pr .zs .u)), .box (.pr (.ref 2) (.pr (.ref 3) .u)), .row 135 .deep Timpl_Seg g1, .row 135 .deep Timpl_Seg i1.2]
def spec_l14Step_l2 (b : (List Timpl_Decl.V)) (c : (List Timpl_Claim.V)) (d : Timpl_PStep.V) (e1 : Bool) (g1 : (List Timpl_Seg.V)) : Option (Bool × (List Timpl_Seg.V)) :=
 if (0 : Int) ≤ d.2.1 ∧ d.2.1 < (c.length : Int) then
 (spec_FlatPart b (c.getD d.2.1.toNat (Ty.zero Timpl_Claim)).2.1 d.2.2.2.1 d.2.2.2.2.1).bind fun j1 =>
 some (j1.1, j1.2)
 else none
theorem T55_2 (b : (List Timpl_Decl.V)) (c : (List Timpl_Claim.V)) (d : Timpl_PStep.V) (e1 : Bool) (g1 : (List Timpl_Seg.V)) : DrOk E55 0 33 (sub (code Tryz.f32) [1, 1, 1, 1, 1, 1, 1, 1, 1, 0]) [1, 0, 1, 1, 1, 1, 1, 1, 1, 0, 1] (S55_2 b c d e1 g1) (spec_l14Step_l2 b c d e1 g1) (O55_2 b c d e1 g1) := by
  unfold DrOk
  have h : drS E55 0 33 (sub (code Tryz.f32) [1, 1, 1, 1, 1, 1, 1, 1, 1, 0]) [1, 0, 1, 1, 1, 1, 1, 1, 1, 0, 1] (S55_2 b c d e1 g1) =
 if (0 : Int) ≤ d.2.1 ∧ d.2.1 < (c.length : Int) then
 (spec_FlatPart b (c.getD d.2.1.toNat (Ty.zero Timpl_Claim)).2.1 d.2.2.2.1 d.2.2.2.2.1).bind fun j1 =>
 (((if (0 : Int) ≤ d.2.1 ∧ d.2.1 < (c.length : Int) then
 (((spec_FlatPart b (c.getD d.2.1.toNat (Ty.zero Timpl_Claim)).2.1 d.2.2.2.1 d.2.2.2.2.1).bind fun k1 =>
 eqSt (O55_2 b c d e1 g1 (k1.1, k1.2)) (O55_2 b c d e1 g1 (j1.1, j1.2))).bind fun _ =>
 (spec_FlatPart b (c.getD d.2.1.toNat (Ty.zero Timpl_Claim)).2.1 d.2.2.2.1 d.2.2.2.2.1).bind fun l1 =>
 eqSt (O55_2 b c d e1 g1 (l1.1, l1.2)) (O55_2 b c d e1 g1 (j1.1, j1.2))).bind fun _ =>
  (((spec_FlatPart b (c.getD d.2.1.toNat (Ty.zero Timpl_Claim)).2.1 d.2.2.2.1 d.2.2.2.2.1).bind fun n1 =>
 eqSt (O55_2 b c d e1 g1 (n1.1, n1.2)) (O55_2 b c d e1 g1 (j1.1, j1.2))).bind fun _ =>
 (spec_FlatPart b (c.getD d.2.1.toNat (Ty.zero Timpl_Claim)).2.1 d.2.2.2.1 d.2.2.2.2.1).bind fun o1 =>
 eqSt (O55_2 b c d e1 g1 (o1.1, o1.2)) (O55_2 b c d e1 g1 (j1.1, j1.2))).bind fun _ =>
 ((spec_FlatPart b (c.getD d.2.1.toNat (Ty.zero Timpl_Claim)).2.1 d.2.2.2.1 d.2.2.2.2.1).bind fun q1 =>
 eqSt (O55_2 b c d e1 g1 (q1.1, q1.2)) (O55_2 b c d e1 g1 (j1.1, j1.2))).bind fun _ =>
 (spec_FlatPart b (c.getD d.2.1.toNat (Ty.zero Timpl_Claim)).2.1 d.2.2.2.1 d.2.2.2.2.1).bind fun s1 =>
 eqSt (O55_2 b c d e1 g1 (s1.1, s1.2)) (O55_2 b c d e1 g1 (j1.1, j1.2))
 else none).bind fun _ =>
  ((if (0 : Int) ≤ d.2.1 ∧ d.2.1 < (c.length : Int) then
 ((spec_FlatPart b (c.getD d.2.1.toNat (Ty.zero Timpl_Claim)).2.1 d.2.2.2.1 d.2.2.2.2.1).bind fun t1 =>
 eqSt (O55_2 b c d e1 g1 (t1.1, t1.2)) (O55_2 b c d e1 g1 (j1.1, j1.2))).bind fun _ =>
 (spec_FlatPart b (c.getD d.2.1.toNat (Ty.zero Timpl_Claim)).2.1 d.2.2.2.1 d.2.2.2.2.1).bind fun u1 =>
 eqSt (O55_2 b c d e1 g1 (u1.1, u1.2)) (O55_2 b c d e1 g1 (j1.1, j1.2))
 else none).bind fun _ =>
 if (0 : Int) ≤ d.2.1 ∧ d.2.1 < (c.length : Int) then
(spec_FlatPart b (c.getD d.2.1.toNat (Ty.zero Timpl_Claim)).2.1 d.2.2.2.1 d.2.2.2.2.1).bind fun v1 =>
 eqSt (O55_2 b c d e1 g1 (v1.1, v1.2)) (O55_2 b c d e1 g1 (j1.1, j1.2))
 else none).bind fun _ =>
 (if (0 : Int) ≤ d.2.1 ∧ d.2.1 < (c.length : Int) then
 ((spec_FlatPart b (c.getD d.2.1.toNat (Ty.zero Timpl_Claim)).2.1 d.2.2.2.1 d.2.2.2.2.1).bind fun w1 =>
 eqSt (O55_2 b c d e1 g1 (w1.1, w1.2)) (O55_2 b c d e1 g1 (j1.1, j1.2))).bind fun _ =>
 (spec_FlatPart b (c.getD d.2.1.toNat (Ty.zero Timpl_Claim)).2.1 d.2.2.2.1 d.2.2.2.2.1).bind fun x1 =>
 eqSt (O55_2 b c d e1 g1 (x1.1, x1.2)) (O55_2 b c d e1 g1 (j1.1, j1.2))
 else none).bind fun _ =>
 if (0 : Int) ≤ d.2.1 ∧ d.2.1 < (c.length : Int) then
(spec_FlatPart b (c.getD d.2.1.toNat (Ty.zero Timpl_Claim)).2.1 d.2.2.2.1 d.2.2.2.2.1).bind fun y1 =>
 eqSt (O55_2 b c d e1 g1 (y1.1, y1.2)) (O55_2 b c d e1 g1 (j1.1, j1.2))
 else none).bind fun _ => some (O55_2 b c d e1 g1 (j1.1, j1.2)))
 else none := by kernel_rfl
  rw [h]
  unfold spec_l14Step_l2
  simp only [mC, mI, mN, mB, mE, mM, mS, mO]
  clear h
  by_cases hc0 : (0 : Int) ≤ d.2.1 ∧ d.2.1 < (c.length : Int)
  · rw [if_pos hc0, if_pos hc0]
    cases hc1 : spec_FlatPart b (c.getD d.2.1.toNat (Ty.zero Timpl_Claim)).2.1 d.2.2.2.1 d.2.2.2.2.1 with
    | none => rfl
    | some j1 =>
      simp only [Option.bind_some]
      simp only [if_pos hc0, hc1, Option.bind_some, eqSt_self]
  · simp only [if_neg hc0]
def S55_1 (b : (List Timpl_Decl.V)) (c : (List Timpl_Claim.V)) (d : Timpl_PStep.V) : St := sT 231 [(0, dD (.sl Timpl_Decl) b), (2, dD (.sl Timpl_Claim) c), (7, .ptr 0 0 [] 0), (8, .ptr 1 0 [] 0), (10, .ptr 2 0 [] 0)] [.box (dD Timpl_PStep d), .box (.pr .zs (.pr .zs .u)), .box (.pr .zs (.pr .zs .u))]
def O55_1 (b : (List Timpl_Decl.V)) (c : (List Timpl_Claim.V)) (d : Timpl_PStep.V) : (Bool × (List Timpl_Seg.V)) → St := fun a2 => sT 231 [(0, dD (.sl Timpl_Decl) b), (2, dD (.sl Timpl_Claim) c), (7, .ptr 0 0 [] 0), (8, .ptr 1 0 [] 0), (10, .ptr 2 0 [] 0), (14, dB a2.1)] [.box (dD Timpl_PStep d), .box (.pr .zs (.pr .zs .u)), .box (.pr (.ref 3) (.pr .zs .u)), .row 135 .deep Timpl_Seg a2.2]
def spec_l14Step_l1 (b : (List Timpl_Decl.V)) (c : (List Timpl_Claim.V)) (d : Timpl_PStep.V) : Option (Bool × (List Timpl_Seg.V)) :=
 if (0 : Int) ≤ d.2.1 ∧ d.2.1 < (c.length : Int) then
 (spec_FlatPart b (c.getD d.2.1.toNat (Ty.zero Timpl_Claim)).1 d.2.2.2.1 d.2.2.2.2.1).bind fun b2 =>
 some (b2.1, b2.2)
 else none
theorem T55_1 (b : (List Timpl_Decl.V)) (c : (List Timpl_Claim.V)) (d : Timpl_PStep.V) : DrOk E55 0 32 (sub (code Tryz.f32) [1, 1, 1, 1, 1, 1, 1, 1, 1, 0]) [1, 0, 1, 1, 1, 1, 1, 1, 1, 0, 0] (S55_1 b c d) (spec_l14Step_l1 b c d) (O55_1 b c d) := by
  unfold DrOk
  have h : drS E55 0 32 (sub (code Tryz.f32) [1, 1, 1, 1, 1, 1, 1, 1, 1, 0]) [1, 0, 1, 1, 1, 1, 1, 1, 1, 0, 0] (S55_1 b c d) =
 if (0 : Int) ≤ d.2.1 ∧ d.2.1 < (c.length : Int) then
 (spec_FlatPart b (c.getD d.2.1.toNat (Ty.zero Timpl_Claim)).1 d.2.2.2.1 d.2.2.2.2.1).bind fun b2 =>
 (((if (0 : Int) ≤ d.2.1 ∧ d.2.1 < (c.length : Int) then
 (((spec_FlatPart b (c.getD d.2.1.toNat (Ty.zero Timpl_Claim)).1 d.2.2.2.1 d.2.2.2.2.1).bind fun c2 =>
 eqSt (O55_1 b c d (c2.1, c2.2)) (O55_1 b c d (b2.1, b2.2))).bind fun _ =>
 (spec_FlatPart b (c.getD d.2.1.toNat (Ty.zero Timpl_Claim)).1 d.2.2.2.1 d.2.2.2.2.1).bind fun d2 =>
 eqSt (O55_1 b c d (d2.1, d2.2)) (O55_1 b c d (b2.1, b2.2))).bind fun _ =>
  (((spec_FlatPart b (c.getD d.2.1.toNat (Ty.zero Timpl_Claim)).1 d.2.2.2.1 d.2.2.2.2.1).bind fun e2 =>
 eqSt (O55_1 b c d (e2.1, e2.2)) (O55_1 b c d (b2.1, b2.2))).bind fun _ =>
 (spec_FlatPart b (c.getD d.2.1.toNat (Ty.zero Timpl_Claim)).1 d.2.2.2.1 d.2.2.2.2.1).bind fun g2 =>
 eqSt (O55_1 b c d (g2.1, g2.2)) (O55_1 b c d (b2.1, b2.2))).bind fun _ =>
 ((spec_FlatPart b (c.getD d.2.1.toNat (Ty.zero Timpl_Claim)).1 d.2.2.2.1 d.2.2.2.2.1).bind fun i2 =>
 eqSt (O55_1 b c d (i2.1, i2.2)) (O55_1 b c d (b2.1, b2.2))).bind fun _ =>
 (spec_FlatPart b (c.getD d.2.1.toNat (Ty.zero Timpl_Claim)).1 d.2.2.2.1 d.2.2.2.2.1).bind fun j2 =>
 eqSt (O55_1 b c d (j2.1, j2.2)) (O55_1 b c d (b2.1, b2.2))
 else none).bind fun _ =>
  ((if (0 : Int) ≤ d.2.1 ∧ d.2.1 < (c.length : Int) then
 ((spec_FlatPart b (c.getD d.2.1.toNat (Ty.zero Timpl_Claim)).1 d.2.2.2.1 d.2.2.2.2.1).bind fun k2 =>
 eqSt (O55_1 b c d (k2.1, k2.2)) (O55_1 b c d (b2.1, b2.2))).bind fun _ =>
 (spec_FlatPart b (c.getD d.2.1.toNat (Ty.zero Timpl_Claim)).1 d.2.2.2.1 d.2.2.2.2.1).bind fun l2 =>
 eqSt (O55_1 b c d (l2.1, l2.2)) (O55_1 b c d (b2.1, b2.2))
 else none).bind fun _ =>
 if (0 : Int) ≤ d.2.1 ∧ d.2.1 < (c.length : Int) then
(spec_FlatPart b (c.getD d.2.1.toNat (Ty.zero Timpl_Claim)).1 d.2.2.2.1 d.2.2.2.2.1).bind fun n2 =>
 eqSt (O55_1 b c d (n2.1, n2.2)) (O55_1 b c d (b2.1, b2.2))
 else none).bind fun _ =>
 (if (0 : Int) ≤ d.2.1 ∧ d.2.1 < (c.length : Int) then
 ((spec_FlatPart b (c.getD d.2.1.toNat (Ty.zero Timpl_Claim)).1 d.2.2.2.1 d.2.2.2.2.1).bind fun o2 =>
 eqSt (O55_1 b c d (o2.1, o2.2)) (O55_1 b c d (b2.1, b2.2))).bind fun _ =>
 (spec_FlatPart b (c.getD d.2.1.toNat (Ty.zero Timpl_Claim)).1 d.2.2.2.1 d.2.2.2.2.1).bind fun q2 =>
 eqSt (O55_1 b c d (q2.1, q2.2)) (O55_1 b c d (b2.1, b2.2))
 else none).bind fun _ =>
 if (0 : Int) ≤ d.2.1 ∧ d.2.1 < (c.length : Int) then
(spec_FlatPart b (c.getD d.2.1.toNat (Ty.zero Timpl_Claim)).1 d.2.2.2.1 d.2.2.2.2.1).bind fun s2 =>
 eqSt (O55_1 b c d (s2.1, s2.2)) (O55_1 b c d (b2.1, b2.2))
 else none).bind fun _ => some (O55_1 b c d (b2.1, b2.2)))
 else none := by kernel_rfl
  rw [h]
  unfold spec_l14Step_l1
  simp only [mC, mI, mN, mB, mE, mM, mS, mO]
  clear h
  by_cases hc0 : (0 : Int) ≤ d.2.1 ∧ d.2.1 < (c.length : Int)
  · rw [if_pos hc0, if_pos hc0]
    cases hc1 : spec_FlatPart b (c.getD d.2.1.toNat (Ty.zero Timpl_Claim)).1 d.2.2.2.1 d.2.2.2.2.1 with
    | none => rfl
    | some b2 =>
      simp only [Option.bind_some]
      simp only [if_pos hc0, hc1, Option.bind_some, eqSt_self]
  · simp only [if_neg hc0]
def spec_l14Step_l5 (b : (List Timpl_Decl.V)) (c : (List Timpl_Claim.V)) (d : Timpl_PStep.V) : Option ((Bool × (List Timpl_Seg.V) × (List Timpl_Seg.V)) ⊕ ((Bool × Bool × (List Timpl_Seg.V) × (List Timpl_Seg.V)) ⊕ Unit)) :=
 bif (d.1 == 2) then
 (spec_Flatten b d.2.2.2.2.2.1).bind fun t2 =>
 (spec_l14CopyForm t2.2).bind fun u2 =>
 bif (!t2.1) then
 some (.inl (t2.1, t2.2, u2))
 else
 some (.inr (.inl (t2.1, true, t2.2, u2)))
 else
 bif (d.1 == 3) then
 if (0 : Int) ≤ d.2.1 ∧ d.2.1 < (c.length : Int) then
 (spec_l14CopyForm (c.getD d.2.1.toNat (Ty.zero Timpl_Claim)).2.1).bind fun v2 =>
 if (0 : Int) ≤ d.2.1 ∧ d.2.1 < (c.length : Int) then
 (spec_l14CopyForm (c.getD d.2.1.toNat (Ty.zero Timpl_Claim)).1).bind fun w2 =>
 some (.inr (.inl (true, true, v2, w2)))
 else none
 else none
 else
 bif (d.1 == 4) then
 if (0 : Int) ≤ d.2.1 ∧ d.2.1 < (c.length : Int) then
 if (0 : Int) ≤ d.2.2.1 ∧ d.2.2.1 < (c.length : Int) then
 (spec_l14SameForm (c.getD d.2.1.toNat (Ty.zero Timpl_Claim)).2.1 (c.getD d.2.2.1.toNat (Ty.zero Timpl_Claim)).1).bind fun x2 =>
 bif (!x2) then
 some (.inr (.inr ()))
 else
 if (0 : Int) ≤ d.2.1 ∧ d.2.1 < (c.length : Int) then
 (spec_l14CopyForm (c.getD d.2.1.toNat (Ty.zero Timpl_Claim)).1).bind fun y2 =>
 if (0 : Int) ≤ d.2.2.1 ∧ d.2.2.1 < (c.length : Int) then
 (spec_l14CopyForm (c.getD d.2.2.1.toNat (Ty.zero Timpl_Claim)).2.1).bind fun a3 =>
 some (.inr (.inl (true, true, y2, a3)))
 else none
 else none
 else none
 else none
 else
 bif (d.1 == 5) then
 (spec_l14Step_l1 b c d).bind fun a2 =>
 (spec_l14Step_l2 b c d a2.1 a2.2).bind fun i1 =>
 some (.inr (.inl (a2.1, i1.1, a2.2, i1.2)))
 else
 bif (d.1 == 6) then
 (spec_l14Step_l3 b c d).bind fun v =>
 (spec_l14Step_l4 b c d v.1 v.2).bind fun k =>
 some (.inr (.inl (v.1, k.1, v.2, k.2)))
 else
 some (.inr (.inl (true, true, ([] : List Timpl_Seg.V), ([] : List Timpl_Seg.V))))
theorem T55_5 (b : (List Timpl_Decl.V)) (c : (List Timpl_Claim.V)) (d : Timpl_PStep.V) : JnOk E55 0 37 (code Tryz.f32) [1, 1, 1, 1, 1, 1, 1, 1, 1, 0] (S55_5 b c d) (spec_l14Step_l5 b c d) (O55_5 b c d) := by
  unfold JnOk
  simp only [spec_l14Step_l5, mC, mI, mN, mB, mE, mM]
  simp (disch := refine sI ?_ <;> (repeat' refine sA ?_ ?_) <;> intro _ <;> kernel_rfl) only [dr_ok (T55_1 _ _ _) (K := joinK 0 (E55.jn 37)), dr_ok (T55_2 _ _ _ _ _) (K := joinK 0 (E55.jn 37)), dr_ok (T55_3 _ _ _) (K := joinK 0 (E55.jn 37)), dr_ok (T55_4 _ _ _ _ _) (K := joinK 0 (E55.jn 37))]
  kernel_rfl
def S55_0 (b : (List Timpl_Decl.V)) (c : (List Timpl_Claim.V)) (d : Timpl_PStep.V) (b3 : ByteArray) (c3 : Int) : St := sT 231 [(0, dD (.sl Timpl_Decl) b), (2, dD (.sl Timpl_Claim) c), (7, .ptr 0 0 [] 0), (8, .ptr 1 0 [] 0), (10, .ptr 2 0 [] 0), (11, dD .str b3), (12, dI c3)] [.box (dD Timpl_PStep d), .box (.pr .zs (.pr .zs .u)), .box (.pr .zs (.pr .zs .u))]
def O55_0 (b : (List Timpl_Decl.V)) (c : (List Timpl_Claim.V)) (d : Timpl_PStep.V) (b3 : ByteArray) (c3 : Int) : Bool → Ex × St := fun d3 => (.normal, sT 231 [(0, dD (.sl Timpl_Decl) b), (2, dD (.sl Timpl_Claim) c), (7, .ptr 0 0 [] 0), (8, .ptr 1 0 [] 0), (10, .ptr 2 0 [] 0), (79, dB d3)] [.box (dD Timpl_PStep d), .box (.pr .zs (.pr .zs .u)), .box (.pr .zs (.pr .zs .u))])
def spec_l14Step_l0 (b : (List Timpl_Decl.V)) (c : (List Timpl_Claim.V)) (d : Timpl_PStep.V) (b3 : ByteArray) (c3 : Int) : Option Bool :=
 (spec_l14In b3 105).bind fun e3 =>
 bif e3 then
 bif (!(spec_l1In d.2.1 0 c3)) then
 some true
 else
 (spec_l14In b3 106).bind fun g3 =>
 bif g3 then
 some (!(spec_l1In d.2.2.1 0 c3))
 else
 some false
 else
 (spec_l14In b3 106).bind fun i3 =>
 bif i3 then
 some (!(spec_l1In d.2.2.1 0 c3))
 else
 some false
theorem T55_0 (b : (List Timpl_Decl.V)) (c : (List Timpl_Claim.V)) (d : Timpl_PStep.V) (b3 : ByteArray) (c3 : Int) : JnOk E55 0 14 (code Tryz.f32) [1, 1, 1, 1, 1, 1, 0, 0] (S55_0 b c d b3 c3) (spec_l14Step_l0 b c d b3 c3) (O55_0 b c d b3 c3) := by
  unfold JnOk
  simp only [spec_l14Step_l0, mC, mI, mN, mB, mE, mM]
  kernel_rfl
def spec_l14Step (b : (List Timpl_Decl.V)) (j3 : (List Timpl_Literal.V)) (c : (List Timpl_Claim.V)) (d : Timpl_PStep.V) : Option (Int × (List Timpl_Seg.V) × (List Timpl_Seg.V)) :=
 (spec_l14Fields d).bind fun k3 =>
 bif (!k3) then
 some (2, ([] : List Timpl_Seg.V), ([] : List Timpl_Seg.V))
 else
 bif (d.1 == 1) then
 (spec_l14Given j3 d.2.1).bind fun l3 =>
 bif (decide (l3 < 0)) then
 some (3, ([] : List Timpl_Seg.V), ([] : List Timpl_Seg.V))
 else
 if (0 : Int) ≤ l3 ∧ l3 < (j3.length : Int) then
 (spec_Flatten b (j3.getD l3.toNat (Ty.zero Timpl_Literal)).2.2.1).bind fun n3 =>
 if (0 : Int) ≤ l3 ∧ l3 < (j3.length : Int) then
 (spec_Flatten b (j3.getD l3.toNat (Ty.zero Timpl_Literal)).2.2.2.1).bind fun o3 =>
 some (0, n3.2, o3.2)
 else none
 else none
 else
 (spec_l14Step_l0 b c d (spec_l14Uses d.1) (IntKind.i64.wrap ((c.length : Int) - 1))).bind fun d3 =>
 bif d3 then
 some (3, ([] : List Timpl_Seg.V), ([] : List Timpl_Seg.V))
 else
 (spec_l14Step_l5 b c d).bind (Sum.elim (fun e =>
 some (4, e.2.1, e.2.2)) (Sum.elim (fun a =>
 mkr (S55_6 a) (
 bif ((!a.1) || (!a.2.1)) then
 some (6, a.2.2.1, a.2.2.2)
 else
 some (0, a.2.2.1, a.2.2.2))) (fun g =>
 some (5, ([] : List Timpl_Seg.V), ([] : List Timpl_Seg.V)))))
theorem U55 (R : Type) (b : (List Timpl_Decl.V)) (j3 : (List Timpl_Literal.V)) (c : (List Timpl_Claim.V)) (d : Timpl_PStep.V) (K : AV → List Blk → Option R) : runF E55 Tryz.f32 R [dD (.sl Timpl_Decl) b, dD (.sl Timpl_Literal) j3, dD (.sl Timpl_Claim) c, dD Timpl_PStep d] [] K = (spec_l14Step b j3 c d).bind fun r => K (.cons (.pr (.ref 0) (.pr (.ref 1) .u)) (.cons (dI r.1) .nil)) [.row 135 .deep Timpl_Seg r.2.1, .row 135 .deep Timpl_Seg r.2.2] := by
  simp only [spec_l14Step, bC, bI, bN, bE, bA, bS, bO, bM]
  simp (disch := refine sI ?_ <;> (repeat' refine sA ?_ ?_) <;> intro _ <;> kernel_rfl) only [jn_ok (T55_0 _ _ _ _ _) (K := finK E55 Tryz.f32 0 R K), jn_ok (T55_5 _ _ _) (K := finK E55 Tryz.f32 0 R K), in_ok (T55_6 _) (K := finK E55 Tryz.f32 0 R K)]
  kernel_rfl
def c32 : Va.Callee := brC [.d (.sl Timpl_Decl), .d (.sl Timpl_Literal), .d (.sl Timpl_Claim), .d Timpl_PStep] [⟨[.dat [] (.sl Timpl_Decl), .dat [] (.sl Timpl_Literal), .dat [] (.sl Timpl_Claim), .dat [] Timpl_PStep], [], (Int × (List Timpl_Seg.V) × (List Timpl_Seg.V)), fun p => spec_l14Step p.1.1 p.1.2.1 p.1.2.2.1 p.1.2.2.2.1, fun r => (.cons (.pr (.ref 0) (.pr (.ref 1) .u)) (.cons (dI r.1) .nil), [.row 135 .deep Timpl_Seg r.2.1, .row 135 .deep Timpl_Seg r.2.2])⟩]
theorem c32_snd : SoundC Tryz.prog 32 c32 := br_snd (fn := Tryz.f32) (by kernel_rfl) (by kernel_rfl) (by kernel_rfl) ⟨⟨E55, ⟨⟨tabok, fns_ok ⟨c48_snd, c62_snd, c63_snd, c64_snd, c65_snd, c66_snd, c67_snd, c68_snd, c69_snd, c70_snd, trivial⟩⟩, mixed⟩, fun p R K => U55 R p.1.1 p.1.2.1 p.1.2.2.1 p.1.2.2.2.1 K⟩, trivial⟩
end
end Go.Proofs.X
