import Derived.KernelRfl
import Derived.Test.YtjbdmijibelnlaaGreatK7
set_option linter.unusedVariables false
set_option linter.unusedSimpArgs false
namespace Go.Proofs.X
open Go Go.Va
set_option maxRecDepth 100000
noncomputable section
abbrev E32 : Env := ⟨tab, lookH [(48, c48), (172, c172), (173, c173), (174, c174)], { deep := true, heads := [(2, { live := [0, 2, 4, 7] })], outs := [(2, { live := [0, 4, 6] })], joins := [(7, { live := [0, 4, 63] }), (8, { live := [0, 4, 6] })], ents := [(7, [0, 4]), (8, [0, 4])] }⟩
def S32_2 (a : (List Timpl_Decl.V)) (b : Timpl_TNode.V) : St := sT 109 [(0, dD (.sl Timpl_Decl) a), (4, .ptr 0 0 [] 0)] [.box (dD Timpl_TNode b)]
def O32_2 (a : (List Timpl_Decl.V)) (b : Timpl_TNode.V) : (Unit ⊕ Unit) → Ex × St := Sum.elim (fun c => (.ret, sT 109 [(0, dD (.sl Timpl_Decl) a), (4, .ptr 0 0 [] 0), (6, dB false)] [.box (dD Timpl_TNode b)])) (fun d => (.normal, sT 109 [(0, dD (.sl Timpl_Decl) a), (4, .ptr 0 0 [] 0)] [.box (dD Timpl_TNode b)]))
def S32_1 (a : (List Timpl_Decl.V)) (b : Timpl_TNode.V) : St := sT 109 [(0, dD (.sl Timpl_Decl) a), (4, .ptr 0 0 [] 0)] [.box (dD Timpl_TNode b)]
def O32_1 (a : (List Timpl_Decl.V)) (b : Timpl_TNode.V) (m0 : Bool) : Ex × St := (.normal, sT 109 [(0, dD (.sl Timpl_Decl) a), (4, .ptr 0 0 [] 0), (63, dB m0)] [.box (dD Timpl_TNode b)])
theorem T32_1 (a : (List Timpl_Decl.V)) (b : Timpl_TNode.V) : jnS E32 0 7 (sub (code Tryz.f152) [1, 1, 0]) [0] (S32_1 a b) = some (O32_1 a b (bif (b.1 != 1) then ((b.2.1 != 0) || (bif (b.1 != 2) then ((!(spec_l3NoBits b.2.2.2.2.1)) || (bif (b.1 != 4) then ((b.2.2.2.1 != 0) || ((!(spec_l3One b.1)) && (b.2.2.1 != 0))) else ((!(spec_l3One b.1)) && (b.2.2.1 != 0)))) else (bif (b.1 != 4) then ((b.2.2.2.1 != 0) || ((!(spec_l3One b.1)) && (b.2.2.1 != 0))) else ((!(spec_l3One b.1)) && (b.2.2.1 != 0))))) else (bif (b.1 != 2) then ((!(spec_l3NoBits b.2.2.2.2.1)) || (bif (b.1 != 4) then ((b.2.2.2.1 != 0) || ((!(spec_l3One b.1)) && (b.2.2.1 != 0))) else ((!(spec_l3One b.1)) && (b.2.2.1 != 0)))) else (bif (b.1 != 4) then ((b.2.2.2.1 != 0) || ((!(spec_l3One b.1)) && (b.2.2.1 != 0))) else ((!(spec_l3One b.1)) && (b.2.2.1 != 0)))))) := by
  have h0 : jnS E32 0 7 (sub (code Tryz.f152) [1, 1, 0]) [0] (S32_1 a b) =
 bif (b.1 != 1) then
 bif (b.2.1 != 0) then
 some (O32_1 a b true)
 else
 bif (b.1 != 2) then
 bif (!(spec_l3NoBits b.2.2.2.2.1)) then
 some (O32_1 a b true)
 else
 bif (b.1 != 4) then
 bif (b.2.2.2.1 != 0) then
 some (O32_1 a b true)
 else
 bif (!(spec_l3One b.1)) then
 some (O32_1 a b (b.2.2.1 != 0))
 else
 some (O32_1 a b false)
 else
 bif (!(spec_l3One b.1)) then
 some (O32_1 a b (b.2.2.1 != 0))
 else
 some (O32_1 a b false)
 else
 bif (b.1 != 4) then
 bif (b.2.2.2.1 != 0) then
 some (O32_1 a b true)
 else
 bif (!(spec_l3One b.1)) then
 some (O32_1 a b (b.2.2.1 != 0))
 else
 some (O32_1 a b false)
 else
 bif (!(spec_l3One b.1)) then
 some (O32_1 a b (b.2.2.1 != 0))
 else
 some (O32_1 a b false)
 else
 bif (b.1 != 2) then
 bif (!(spec_l3NoBits b.2.2.2.2.1)) then
 some (O32_1 a b true)
 else
 bif (b.1 != 4) then
 bif (b.2.2.2.1 != 0) then
 some (O32_1 a b true)
 else
 bif (!(spec_l3One b.1)) then
 some (O32_1 a b (b.2.2.1 != 0))
 else
 some (O32_1 a b false)
 else
 bif (!(spec_l3One b.1)) then
 some (O32_1 a b (b.2.2.1 != 0))
 else
 some (O32_1 a b false)
 else
 bif (b.1 != 4) then
 bif (b.2.2.2.1 != 0) then
 some (O32_1 a b true)
 else
 bif (!(spec_l3One b.1)) then
 some (O32_1 a b (b.2.2.1 != 0))
 else
 some (O32_1 a b false)
 else
 bif (!(spec_l3One b.1)) then
 some (O32_1 a b (b.2.2.1 != 0))
 else
 some (O32_1 a b false) := by kernel_rfl
  rw [h0]
  cases h1 : (b.1 != 1)
  · cases h2 : (b.1 != 2)
    · cases h3 : (b.1 != 4)
      · cases h4 : (!(spec_l3One b.1))
        · first | rfl | kernel_rfl
        · first | rfl | kernel_rfl
      · cases h4 : (b.2.2.2.1 != 0)
        · cases h5 : (!(spec_l3One b.1))
          · first | rfl | kernel_rfl
          · first | rfl | kernel_rfl
        · first | rfl | kernel_rfl
    · cases h3 : (!(spec_l3NoBits b.2.2.2.2.1))
      · cases h4 : (b.1 != 4)
        · cases h5 : (!(spec_l3One b.1))
          · first | rfl | kernel_rfl
          · first | rfl | kernel_rfl
        · cases h5 : (b.2.2.2.1 != 0)
          · cases h6 : (!(spec_l3One b.1))
            · first | rfl | kernel_rfl
            · first | rfl | kernel_rfl
          · first | rfl | kernel_rfl
      · first | rfl | kernel_rfl
  · cases h2 : (b.2.1 != 0)
    · cases h3 : (b.1 != 2)
      · cases h4 : (b.1 != 4)
        · cases h5 : (!(spec_l3One b.1))
          · first | rfl | kernel_rfl
          · first | rfl | kernel_rfl
        · cases h5 : (b.2.2.2.1 != 0)
          · cases h6 : (!(spec_l3One b.1))
            · first | rfl | kernel_rfl
            · first | rfl | kernel_rfl
          · first | rfl | kernel_rfl
      · cases h4 : (!(spec_l3NoBits b.2.2.2.2.1))
        · cases h5 : (b.1 != 4)
          · cases h6 : (!(spec_l3One b.1))
            · first | rfl | kernel_rfl
            · first | rfl | kernel_rfl
          · cases h6 : (b.2.2.2.1 != 0)
            · cases h7 : (!(spec_l3One b.1))
              · first | rfl | kernel_rfl
              · first | rfl | kernel_rfl
            · first | rfl | kernel_rfl
        · first | rfl | kernel_rfl
    · first | rfl | kernel_rfl
def spec_l3Form_l2 (a : (List Timpl_Decl.V)) (b : Timpl_TNode.V) : Option (Unit ⊕ Unit) :=
 mkr (S32_1 a b) (
 bif (bif (b.1 != 1) then ((b.2.1 != 0) || (bif (b.1 != 2) then ((!(spec_l3NoBits b.2.2.2.2.1)) || (bif (b.1 != 4) then ((b.2.2.2.1 != 0) || ((!(spec_l3One b.1)) && (b.2.2.1 != 0))) else ((!(spec_l3One b.1)) && (b.2.2.1 != 0)))) else (bif (b.1 != 4) then ((b.2.2.2.1 != 0) || ((!(spec_l3One b.1)) && (b.2.2.1 != 0))) else ((!(spec_l3One b.1)) && (b.2.2.1 != 0))))) else (bif (b.1 != 2) then ((!(spec_l3NoBits b.2.2.2.2.1)) || (bif (b.1 != 4) then ((b.2.2.2.1 != 0) || ((!(spec_l3One b.1)) && (b.2.2.1 != 0))) else ((!(spec_l3One b.1)) && (b.2.2.1 != 0)))) else (bif (b.1 != 4) then ((b.2.2.2.1 != 0) || ((!(spec_l3One b.1)) && (b.2.2.1 != 0))) else ((!(spec_l3One b.1)) && (b.2.2.1 != 0))))) then
 some (.inl ())
 else
 some (.inr ()))
theorem T32_2 (a : (List Timpl_Decl.V)) (b : Timpl_TNode.V) : JnOk E32 0 8 (code Tryz.f152) [1, 1, 0] (S32_2 a b) (spec_l3Form_l2 a b) (O32_2 a b) := by
  unfold JnOk
  simp only [spec_l3Form_l2, mC, mI, mN, mB, mE, mM]
  simp (disch := refine sI ?_ <;> (repeat' refine sA ?_ ?_) <;> intro _ <;> kernel_rfl) only [in_ok (T32_1 _ _) (K := joinK 0 (E32.jn 8))]
  kernel_rfl
def S32_0 (a : (List Timpl_Decl.V)) (e : Int) (b : Timpl_TNode.V) (z_ : Int) : St := sT 109 [(0, dD (.sl Timpl_Decl) a), (2, dI e), (4, .ptr 0 0 [] 0), (7, dI z_)] [.box (dD Timpl_TNode b)]
def O32_0 (a : (List Timpl_Decl.V)) (e : Int) (b : Timpl_TNode.V) : (Unit ⊕ Unit) → Ex × St := Sum.elim (fun g => (.ret, sT 109 [(0, dD (.sl Timpl_Decl) a), (4, .ptr 0 0 [] 0), (6, dB false)] [.box (dD Timpl_TNode b)])) (fun i => ((.exit 0), sT 109 [(0, dD (.sl Timpl_Decl) a), (4, .ptr 0 0 [] 0)] [.box (dD Timpl_TNode b)]))
def spec_l3Form_l0_g (a : (List Timpl_Decl.V)) (e : Int) (b : Timpl_TNode.V) (j : Int) : Option (Int ⊕ (Unit ⊕ Unit)) :=
 bif (decide (j < (b.2.2.2.2.2.1.length : Int))) then
 if (0 : Int) ≤ j ∧ j < (b.2.2.2.2.2.1.length : Int) then
 bif (!(spec_l1In (b.2.2.2.2.2.1.getD j.toNat (Ty.zero (.int .i64))) 0 (IntKind.i64.wrap (e - 1)))) then
 some (.inr (.inl ()))
 else
 some (.inl (IntKind.i64.wrap (j + 1)))
 else none
 else
 some (.inr (.inr ()))
def spec_l3Form_l0_r (a : (List Timpl_Decl.V)) (e : Int) (b : Timpl_TNode.V) (z_ : Int) := spec_l3Form_l0_g a e b z_
def spec_l3Form_l0 (a : (List Timpl_Decl.V)) (e : Int) (b : Timpl_TNode.V) (j : Int) := fix (spec_l3Form_l0_r a e b) j
theorem T32_0 (a : (List Timpl_Decl.V)) (e : Int) (b : Timpl_TNode.V) : LpOk E32 0 2 (code Tryz.f152) [1, 0, 1, 0] (S32_0 a e b) (spec_l3Form_l0_r a e b) (O32_0 a e b) := by
  intro _
  simp only [spec_l3Form_l0_r, spec_l3Form_l0_g, mC, mI, mN, mB, mE, mM]
  kernel_rfl
def spec_l3Form (a : (List Timpl_Decl.V)) (b : Timpl_TNode.V) (e : Int) : Option Bool :=
 (spec_l3Form_l0 a e b 0).bind (Sum.elim (fun g =>
 some false) (fun i =>
 (spec_l3Form_l2 a b).bind (Sum.elim (fun c =>
 some false) (fun d =>
 bif (b.1 == 1) then
 bif ((b.2.2.2.2.2.1.length : Int) == 0) then
 some (spec_l1In b.2.1 0 (IntKind.i64.wrap ((a.length : Int) - 1)))
 else
 some false
 else
 bif (b.1 == 2) then
 bif ((b.2.2.2.2.2.1.length : Int) == 0) then
 (spec_BitsOk b.2.2.2.2.1).bind fun k =>
 some k
 else
 some false
 else
 bif (b.1 == 3) then
 some (decide ((b.2.2.2.2.2.1.length : Int) ≥ 2))
 else
 bif (spec_l3One b.1) then
 some ((b.2.2.2.2.2.1.length : Int) == 1)
 else
 some false))))
theorem U32 (R : Type) (a : (List Timpl_Decl.V)) (b : Timpl_TNode.V) (e : Int) (K : AV → List Blk → Option R) : runF E32 Tryz.f152 R [dD (.sl Timpl_Decl) a, dD Timpl_TNode b, dI e] [] K = (spec_l3Form a b e).bind fun r => K (dB r) [] := by
  simp only [spec_l3Form, bC, bI, bN, bE, bA, bS, bO, bM]
  simp (disch := refine sI ?_ <;> (repeat' refine sA ?_ ?_) <;> intro _ <;> kernel_rfl) only [spec_l3Form_l0, lp_ok (T32_0 _ _ _) (K := finK E32 Tryz.f152 0 R K), jn_ok (T32_2 _ _) (K := finK E32 Tryz.f152 0 R K)]
  kernel_rfl
def c152 : Va.Callee := brC [.d (.sl Timpl_Decl), .d Timpl_TNode, .d (.int .i64)] [⟨[.dat [] (.sl Timpl_Decl), .dat [] Timpl_TNode, .dat [] (.int .i64)], [], Bool, fun p => spec_l3Form p.1.1 p.1.2.1 p.1.2.2.1, fun r => (dB r, [])⟩]
theorem c152_snd : SoundC Tryz.prog 152 c152 := br_snd (fn := Tryz.f152) (by kernel_rfl) (by kernel_rfl) (by kernel_rfl) ⟨⟨E32, ⟨⟨tabok, fns_ok ⟨c48_snd, c172_snd, c173_snd, c174_snd, trivial⟩⟩, mixed⟩, fun p R K => U32 R p.1.1 p.1.2.1 p.1.2.2.1 K⟩, trivial⟩
abbrev E33 : Env := ⟨tab, lookH [(48, c48)], { deep := true, heads := [(3, { live := [0, 2, 4, 7, 8] })], outs := [(3, { live := [0, 4, 7] })], joins := [(13, { live := [4, 59] }), (17, { live := [4, 7, 28, 66] }), (22, { live := [4, 7, 28, 77] }), (28, { live := [6, 7] })], ents := [(13, [4, 7]), (17, [4, 7, 28]), (22, [4, 7, 28]), (28, [0, 4, 7])] }⟩
def S33_4 (a : (List Timpl_Decl.V)) (b : Int) (c : Timpl_TNode.V) : St := sT 95 [(0, dD (.sl Timpl_Decl) a), (4, .ptr 0 0 [] 0), (7, dI b)] [.box (dD Timpl_TNode c)]
def O33_4 (a : (List Timpl_Decl.V)) (b : Int) (c : Timpl_TNode.V) : (Int ⊕ (Int ⊕ Unit)) → Ex × St := Sum.elim (fun d => (.ret, sT 95 [(6, dI d), (7, dI b)] [])) (Sum.elim (fun e => (.ret, sT 95 [(6, dI e)] [])) (fun g => (.normal, sT 95 [(7, dI b)] [])))
def S33_3 (b : Int) (c : Timpl_TNode.V) : St := sT 95 [(4, .ptr 0 0 [] 0), (7, dI b), (28, dI c.1)] [.box (dD Timpl_TNode c)]
def O33_3 (b : Int) (c : Timpl_TNode.V) (m0 : Bool) : Ex × St := (.normal, sT 95 [(4, .ptr 0 0 [] 0), (7, dI b), (28, dI c.1), (77, dB m0)] [.box (dD Timpl_TNode c)])
theorem T33_3 (b : Int) (c : Timpl_TNode.V) : jnS E33 0 22 (sub (code Tryz.f153) [1, 1, 1, 0]) [1, 0, 1, 1, 1, 1, 1, 1, 1, 1, 0] (S33_3 b c) = some (O33_3 b c (bif (c.1 == 7) then (c.1 == 7) else (c.1 == 8))) := by
  have h0 : jnS E33 0 22 (sub (code Tryz.f153) [1, 1, 1, 0]) [1, 0, 1, 1, 1, 1, 1, 1, 1, 1, 0] (S33_3 b c) =
 bif (c.1 == 7) then
 some (O33_3 b c (c.1 == 7))
 else
 some (O33_3 b c (c.1 == 8)) := by kernel_rfl
  rw [h0]
  cases h1 : (c.1 == 7)
  · first | rfl | kernel_rfl
  · first | rfl | kernel_rfl
def S33_2 (b : Int) (c : Timpl_TNode.V) : St := sT 95 [(4, .ptr 0 0 [] 0), (7, dI b), (28, dI c.1)] [.box (dD Timpl_TNode c)]
def O33_2 (b : Int) (c : Timpl_TNode.V) (m0 : Bool) : Ex × St := (.normal, sT 95 [(4, .ptr 0 0 [] 0), (7, dI b), (28, dI c.1), (66, dB m0)] [.box (dD Timpl_TNode c)])
theorem T33_2 (b : Int) (c : Timpl_TNode.V) : jnS E33 0 17 (sub (code Tryz.f153) [1, 1, 1, 0]) [1, 0, 1, 1, 1, 1, 1, 1, 0] (S33_2 b c) = some (O33_2 b c (bif (c.1 == 5) then (c.1 == 5) else (c.1 == 6))) := by
  have h0 : jnS E33 0 17 (sub (code Tryz.f153) [1, 1, 1, 0]) [1, 0, 1, 1, 1, 1, 1, 1, 0] (S33_2 b c) =
 bif (c.1 == 5) then
 some (O33_2 b c (c.1 == 5))
 else
 some (O33_2 b c (c.1 == 6)) := by kernel_rfl
  rw [h0]
  cases h1 : (c.1 == 5)
  · first | rfl | kernel_rfl
  · first | rfl | kernel_rfl
def S33_1 (b : Int) (c : Timpl_TNode.V) : St := sT 95 [(4, .ptr 0 0 [] 0), (7, dI b)] [.box (dD Timpl_TNode c)]
def O33_1 (c : Timpl_TNode.V) (m0 : Bool) : Ex × St := (.normal, sT 95 [(4, .ptr 0 0 [] 0), (59, dB m0)] [.box (dD Timpl_TNode c)])
theorem T33_1 (b : Int) (c : Timpl_TNode.V) : jnS E33 0 13 (sub (code Tryz.f153) [1, 1, 1, 0]) [1, 0, 1, 1, 1, 1, 1, 0, 0, 0] (S33_1 b c) = some (O33_1 c ((decide (c.2.2.2.1 < 0)) || ((decide (c.2.2.1 < c.2.2.2.1)) || (decide (c.2.2.1 ≥ b))))) := by
  have h0 : jnS E33 0 13 (sub (code Tryz.f153) [1, 1, 1, 0]) [1, 0, 1, 1, 1, 1, 1, 0, 0, 0] (S33_1 b c) =
 bif (decide (c.2.2.2.1 < 0)) then
 some (O33_1 c true)
 else
 bif (decide (c.2.2.1 < c.2.2.2.1)) then
 some (O33_1 c true)
 else
 some (O33_1 c (decide (c.2.2.1 ≥ b))) := by kernel_rfl
  rw [h0]
  cases h1 : (decide (c.2.2.2.1 < 0))
  · cases h2 : (decide (c.2.2.1 < c.2.2.2.1))
    · first | rfl | kernel_rfl
    · first | rfl | kernel_rfl
  · first | rfl | kernel_rfl
def spec_l3Wide_l4 (a : (List Timpl_Decl.V)) (b : Int) (c : Timpl_TNode.V) : Option (Int ⊕ (Int ⊕ Unit)) :=
 bif (c.1 == 1) then
 if (0 : Int) ≤ c.2.1 ∧ c.2.1 < (a.length : Int) then
 some (.inl (a.getD c.2.1.toNat (Ty.zero Timpl_Decl)).2.1)
 else none
 else
 bif (c.1 == 2) then
 some (.inl c.2.2.2.2.1.1)
 else
 bif (c.1 == 4) then
 mkr (S33_1 b c) (
 bif ((decide (c.2.2.2.1 < 0)) || ((decide (c.2.2.1 < c.2.2.2.1)) || (decide (c.2.2.1 ≥ b)))) then
 some (.inr (.inl (-1)))
 else
 some (.inr (.inl (IntKind.i64.wrap ((IntKind.i64.wrap (c.2.2.1 - c.2.2.2.1)) + 1)))))
 else
 mkr (S33_2 b c) (
 bif (bif (c.1 == 5) then (c.1 == 5) else (c.1 == 6)) then
 bif (!(spec_l1In c.2.2.1 0 4096)) then
 some (.inl (-1))
 else
 some (.inl (IntKind.i64.wrap (b + c.2.2.1)))
 else
 mkr (S33_3 b c) (
 bif (bif (c.1 == 7) then (c.1 == 7) else (c.1 == 8)) then
 bif (!(spec_l1In c.2.2.1 0 4096)) then
 some (.inl (-1))
 else
 some (.inr (.inr ()))
 else
 bif (c.1 == 9) then
 bif (!(spec_l1In c.2.2.1 1 4096)) then
 some (.inl (-1))
 else
 some (.inl (IntKind.i64.wrap (b * c.2.2.1)))
 else
 some (.inr (.inr ()))))
theorem T33_4 (a : (List Timpl_Decl.V)) (b : Int) (c : Timpl_TNode.V) : JnOk E33 0 28 (code Tryz.f153) [1, 1, 1, 0] (S33_4 a b c) (spec_l3Wide_l4 a b c) (O33_4 a b c) := by
  unfold JnOk
  simp only [spec_l3Wide_l4, mC, mI, mN, mB, mE, mM]
  simp (disch := refine sI ?_ <;> (repeat' refine sA ?_ ?_) <;> intro _ <;> kernel_rfl) only [in_ok (T33_1 _ _) (K := joinK 0 (E33.jn 28)), in_ok (T33_2 _ _) (K := joinK 0 (E33.jn 28)), in_ok (T33_3 _ _) (K := joinK 0 (E33.jn 28))]
  kernel_rfl
def S33_0 (a : (List Timpl_Decl.V)) (i : (List Int)) (c : Timpl_TNode.V) (z_ : (Int × Int)) : St := sT 95 [(0, dD (.sl Timpl_Decl) a), (2, dD (.sl (.int .i64)) i), (4, .ptr 0 0 [] 0), (7, dI z_.1), (8, dI z_.2)] [.box (dD Timpl_TNode c)]
def O33_0 (a : (List Timpl_Decl.V)) (i : (List Int)) (c : Timpl_TNode.V) : Int → Ex × St := fun b => ((.exit 0), sT 95 [(0, dD (.sl Timpl_Decl) a), (4, .ptr 0 0 [] 0), (7, dI b)] [.box (dD Timpl_TNode c)])
def spec_l3Wide_l0_g (a : (List Timpl_Decl.V)) (i : (List Int)) (c : Timpl_TNode.V) (j : Int) (k : Int) : Option ((Int × Int) ⊕ Int) :=
 bif (decide (k < (c.2.2.2.2.2.1.length : Int))) then
 if (0 : Int) ≤ k ∧ k < (c.2.2.2.2.2.1.length : Int) then
 if (0 : Int) ≤ (c.2.2.2.2.2.1.getD k.toNat (Ty.zero (.int .i64))) ∧ (c.2.2.2.2.2.1.getD k.toNat (Ty.zero (.int .i64))) < (i.length : Int) then
 some (.inl ((if (IntKind.i64.wrap (j + (i.getD (c.2.2.2.2.2.1.getD k.toNat (Ty.zero (.int .i64))).toNat (Ty.zero (.int .i64))))) < 8192 then (IntKind.i64.wrap (j + (i.getD (c.2.2.2.2.2.1.getD k.toNat (Ty.zero (.int .i64))).toNat (Ty.zero (.int .i64))))) else 8192), (IntKind.i64.wrap (k + 1))))
 else none
 else none
 else
 some (.inr j)
def spec_l3Wide_l0_r (a : (List Timpl_Decl.V)) (i : (List Int)) (c : Timpl_TNode.V) (z_ : (Int × Int)) := spec_l3Wide_l0_g a i c z_.1 z_.2
def spec_l3Wide_l0 (a : (List Timpl_Decl.V)) (i : (List Int)) (c : Timpl_TNode.V) (j : Int) (k : Int) := fix (spec_l3Wide_l0_r a i c) (j, k)
theorem T33_0 (a : (List Timpl_Decl.V)) (i : (List Int)) (c : Timpl_TNode.V) : LpOk E33 0 3 (code Tryz.f153) [1, 1, 0, 1, 0] (S33_0 a i c) (spec_l3Wide_l0_r a i c) (O33_0 a i c) := by
  intro _
  simp only [spec_l3Wide_l0_r, spec_l3Wide_l0_g, mC, mI, mN, mB, mE, mM]
  kernel_rfl
def spec_l3Wide (a : (List Timpl_Decl.V)) (c : Timpl_TNode.V) (i : (List Int)) : Option Int :=
 (spec_l3Wide_l0 a i c 0 0).bind fun b =>
 (spec_l3Wide_l4 a b c).bind (Sum.elim (fun d =>
 some d) (Sum.elim (fun e =>
 some e) (fun g =>
 some b)))
theorem U33 (R : Type) (a : (List Timpl_Decl.V)) (c : Timpl_TNode.V) (i : (List Int)) (K : AV → List Blk → Option R) : runF E33 Tryz.f153 R [dD (.sl Timpl_Decl) a, dD Timpl_TNode c, dD (.sl (.int .i64)) i] [] K = (spec_l3Wide a c i).bind fun r => K (dI r) [] := by
  simp only [spec_l3Wide, bC, bI, bN, bE, bA, bS, bO, bM]
  simp (disch := refine sI ?_ <;> (repeat' refine sA ?_ ?_) <;> intro _ <;> kernel_rfl) only [spec_l3Wide_l0, lp_ok (T33_0 _ _ _) (K := finK E33 Tryz.f153 0 R K), jn_ok (T33_4 _ _ _) (K := finK E33 Tryz.f153 0 R K)]
  kernel_rfl
def c153 : Va.Callee := brC [.d (.sl Timpl_Decl), .d Timpl_TNode, .d (.sl (.int .i64))] [⟨[.dat [] (.sl Timpl_Decl), .dat [] Timpl_TNode, .dat [] (.sl (.int .i64))], [], Int, fun p => spec_l3Wide p.1.1 p.1.2.1 p.1.2.2.1, fun r => (dI r, [])⟩]
theorem c153_snd : SoundC Tryz.prog 153 c153 := br_snd (fn := Tryz.f153) (by kernel_rfl) (by kernel_rfl) (by kernel_rfl) ⟨⟨E33, ⟨⟨tabok, fns_ok ⟨c48_snd, trivial⟩⟩, mixed⟩, fun p R K => U33 R p.1.1 p.1.2.1 p.1.2.2.1 K⟩, trivial⟩
abbrev E34 : Env := ⟨tab, lookH [(48, c48), (60, c60), (152, c152), (153, c153)], { deep := true, heads := [(7, { live := [0, 3, 5, 6, 7, 8], pre := [(6, false, .row [] 2 (.int .i64) true)] }), (16, { live := [0, 3, 5, 6, 7, 8, 10] }), (20, { live := [5, 6, 7, 11] })], outs := [(7, { live := [4, 5, 6, 7], frz := [(7, false, (.sl .bool))] }), (16, { live := [0, 3, 5, 6, 7, 8] }), (20, { live := [4, 6] })], joins := [(3, { live := [0, 3, 5, 27] })], ents := [(3, [0, 3, 5])], res := [(0, .row [] 2 (.int .i64) true)] }⟩
def S34_4 (a : (List Bool)) (b : (List Int)) (z_ : Int) : St := sT 103 [(5, .zs), (6, .ref 0), (7, dD (.sl .bool) a), (11, dI z_)] [.row 2 .deep (.int .i64) b]
def O34_4 (a : (List Bool)) (b : (List Int)) : (Unit ⊕ Unit) → Ex × St := Sum.elim (fun c => (.ret, sT 103 [(4, .zs), (6, .ref 0)] [.row 2 .deep (.int .i64) b])) (fun d => ((.exit 4), sT 103 [(6, .ref 0)] [.row 2 .deep (.int .i64) b]))
def spec_l3Widths_l4_g (a : (List Bool)) (b : (List Int)) (e : Int) : Option (Int ⊕ (Unit ⊕ Unit)) :=
 bif (decide ((IntKind.i64.wrap (e + 1)) < (a.length : Int))) then
 if (0 : Int) ≤ e ∧ e < (a.length : Int) then
 bif (!(a.getD e.toNat (Ty.zero .bool))) then
 some (.inr (.inl ()))
 else
 some (.inl (IntKind.i64.wrap (e + 1)))
 else none
 else
 some (.inr (.inr ()))
def spec_l3Widths_l4_r (a : (List Bool)) (b : (List Int)) (z_ : Int) := spec_l3Widths_l4_g a b z_
def spec_l3Widths_l4 (a : (List Bool)) (b : (List Int)) (e : Int) := fix (spec_l3Widths_l4_r a b) e
theorem T34_4 (a : (List Bool)) (b : (List Int)) : LpOk E34 0 20 (code Tryz.f110) [1, 1, 1, 1, 1, 1, 0, 1, 0] (S34_4 a b) (spec_l3Widths_l4_r a b) (O34_4 a b) := by
  intro _
  simp only [spec_l3Widths_l4_r, spec_l3Widths_l4_g, mC, mI, mN, mB, mE, mM]
  kernel_rfl
def S34_3 (g : (List Timpl_Decl.V)) (i : Timpl_Term.V) (z_ : (Int × (List Int) × (List Bool))) : St := sT 103 [(0, dD (.sl Timpl_Decl) g), (3, .ptr 0 0 [] 0), (5, .zs), (6, .ref 1), (7, .ref 2), (8, dI z_.1)] [.box (dD Timpl_Term i), .row 2 .deep (.int .i64) z_.2.1, .row 4 .deep .bool z_.2.2]
def O34_3 (g : (List Timpl_Decl.V)) (i : Timpl_Term.V) : (((List Bool) × (List Int)) ⊕ ((List Bool) × (List Int))) → Ex × St := Sum.elim (fun j => (.ret, sT 103 [(4, .zs), (5, .zs), (6, .ref 0), (7, dD (.sl .bool) j.1)] [.row 2 .deep (.int .i64) j.2])) (fun k => ((.exit 0), sT 103 [(5, .zs), (6, .ref 0), (7, dD (.sl .bool) k.1)] [.row 2 .deep (.int .i64) k.2]))
def S34_2 (g : (List Timpl_Decl.V)) (l : Int) (i : Timpl_Term.V) (n : (List Int)) (z_ : (Int × (List Bool))) : St := sT 103 [(0, dD (.sl Timpl_Decl) g), (3, .ptr 0 0 [] 0), (5, .zs), (6, .ref 1), (7, .ref 2), (8, dI l), (10, dI z_.1)] [.box (dD Timpl_Term i), .row 2 .deep (.int .i64) n, .row 4 .deep .bool z_.2]
def O34_2 (g : (List Timpl_Decl.V)) (l : Int) (i : Timpl_Term.V) (n : (List Int)) : (List Bool) → Ex × St := fun o => ((.exit 2), sT 103 [(0, dD (.sl Timpl_Decl) g), (3, .ptr 0 0 [] 0), (5, .zs), (6, .ref 1), (7, .ref 2), (8, dI l)] [.box (dD Timpl_Term i), .row 2 .deep (.int .i64) n, .row 4 .deep .bool o])
def spec_l3Widths_l2_g (g : (List Timpl_Decl.V)) (l : Int) (i : Timpl_Term.V) (n : (List Int)) (q : Int) (s : (List Bool)) : Option ((Int × (List Bool)) ⊕ (List Bool)) :=
 if (0 : Int) ≤ l ∧ l < (i.1.length : Int) then
 bif (decide (q < ((i.1.getD l.toNat (Ty.zero Timpl_TNode)).2.2.2.2.2.1.length : Int))) then
 if (0 : Int) ≤ l ∧ l < (i.1.length : Int) then
 if (0 : Int) ≤ q ∧ q < ((i.1.getD l.toNat (Ty.zero Timpl_TNode)).2.2.2.2.2.1.length : Int) then
 if (0 : Int) ≤ ((i.1.getD l.toNat (Ty.zero Timpl_TNode)).2.2.2.2.2.1.getD q.toNat (Ty.zero (.int .i64))) ∧ ((i.1.getD l.toNat (Ty.zero Timpl_TNode)).2.2.2.2.2.1.getD q.toNat (Ty.zero (.int .i64))) < (s.length : Int) then
 some (.inl ((IntKind.i64.wrap (q + 1)), (s.set ((i.1.getD l.toNat (Ty.zero Timpl_TNode)).2.2.2.2.2.1.getD q.toNat (Ty.zero (.int .i64))).toNat true)))
 else none
 else none
 else none
 else
 some (.inr s)
 else none
def spec_l3Widths_l2_r (g : (List Timpl_Decl.V)) (l : Int) (i : Timpl_Term.V) (n : (List Int)) (z_ : (Int × (List Bool))) := spec_l3Widths_l2_g g l i n z_.1 z_.2
def spec_l3Widths_l2 (g : (List Timpl_Decl.V)) (l : Int) (i : Timpl_Term.V) (n : (List Int)) (q : Int) (s : (List Bool)) := fix (spec_l3Widths_l2_r g l i n) (q, s)
theorem T34_2 (g : (List Timpl_Decl.V)) (l : Int) (i : Timpl_Term.V) (n : (List Int)) : LpOk E34 0 16 (sub (code Tryz.f110) [1, 1, 1, 1, 1, 0, 1, 0, 0]) [1, 0, 0, 1, 1, 1, 1, 1, 0] (S34_2 g l i n) (spec_l3Widths_l2_r g l i n) (O34_2 g l i n) := by
  intro _
  simp only [spec_l3Widths_l2_r, spec_l3Widths_l2_g, mC, mI, mN, mB, mE, mM]
  kernel_rfl
def spec_l3Widths_l3_g (g : (List Timpl_Decl.V)) (i : Timpl_Term.V) (l : Int) (t : (List Int)) (u : (List Bool)) : Option ((Int × (List Int) × (List Bool)) ⊕ (((List Bool) × (List Int)) ⊕ ((List Bool) × (List Int)))) :=
 bif (decide (l < (i.1.length : Int))) then
 if (0 : Int) ≤ l ∧ l < (i.1.length : Int) then
 (spec_l3Form g (i.1.getD l.toNat (Ty.zero Timpl_TNode)) l).bind fun v =>
 bif (!v) then
 some (.inr (.inl (u, t)))
 else
 if (0 : Int) ≤ l ∧ l < (i.1.length : Int) then
 (spec_l3Wide g (i.1.getD l.toNat (Ty.zero Timpl_TNode)) t).bind fun w =>
 bif (!(spec_l1In w 1 4096)) then
 some (.inr (.inl (u, t)))
 else
 if (t.length + ([w] : List Int).length) * 8 ≤ 140737488355328 then
 (spec_l3Widths_l2 g l i (t ++ ([w] : List Int)) 0 u).bind fun o =>
 some (.inl ((IntKind.i64.wrap (l + 1)), (t ++ ([w] : List Int)), o))
 else none
 else none
 else none
 else
 some (.inr (.inr (u, t)))
def spec_l3Widths_l3_r (g : (List Timpl_Decl.V)) (i : Timpl_Term.V) (z_ : (Int × (List Int) × (List Bool))) := spec_l3Widths_l3_g g i z_.1 z_.2.1 z_.2.2
def spec_l3Widths_l3 (g : (List Timpl_Decl.V)) (i : Timpl_Term.V) (l : Int) (t : (List Int)) (u : (List Bool)) := fix (spec_l3Widths_l3_r g i) (l, t, u)
theorem T34_3 (g : (List Timpl_Decl.V)) (i : Timpl_Term.V) : LpOk E34 0 7 (code Tryz.f110) [1, 1, 1, 1, 1, 0, 1, 0] (S34_3 g i) (spec_l3Widths_l3_r g i) (O34_3 g i) := by
  intro _
  simp only [spec_l3Widths_l3_r, spec_l3Widths_l3_g, mC, mI, mN, mB, mE, mM]
  simp (disch := refine sI ?_ <;> (repeat' refine sA ?_ ?_) <;> intro _ <;> kernel_rfl) only [spec_l3Widths_l2, lp_ok (T34_2 _ _ _ _) (K := stepK 0 (E34.hd 7) (E34.ot 7))]
  kernel_rfl
def S34_0 (g : (List Timpl_Decl.V)) (i : Timpl_Term.V) : St := sT 103 [(0, dD (.sl Timpl_Decl) g), (3, .ptr 0 0 [] 0), (5, .zs)] [.box (dD Timpl_Term i)]
def O34_0 (g : (List Timpl_Decl.V)) (i : Timpl_Term.V) : Bool → Ex × St := fun x => (.normal, sT 103 [(0, dD (.sl Timpl_Decl) g), (3, .ptr 0 0 [] 0), (5, .zs), (27, dB x)] [.box (dD Timpl_Term i)])
def spec_l3Widths_l0 (g : (List Timpl_Decl.V)) (i : Timpl_Term.V) : Option Bool :=
 (spec_DeclsOk g).bind fun y =>
 bif (!y) then
 some true
 else
 bif (decide ((i.1.length : Int) < 1)) then
 some true
 else
 some (decide ((i.1.length : Int) > 400))
theorem T34_0 (g : (List Timpl_Decl.V)) (i : Timpl_Term.V) : JnOk E34 0 3 (code Tryz.f110) [1, 1, 0, 0] (S34_0 g i) (spec_l3Widths_l0 g i) (O34_0 g i) := by
  unfold JnOk
  simp only [spec_l3Widths_l0, mC, mI, mN, mB, mE, mM]
  kernel_rfl
def spec_l3Widths (g : (List Timpl_Decl.V)) (i : Timpl_Term.V) : Option (List Int) :=
 (spec_l3Widths_l0 g i).bind fun x =>
 bif x then
 some ([] : List Int)
 else
 if Ty.row .bool = true ∧ (0 : Int) ≤ (i.1.length : Int) ∧ (i.1.length : Int) ≤ (i.1.length : Int) ∧ ((1 : Nat) : Int) * (i.1.length : Int) ≤ (281474976710656 : Int) ∧ (i.1.length : Int) ≤ (9223372036854775807 : Int) then
 (spec_l3Widths_l3 g i 0 ([] : List Int) (List.replicate (i.1.length : Int).toNat false)).bind (Sum.elim (fun j =>
 some ([] : List Int)) (fun k =>
 (spec_l3Widths_l4 k.1 k.2 0).bind (Sum.elim (fun c =>
 some ([] : List Int)) (fun d =>
 some k.2))))
 else none
theorem U34 (R : Type) (g : (List Timpl_Decl.V)) (i : Timpl_Term.V) (K : AV → List Blk → Option R) : runF E34 Tryz.f110 R [dD (.sl Timpl_Decl) g, dD Timpl_Term i] [] K = (spec_l3Widths g i).bind fun r => K (.ref 0) [.row 2 .deep (.int .i64) r] := by
  simp only [spec_l3Widths, bC, bI, bN, bE, bA, bS, bO, bM]
  simp (disch := refine sI ?_ <;> (repeat' refine sA ?_ ?_) <;> intro _ <;> kernel_rfl) only [jn_ok (T34_0 _ _) (K := finK E34 Tryz.f110 0 R K), spec_l3Widths_l3, lp_ok (T34_3 _ _) (K := finK E34 Tryz.f110 0 R K), spec_l3Widths_l4, lp_ok (T34_4 _ _) (K := finK E34 Tryz.f110 0 R K)]
  kernel_rfl
def c110 : Va.Callee := brC [.d (.sl Timpl_Decl), .d Timpl_Term] [⟨[.dat [] (.sl Timpl_Decl), .dat [] Timpl_Term], [], (List Int), fun p => spec_l3Widths p.1.1 p.1.2.1, fun r => (.ref 0, [.row 2 .deep (.int .i64) r])⟩]
theorem c110_snd : SoundC Tryz.prog 110 c110 := br_snd (fn := Tryz.f110) (by kernel_rfl) (by kernel_rfl) (by kernel_rfl) ⟨⟨E34, ⟨⟨tabok, fns_ok ⟨c48_snd, c60_snd, c152_snd, c153_snd, trivial⟩⟩, mixed⟩, fun p R K => U34 R p.1.1 p.1.2.1 K⟩, trivial⟩
abbrev E35 : Env := ⟨tab, lookH [(110, c110)], { deep := true }⟩
def spec_WidthOf (a : (List Timpl_Decl.V)) (b : Timpl_Term.V) : Option Int :=
 (spec_l3Widths a b).bind fun c =>
 bif ((c.length : Int) == 0) then
 some (-1)
 else
 if (0 : Int) ≤ (IntKind.i64.wrap ((c.length : Int) - 1)) ∧ (IntKind.i64.wrap ((c.length : Int) - 1)) < (c.length : Int) then
 some (c.getD (IntKind.i64.wrap ((c.length : Int) - 1)).toNat (Ty.zero (.int .i64)))
 else none
theorem U35 (R : Type) (a : (List Timpl_Decl.V)) (b : Timpl_Term.V) (K : AV → List Blk → Option R) : runF E35 Tryz.f61 R [dD (.sl Timpl_Decl) a, dD Timpl_Term b] [] K = (spec_WidthOf a b).bind fun r => K (dI r) [] := by
  simp only [spec_WidthOf, bC, bI, bN, bE, bA, bS, bO, bM]
  kernel_rfl
def c61 : Va.Callee := brC [.d (.sl Timpl_Decl), .d Timpl_Term] [⟨[.dat [] (.sl Timpl_Decl), .dat [] Timpl_Term], [], Int, fun p => spec_WidthOf p.1.1 p.1.2.1, fun r => (dI r, [])⟩]
theorem c61_snd : SoundC Tryz.prog 61 c61 := br_snd (fn := Tryz.f61) (by kernel_rfl) (by kernel_rfl) (by kernel_rfl) ⟨⟨E35, ⟨⟨tabok, fns_ok ⟨c110_snd, trivial⟩⟩, mixed⟩, fun p R K => U35 R p.1.1 p.1.2.1 K⟩, trivial⟩
abbrev E36 : Env := ⟨tab, lookH [(48, c48), (60, c60), (61, c61)], { deep := true, heads := [(4, { live := [0, 1, 5] })], outs := [(4, { live := [4] })], joins := [(2, { live := [0, 1, 14] }), (8, { live := [0, 1, 5, 67] })], ents := [(2, [0, 1]), (8, [0, 1, 5, 6])] }⟩
def S36_2 (a : (List Timpl_Decl.V)) (b : (List Timpl_Literal.V)) (z_ : Int) : St := sT 68 [(0, dD (.sl Timpl_Decl) a), (1, dD (.sl Timpl_Literal) b), (5, dI z_)] []
def O36_2 (a : (List Timpl_Decl.V)) (b : (List Timpl_Literal.V)) : (Unit ⊕ Unit) → Ex × St := Sum.elim (fun c => (.ret, sT 68 [(4, dB false)] [])) (fun d => ((.exit 0), sT 68 [] []))
def S36_1 (a : (List Timpl_Decl.V)) (b : (List Timpl_Literal.V)) (e : Int) (g : Int) : St := sT 68 [(0, dD (.sl Timpl_Decl) a), (1, dD (.sl Timpl_Literal) b), (5, dI e), (6, dI g)] []
def O36_1 (a : (List Timpl_Decl.V)) (b : (List Timpl_Literal.V)) (e : Int) (g : Int) : Bool → Ex × St := fun i => (.normal, sT 68 [(0, dD (.sl Timpl_Decl) a), (1, dD (.sl Timpl_Literal) b), (5, dI e), (67, dB i)] [])
def spec_LiteralsOk_l1 (a : (List Timpl_Decl.V)) (b : (List Timpl_Literal.V)) (e : Int) (g : Int) : Option Bool :=
 if (0 : Int) ≤ e ∧ e < (b.length : Int) then
 bif (!(spec_l1In (b.getD e.toNat (Ty.zero Timpl_Literal)).1 1 1000000)) then
 some true
 else
 bif (decide (e > 0)) then
 if (0 : Int) ≤ e ∧ e < (b.length : Int) then
 if (0 : Int) ≤ (IntKind.i64.wrap (e - 1)) ∧ (IntKind.i64.wrap (e - 1)) < (b.length : Int) then
 bif (decide ((b.getD e.toNat (Ty.zero Timpl_Literal)).1 ≤ (b.getD (IntKind.i64.wrap (e - 1)).toNat (Ty.zero Timpl_Literal)).1)) then
 some true
 else
 bif (decide (g < 0)) then
 some true
 else
 if (0 : Int) ≤ e ∧ e < (b.length : Int) then
 (spec_WidthOf a (b.getD e.toNat (Ty.zero Timpl_Literal)).2.2.2.1).bind fun j =>
 some (j != g)
 else none
 else none
 else none
 else
 bif (decide (g < 0)) then
 some true
 else
 if (0 : Int) ≤ e ∧ e < (b.length : Int) then
 (spec_WidthOf a (b.getD e.toNat (Ty.zero Timpl_Literal)).2.2.2.1).bind fun k =>
 some (k != g)
 else none
 else none
theorem T36_1 (a : (List Timpl_Decl.V)) (b : (List Timpl_Literal.V)) (e : Int) (g : Int) : JnOk E36 0 8 (sub (code Tryz.f30) [1, 1, 0, 1, 0, 0]) [1, 0, 0, 1, 0] (S36_1 a b e g) (spec_LiteralsOk_l1 a b e g) (O36_1 a b e g) := by
  unfold JnOk
  simp only [spec_LiteralsOk_l1, mC, mI, mN, mB, mE, mM]
  kernel_rfl
def spec_LiteralsOk_l2_g (a : (List Timpl_Decl.V)) (b : (List Timpl_Literal.V)) (e : Int) : Option (Int ⊕ (Unit ⊕ Unit)) :=
 bif (decide (e < (b.length : Int))) then
 if (0 : Int) ≤ e ∧ e < (b.length : Int) then
 (spec_WidthOf a (b.getD e.toNat (Ty.zero Timpl_Literal)).2.2.1).bind fun g =>
 (spec_LiteralsOk_l1 a b e g).bind fun i =>
 bif i then
 some (.inr (.inl ()))
 else
 some (.inl (IntKind.i64.wrap (e + 1)))
 else none
 else
 some (.inr (.inr ()))
def spec_LiteralsOk_l2_r (a : (List Timpl_Decl.V)) (b : (List Timpl_Literal.V)) (z_ : Int) := spec_LiteralsOk_l2_g a b z_
def spec_LiteralsOk_l2 (a : (List Timpl_Decl.V)) (b : (List Timpl_Literal.V)) (e : Int) := fix (spec_LiteralsOk_l2_r a b) e
theorem T36_2 (a : (List Timpl_Decl.V)) (b : (List Timpl_Literal.V)) : LpOk E36 0 4 (code Tryz.f30) [1, 1, 0, 1, 0] (S36_2 a b) (spec_LiteralsOk_l2_r a b) (O36_2 a b) := by
  intro _
  simp only [spec_LiteralsOk_l2_r, spec_LiteralsOk_l2_g, mC, mI, mN, mB, mE, mM]
  simp (disch := refine sI ?_ <;> (repeat' refine sA ?_ ?_) <;> intro _ <;> kernel_rfl) only [jn_ok (T36_1 _ _ _ _) (K := stepK 0 (E36.hd 4) (E36.ot 4))]
  kernel_rfl
def S36_0 (a : (List Timpl_Decl.V)) (b : (List Timpl_Literal.V)) : St := sT 68 [(0, dD (.sl Timpl_Decl) a), (1, dD (.sl Timpl_Literal) b)] []
def O36_0 (a : (List Timpl_Decl.V)) (b : (List Timpl_Literal.V)) : Bool → Ex × St := fun l => (.normal, sT 68 [(0, dD (.sl Timpl_Decl) a), (1, dD (.sl Timpl_Literal) b), (14, dB l)] [])
def spec_LiteralsOk_l0 (a : (List Timpl_Decl.V)) (b : (List Timpl_Literal.V)) : Option Bool :=
 (spec_DeclsOk a).bind fun n =>
 bif (!n) then
 some true
 else
 some (decide ((b.length : Int) > 60))
theorem T36_0 (a : (List Timpl_Decl.V)) (b : (List Timpl_Literal.V)) : JnOk E36 0 2 (code Tryz.f30) [1, 0, 0] (S36_0 a b) (spec_LiteralsOk_l0 a b) (O36_0 a b) := by
  unfold JnOk
  simp only [spec_LiteralsOk_l0, mC, mI, mN, mB, mE, mM]
  kernel_rfl
def spec_LiteralsOk (a : (List Timpl_Decl.V)) (b : (List Timpl_Literal.V)) : Option Bool :=
 (spec_LiteralsOk_l0 a b).bind fun l =>
 bif l then
 some false
 else
 (spec_LiteralsOk_l2 a b 0).bind (Sum.elim (fun c =>
 some false) (fun d =>
 some true))
theorem U36 (R : Type) (a : (List Timpl_Decl.V)) (b : (List Timpl_Literal.V)) (K : AV → List Blk → Option R) : runF E36 Tryz.f30 R [dD (.sl Timpl_Decl) a, dD (.sl Timpl_Literal) b] [] K = (spec_LiteralsOk a b).bind fun r => K (dB r) [] := by
  simp only [spec_LiteralsOk, bC, bI, bN, bE, bA, bS, bO, bM]
  simp (disch := refine sI ?_ <;> (repeat' refine sA ?_ ?_) <;> intro _ <;> kernel_rfl) only [jn_ok (T36_0 _ _) (K := finK E36 Tryz.f30 0 R K), spec_LiteralsOk_l2, lp_ok (T36_2 _ _) (K := finK E36 Tryz.f30 0 R K)]
  kernel_rfl
def c30 : Va.Callee := brC [.d (.sl Timpl_Decl), .d (.sl Timpl_Literal)] [⟨[.dat [] (.sl Timpl_Decl), .dat [] (.sl Timpl_Literal)], [], Bool, fun p => spec_LiteralsOk p.1.1 p.1.2.1, fun r => (dB r, [])⟩]
theorem c30_snd : SoundC Tryz.prog 30 c30 := br_snd (fn := Tryz.f30) (by kernel_rfl) (by kernel_rfl) (by kernel_rfl) ⟨⟨E36, ⟨⟨tabok, fns_ok ⟨c48_snd, c60_snd, c61_snd, trivial⟩⟩, mixed⟩, fun p R K => U36 R p.1.1 p.1.2.1 K⟩, trivial⟩
abbrev E37 : Env := ⟨tab, lookH [(133, c133)], { deep := true, heads := [(5, { live := [0, 4, 7, 8], pre := [(7, false, .row [] 150 Tspec_l5Bit true)] }), (10, { live := [4, 7, 9], pre := [(7, false, .row [] 150 Tspec_l5Bit true)] }), (15, { live := [2, 7, 10], pre := [(7, false, .row [] 150 Tspec_l5Bit true)] }), (27, { live := [4, 7, 11, 12] }), (40, { live := [2, 4, 7, 15], pre := [(7, false, .row [] 150 Tspec_l5Bit true)] })], outs := [(5, { live := [7] }), (10, { live := [7] }), (15, { live := [7] }), (27, { live := [7] }), (40, { live := [7] })], joins := [(22, { live := [2, 4, 7, 18, 84] }), (25, { live := [2, 4, 7, 11] }), (32, { live := [2, 4, 7, 18, 116] }), (36, { live := [2, 7, 13, 14] }), (43, { live := [7], pre := [(7, false, .row [] 150 Tspec_l5Bit true)] })], ents := [(22, [2, 4, 7, 18]), (25, [2, 4, 7, 11]), (32, [2, 4, 7, 18]), (36, [2, 4, 7, 13, 14]), (43, [0, 2, 4, 7])] }⟩
def S37_20 (a : (List Timpl_Decl.V)) (b : (List (List Tspec_l5Bit.V))) (c : Timpl_TNode.V) : St := sT 167 [(0, dD (.sl Timpl_Decl) a), (2, dD (.sl (.sl Tspec_l5Bit)) b), (4, .ptr 0 0 [] 0), (7, .zs)] [.box (dD Timpl_TNode c)]
def O37_20 (a : (List Timpl_Decl.V)) (b : (List (List Tspec_l5Bit.V))) (c : Timpl_TNode.V) : (List Tspec_l5Bit.V) → Ex × St := fun d => (.normal, sT 167 [(7, .ref 0)] [.row 150 .deep Tspec_l5Bit d])
def S37_19 (b : (List (List Tspec_l5Bit.V))) (c : Timpl_TNode.V) (z_ : (Int × (List Tspec_l5Bit.V))) : St := sT 167 [(2, dD (.sl (.sl Tspec_l5Bit)) b), (4, .ptr 0 0 [] 0), (7, .ref 1), (15, dI z_.1)] [.box (dD Timpl_TNode c), .row 150 .deep Tspec_l5Bit z_.2]
def O37_19 (b : (List (List Tspec_l5Bit.V))) (c : Timpl_TNode.V) : (List Tspec_l5Bit.V) → Ex × St := fun e => ((.exit 9), sT 167 [(7, .ref 0)] [.row 150 .deep Tspec_l5Bit e])
def spec_l5Node_l19_g (b : (List (List Tspec_l5Bit.V))) (c : Timpl_TNode.V) (g : Int) (i : (List Tspec_l5Bit.V)) : Option ((Int × (List Tspec_l5Bit.V)) ⊕ (List Tspec_l5Bit.V)) :=
 bif (decide (g < c.2.2.1)) then
 if (0 : Int) ≤ (0 : Int) ∧ (0 : Int) < (b.length : Int) then
 if (i.length + (b.getD 0 (Ty.zero (.sl Tspec_l5Bit))).length) * 16 ≤ 140737488355328 then
 some (.inl ((IntKind.i64.wrap (g + 1)), (i ++ (b.getD 0 (Ty.zero (.sl Tspec_l5Bit))))))
 else none
 else none
 else
 some (.inr i)
def spec_l5Node_l19_r (b : (List (List Tspec_l5Bit.V))) (c : Timpl_TNode.V) (z_ : (Int × (List Tspec_l5Bit.V))) := spec_l5Node_l19_g b c z_.1 z_.2
def spec_l5Node_l19 (b : (List (List Tspec_l5Bit.V))) (c : Timpl_TNode.V) (g : Int) (i : (List Tspec_l5Bit.V)) := fix (spec_l5Node_l19_r b c) (g, i)
theorem T37_19 (b : (List (List Tspec_l5Bit.V))) (c : Timpl_TNode.V) : LpOk E37 0 40 (sub (code Tryz.f111) [1, 1, 0]) [1, 0, 1, 1, 1, 1, 1, 1, 1, 1, 1, 1, 1, 1, 1, 0, 1, 0] (S37_19 b c) (spec_l5Node_l19_r b c) (O37_19 b c) := by
  intro _
  simp only [spec_l5Node_l19_r, spec_l5Node_l19_g, mC, mI, mN, mB, mE, mM]
  kernel_rfl
def S37_18 (b : (List (List Tspec_l5Bit.V))) (c : Timpl_TNode.V) (j : Int) (k : Int) : St := sT 167 [(2, dD (.sl (.sl Tspec_l5Bit)) b), (4, .ptr 0 0 [] 0), (7, .zs), (13, dI j), (14, dI k)] [.box (dD Timpl_TNode c)]
def O37_18 (b : (List (List Tspec_l5Bit.V))) (c : Timpl_TNode.V) (j : Int) (k : Int) : Int → Ex × St := fun l => (.normal, sT 167 [(2, dD (.sl (.sl Tspec_l5Bit)) b), (7, .zs), (13, dI j), (14, dI l)] [])
def spec_l5Node_l18 (b : (List (List Tspec_l5Bit.V))) (c : Timpl_TNode.V) (j : Int) (k : Int) : Option Int :=
 bif (c.1 == 8) then
 if j = (0 : Int) then none else
 some (Int.tmod (IntKind.i64.wrap (j - k)) j)
 else
 some k
theorem T37_18 (b : (List (List Tspec_l5Bit.V))) (c : Timpl_TNode.V) (j : Int) (k : Int) : JnOk E37 0 36 (sub (code Tryz.f111) [1, 1, 0]) [1, 0, 1, 1, 1, 1, 1, 1, 1, 1, 1, 1, 1, 0, 1, 1, 0] (S37_18 b c j k) (spec_l5Node_l18 b c j k) (O37_18 b c j k) := by
  unfold JnOk
  simp only [spec_l5Node_l18, mC, mI, mN, mB, mE, mM]
  kernel_rfl
def S37_17 (b : (List (List Tspec_l5Bit.V))) (c : Timpl_TNode.V) : St := sT 167 [(2, dD (.sl (.sl Tspec_l5Bit)) b), (4, .ptr 0 0 [] 0), (7, .zs), (18, dI c.1)] [.box (dD Timpl_TNode c)]
def O37_17 (b : (List (List Tspec_l5Bit.V))) (c : Timpl_TNode.V) (m0 : Bool) : Ex × St := (.normal, sT 167 [(2, dD (.sl (.sl Tspec_l5Bit)) b), (4, .ptr 0 0 [] 0), (7, .zs), (18, dI c.1), (116, dB m0)] [.box (dD Timpl_TNode c)])
theorem T37_17 (b : (List (List Tspec_l5Bit.V))) (c : Timpl_TNode.V) : jnS E37 0 32 (sub (code Tryz.f111) [1, 1, 0]) [1, 0, 1, 1, 1, 1, 1, 1, 1, 1, 1, 1, 0] (S37_17 b c) = some (O37_17 b c (bif (c.1 == 7) then (c.1 == 7) else (c.1 == 8))) := by
  have h0 : jnS E37 0 32 (sub (code Tryz.f111) [1, 1, 0]) [1, 0, 1, 1, 1, 1, 1, 1, 1, 1, 1, 1, 0] (S37_17 b c) =
 bif (c.1 == 7) then
 some (O37_17 b c (c.1 == 7))
 else
 some (O37_17 b c (c.1 == 8)) := by kernel_rfl
  rw [h0]
  cases h1 : (c.1 == 7)
  · first | rfl | kernel_rfl
  · first | rfl | kernel_rfl
def S37_16 (c : Timpl_TNode.V) (z_ : (Int × (List Tspec_l5Bit.V))) : St := sT 167 [(4, .ptr 0 0 [] 0), (7, .ref 1), (11, .ptr 2 0 [] 0), (12, dI z_.1)] [.box (dD Timpl_TNode c), .row 150 .deep Tspec_l5Bit z_.2, .box (.pr (dI (-1)) (.pr (dI 0) .u))]
def O37_16 (c : Timpl_TNode.V) : (List Tspec_l5Bit.V) → Ex × St := fun n => ((.exit 7), sT 167 [(7, .ref 0)] [.row 150 .deep Tspec_l5Bit n])
def spec_l5Node_l16_g (c : Timpl_TNode.V) (o : Int) (q : (List Tspec_l5Bit.V)) : Option ((Int × (List Tspec_l5Bit.V)) ⊕ (List Tspec_l5Bit.V)) :=
 bif (decide (o < c.2.2.1)) then
 if (q.length + ([((-1), 0, ())] : List Tspec_l5Bit.V).length) * 16 ≤ 140737488355328 then
 some (.inl ((IntKind.i64.wrap (o + 1)), (q ++ ([((-1), 0, ())] : List Tspec_l5Bit.V))))
 else none
 else
 some (.inr q)
def spec_l5Node_l16_r (c : Timpl_TNode.V) (z_ : (Int × (List Tspec_l5Bit.V))) := spec_l5Node_l16_g c z_.1 z_.2
def spec_l5Node_l16 (c : Timpl_TNode.V) (o : Int) (q : (List Tspec_l5Bit.V)) := fix (spec_l5Node_l16_r c) (o, q)
theorem T37_16 (c : Timpl_TNode.V) : LpOk E37 0 27 (sub (code Tryz.f111) [1, 1, 0]) [1, 0, 1, 1, 1, 1, 1, 1, 1, 1, 1, 0, 1, 1, 1, 1, 0] (S37_16 c) (spec_l5Node_l16_r c) (O37_16 c) := by
  intro _
  simp only [spec_l5Node_l16_r, spec_l5Node_l16_g, mC, mI, mN, mB, mE, mM]
  kernel_rfl
def S37_15 (c : Timpl_TNode.V) (s : Tspec_l5Bit.V) (z_ : (Int × (List Tspec_l5Bit.V))) : St := sT 167 [(4, .ptr 0 0 [] 0), (7, .ref 1), (11, .ptr 2 0 [] 0), (12, dI z_.1)] [.box (dD Timpl_TNode c), .row 150 .deep Tspec_l5Bit z_.2, .box (dD Tspec_l5Bit s)]
def O37_15 (c : Timpl_TNode.V) (s : Tspec_l5Bit.V) : (List Tspec_l5Bit.V) → Ex × St := fun t => ((.exit 7), sT 167 [(7, .ref 0)] [.row 150 .deep Tspec_l5Bit t])
def spec_l5Node_l15_g (c : Timpl_TNode.V) (s : Tspec_l5Bit.V) (u : Int) (v : (List Tspec_l5Bit.V)) : Option ((Int × (List Tspec_l5Bit.V)) ⊕ (List Tspec_l5Bit.V)) :=
 bif (decide (u < c.2.2.1)) then
 if (v.length + ([s] : List Tspec_l5Bit.V).length) * 16 ≤ 140737488355328 then
 some (.inl ((IntKind.i64.wrap (u + 1)), (v ++ ([s] : List Tspec_l5Bit.V))))
 else none
 else
 some (.inr v)
def spec_l5Node_l15_r (c : Timpl_TNode.V) (s : Tspec_l5Bit.V) (z_ : (Int × (List Tspec_l5Bit.V))) := spec_l5Node_l15_g c s z_.1 z_.2
def spec_l5Node_l15 (c : Timpl_TNode.V) (s : Tspec_l5Bit.V) (u : Int) (v : (List Tspec_l5Bit.V)) := fix (spec_l5Node_l15_r c s) (u, v)
theorem T37_15 (c : Timpl_TNode.V) (s : Tspec_l5Bit.V) : LpOk E37 0 27 (sub (code Tryz.f111) [1, 1, 0]) [1, 0, 1, 1, 1, 1, 1, 1, 1, 1, 1, 0, 1, 1, 1, 1, 0] (S37_15 c s) (spec_l5Node_l15_r c s) (O37_15 c s) := by
  intro _
  simp only [spec_l5Node_l15_r, spec_l5Node_l15_g, mC, mI, mN, mB, mE, mM]
  kernel_rfl
def S37_14 (b : (List (List Tspec_l5Bit.V))) (c : Timpl_TNode.V) : St := sT 167 [(2, dD (.sl (.sl Tspec_l5Bit)) b), (4, .ptr 0 0 [] 0), (7, .zs), (11, .ptr 1 0 [] 0)] [.box (dD Timpl_TNode c), .box (.pr (dI (-1)) (.pr (dI 0) .u))]
def O37_14 (b : (List (List Tspec_l5Bit.V))) (c : Timpl_TNode.V) : (Unit ⊕ Unit) → Ex × St := Sum.elim (fun w => (.normal, sT 167 [(2, dD (.sl (.sl Tspec_l5Bit)) b), (4, .ptr 0 0 [] 0), (7, .zs), (11, .ptr 1 0 [] 0)] [.box (dD Timpl_TNode c), .box (dD Tspec_l5Bit ((b.getD 0 (Ty.zero (.sl Tspec_l5Bit))).getD (IntKind.i64.wrap (((b.getD 0 (Ty.zero (.sl Tspec_l5Bit))).length : Int) - 1)).toNat (Ty.zero Tspec_l5Bit)))])) (fun x => (.normal, sT 167 [(2, dD (.sl (.sl Tspec_l5Bit)) b), (4, .ptr 0 0 [] 0), (7, .zs), (11, .ptr 1 0 [] 0)] [.box (dD Timpl_TNode c), .box (.pr (dI (-1)) (.pr (dI 0) .u))]))
def spec_l5Node_l14 (b : (List (List Tspec_l5Bit.V))) (c : Timpl_TNode.V) : Option (Unit ⊕ Unit) :=
 bif (c.1 == 6) then
 if (0 : Int) ≤ (0 : Int) ∧ (0 : Int) < (b.length : Int) then
 if (0 : Int) ≤ (0 : Int) ∧ (0 : Int) < (b.length : Int) then
 if (0 : Int) ≤ (IntKind.i64.wrap (((b.getD 0 (Ty.zero (.sl Tspec_l5Bit))).length : Int) - 1)) ∧ (IntKind.i64.wrap (((b.getD 0 (Ty.zero (.sl Tspec_l5Bit))).length : Int) - 1)) < ((b.getD 0 (Ty.zero (.sl Tspec_l5Bit))).length : Int) then
 some (.inl ())
 else none
 else none
 else none
 else
 some (.inr ())
theorem T37_14 (b : (List (List Tspec_l5Bit.V))) (c : Timpl_TNode.V) : JnOk E37 0 25 (sub (code Tryz.f111) [1, 1, 0]) [1, 0, 1, 1, 1, 1, 1, 1, 1, 1, 1, 0, 1, 0] (S37_14 b c) (spec_l5Node_l14 b c) (O37_14 b c) := by
  unfold JnOk
  simp only [spec_l5Node_l14, mC, mI, mN, mB, mE, mM]
  kernel_rfl
def S37_13 (b : (List (List Tspec_l5Bit.V))) (c : Timpl_TNode.V) : St := sT 167 [(2, dD (.sl (.sl Tspec_l5Bit)) b), (4, .ptr 0 0 [] 0), (7, .zs), (18, dI c.1)] [.box (dD Timpl_TNode c)]
def O37_13 (b : (List (List Tspec_l5Bit.V))) (c : Timpl_TNode.V) (m0 : Bool) : Ex × St := (.normal, sT 167 [(2, dD (.sl (.sl Tspec_l5Bit)) b), (4, .ptr 0 0 [] 0), (7, .zs), (18, dI c.1), (84, dB m0)] [.box (dD Timpl_TNode c)])
theorem T37_13 (b : (List (List Tspec_l5Bit.V))) (c : Timpl_TNode.V) : jnS E37 0 22 (sub (code Tryz.f111) [1, 1, 0]) [1, 0, 1, 1, 1, 1, 1, 1, 1, 1, 0] (S37_13 b c) = some (O37_13 b c (bif (c.1 == 5) then (c.1 == 5) else (c.1 == 6))) := by
  have h0 : jnS E37 0 22 (sub (code Tryz.f111) [1, 1, 0]) [1, 0, 1, 1, 1, 1, 1, 1, 1, 1, 0] (S37_13 b c) =
 bif (c.1 == 5) then
 some (O37_13 b c (c.1 == 5))
 else
 some (O37_13 b c (c.1 == 6)) := by kernel_rfl
  rw [h0]
  cases h1 : (c.1 == 5)
  · first | rfl | kernel_rfl
  · first | rfl | kernel_rfl
def S37_12 (b : (List (List Tspec_l5Bit.V))) (z_ : (Int × (List Tspec_l5Bit.V))) : St := sT 167 [(2, dD (.sl (.sl Tspec_l5Bit)) b), (7, .ref 0), (10, dI z_.1)] [.row 150 .deep Tspec_l5Bit z_.2]
def O37_12 (b : (List (List Tspec_l5Bit.V))) : (List Tspec_l5Bit.V) → Ex × St := fun y => ((.exit 5), sT 167 [(7, .ref 0)] [.row 150 .deep Tspec_l5Bit y])
def spec_l5Node_l12_g (b : (List (List Tspec_l5Bit.V))) (a1 : Int) (b1 : (List Tspec_l5Bit.V)) : Option ((Int × (List Tspec_l5Bit.V)) ⊕ (List Tspec_l5Bit.V)) :=
 bif (decide (a1 ≥ 0)) then
 if (0 : Int) ≤ a1 ∧ a1 < (b.length : Int) then
 if (b1.length + (b.getD a1.toNat (Ty.zero (.sl Tspec_l5Bit))).length) * 16 ≤ 140737488355328 then
 some (.inl ((IntKind.i64.wrap (a1 - 1)), (b1 ++ (b.getD a1.toNat (Ty.zero (.sl Tspec_l5Bit))))))
 else none
 else none
 else
 some (.inr b1)
def spec_l5Node_l12_r (b : (List (List Tspec_l5Bit.V))) (z_ : (Int × (List Tspec_l5Bit.V))) := spec_l5Node_l12_g b z_.1 z_.2
def spec_l5Node_l12 (b : (List (List Tspec_l5Bit.V))) (a1 : Int) (b1 : (List Tspec_l5Bit.V)) := fix (spec_l5Node_l12_r b) (a1, b1)
theorem T37_12 (b : (List (List Tspec_l5Bit.V))) : LpOk E37 0 15 (sub (code Tryz.f111) [1, 1, 0]) [1, 0, 1, 1, 1, 1, 1, 0, 1, 0] (S37_12 b) (spec_l5Node_l12_r b) (O37_12 b) := by
  intro _
  simp only [spec_l5Node_l12_r, spec_l5Node_l12_g, mC, mI, mN, mB, mE, mM]
  kernel_rfl
def S37_11 (c : Timpl_TNode.V) (z_ : (Int × (List Tspec_l5Bit.V))) : St := sT 167 [(4, .ptr 0 0 [] 0), (7, .ref 1), (9, dI z_.1)] [.box (dD Timpl_TNode c), .row 150 .deep Tspec_l5Bit z_.2]
def O37_11 (c : Timpl_TNode.V) : (List Tspec_l5Bit.V) → Ex × St := fun c1 => ((.exit 3), sT 167 [(7, .ref 0)] [.row 150 .deep Tspec_l5Bit c1])
def spec_l5Node_l11_g (c : Timpl_TNode.V) (d1 : Int) (e1 : (List Tspec_l5Bit.V)) : Option ((Int × (List Tspec_l5Bit.V)) ⊕ (List Tspec_l5Bit.V)) :=
 bif (decide (d1 < c.2.2.2.2.1.1)) then
 (spec_l1Bit c.2.2.2.2.1 d1).bind fun g1 =>
 if (e1.length + ([((-1), (IntKind.i64.wrap g1), ())] : List Tspec_l5Bit.V).length) * 16 ≤ 140737488355328 then
 some (.inl ((IntKind.i64.wrap (d1 + 1)), (e1 ++ ([((-1), (IntKind.i64.wrap g1), ())] : List Tspec_l5Bit.V))))
 else none
 else
 some (.inr e1)
def spec_l5Node_l11_r (c : Timpl_TNode.V) (z_ : (Int × (List Tspec_l5Bit.V))) := spec_l5Node_l11_g c z_.1 z_.2
def spec_l5Node_l11 (c : Timpl_TNode.V) (d1 : Int) (e1 : (List Tspec_l5Bit.V)) := fix (spec_l5Node_l11_r c) (d1, e1)
theorem T37_11 (c : Timpl_TNode.V) : LpOk E37 0 10 (sub (code Tryz.f111) [1, 1, 0]) [1, 0, 1, 1, 1, 0, 1, 0] (S37_11 c) (spec_l5Node_l11_r c) (O37_11 c) := by
  intro _
  simp only [spec_l5Node_l11_r, spec_l5Node_l11_g, mC, mI, mN, mB, mE, mM]
  kernel_rfl
def S37_10 (a : (List Timpl_Decl.V)) (c : Timpl_TNode.V) (z_ : (Int × (List Tspec_l5Bit.V))) : St := sT 167 [(0, dD (.sl Timpl_Decl) a), (4, .ptr 0 0 [] 0), (7, .ref 1), (8, dI z_.1)] [.box (dD Timpl_TNode c), .row 150 .deep Tspec_l5Bit z_.2]
def O37_10 (a : (List Timpl_Decl.V)) (c : Timpl_TNode.V) : (List Tspec_l5Bit.V) → Ex × St := fun i1 => ((.exit 1), sT 167 [(7, .ref 0)] [.row 150 .deep Tspec_l5Bit i1])
def spec_l5Node_l10_g (a : (List Timpl_Decl.V)) (c : Timpl_TNode.V) (j1 : Int) (k1 : (List Tspec_l5Bit.V)) : Option ((Int × (List Tspec_l5Bit.V)) ⊕ (List Tspec_l5Bit.V)) :=
 if (0 : Int) ≤ c.2.1 ∧ c.2.1 < (a.length : Int) then
 bif (decide (j1 < (a.getD c.2.1.toNat (Ty.zero Timpl_Decl)).2.1)) then
 if (k1.length + ([(c.2.1, j1, ())] : List Tspec_l5Bit.V).length) * 16 ≤ 140737488355328 then
 some (.inl ((IntKind.i64.wrap (j1 + 1)), (k1 ++ ([(c.2.1, j1, ())] : List Tspec_l5Bit.V))))
 else none
 else
 some (.inr k1)
 else none
def spec_l5Node_l10_r (a : (List Timpl_Decl.V)) (c : Timpl_TNode.V) (z_ : (Int × (List Tspec_l5Bit.V))) := spec_l5Node_l10_g a c z_.1 z_.2
def spec_l5Node_l10 (a : (List Timpl_Decl.V)) (c : Timpl_TNode.V) (j1 : Int) (k1 : (List Tspec_l5Bit.V)) := fix (spec_l5Node_l10_r a c) (j1, k1)
theorem T37_10 (a : (List Timpl_Decl.V)) (c : Timpl_TNode.V) : LpOk E37 0 5 (sub (code Tryz.f111) [1, 1, 0]) [1, 0, 1, 0, 1, 0] (S37_10 a c) (spec_l5Node_l10_r a c) (O37_10 a c) := by
  intro _
  simp only [spec_l5Node_l10_r, spec_l5Node_l10_g, mC, mI, mN, mB, mE, mM]
  kernel_rfl
def spec_l5Node_l20 (a : (List Timpl_Decl.V)) (b : (List (List Tspec_l5Bit.V))) (c : Timpl_TNode.V) : Option (List Tspec_l5Bit.V) :=
 bif (c.1 == 1) then
 (spec_l5Node_l10 a c 0 ([] : List Tspec_l5Bit.V)).bind fun i1 =>
 some i1
 else
 bif (c.1 == 2) then
 (spec_l5Node_l11 c 0 ([] : List Tspec_l5Bit.V)).bind fun c1 =>
 some c1
 else
 bif (c.1 == 3) then
 (spec_l5Node_l12 b (IntKind.i64.wrap ((b.length : Int) - 1)) ([] : List Tspec_l5Bit.V)).bind fun y =>
 some y
 else
 bif (c.1 == 4) then
 if (0 : Int) ≤ (0 : Int) ∧ (0 : Int) < (b.length : Int) then
 if (0 : Int) ≤ c.2.2.2.1 ∧ c.2.2.2.1 ≤ (IntKind.i64.wrap (c.2.2.1 + 1)) ∧ (IntKind.i64.wrap (c.2.2.1 + 1)) ≤ ((b.getD 0 (Ty.zero (.sl Tspec_l5Bit))).length : Int) then
 if (((b.getD 0 (Ty.zero (.sl Tspec_l5Bit))).take (IntKind.i64.wrap (c.2.2.1 + 1)).toNat).drop c.2.2.2.1.toNat).length * 16 ≤ 140737488355328 then
 some (((b.getD 0 (Ty.zero (.sl Tspec_l5Bit))).take (IntKind.i64.wrap (c.2.2.1 + 1)).toNat).drop c.2.2.2.1.toNat)
 else none
 else none
 else none
 else
 mkr (S37_13 b c) (
 bif (bif (c.1 == 5) then (c.1 == 5) else (c.1 == 6)) then
 (spec_l5Node_l14 b c).bind (Sum.elim (fun w =>
 if (0 : Int) ≤ (0 : Int) ∧ (0 : Int) < (b.length : Int) then
 if (b.getD 0 (Ty.zero (.sl Tspec_l5Bit))).length * 16 ≤ 140737488355328 then
 (spec_l5Node_l15 c ((b.getD 0 (Ty.zero (.sl Tspec_l5Bit))).getD (IntKind.i64.wrap (((b.getD 0 (Ty.zero (.sl Tspec_l5Bit))).length : Int) - 1)).toNat (Ty.zero Tspec_l5Bit)) 0 (b.getD 0 (Ty.zero (.sl Tspec_l5Bit)))).bind fun t =>
 some t
 else none
 else none) (fun x =>
 if (0 : Int) ≤ (0 : Int) ∧ (0 : Int) < (b.length : Int) then
 if (b.getD 0 (Ty.zero (.sl Tspec_l5Bit))).length * 16 ≤ 140737488355328 then
 (spec_l5Node_l16 c 0 (b.getD 0 (Ty.zero (.sl Tspec_l5Bit)))).bind fun n =>
 some n
 else none
 else none))
 else
 mkr (S37_17 b c) (
 bif (bif (c.1 == 7) then (c.1 == 7) else (c.1 == 8)) then
 if (0 : Int) ≤ (0 : Int) ∧ (0 : Int) < (b.length : Int) then
 if ((b.getD 0 (Ty.zero (.sl Tspec_l5Bit))).length : Int) = (0 : Int) then none else
 (spec_l5Node_l18 b c ((b.getD 0 (Ty.zero (.sl Tspec_l5Bit))).length : Int) (Int.tmod c.2.2.1 ((b.getD 0 (Ty.zero (.sl Tspec_l5Bit))).length : Int))).bind fun l =>
 if (0 : Int) ≤ (0 : Int) ∧ (0 : Int) < (b.length : Int) then
 if (0 : Int) ≤ (IntKind.i64.wrap (((b.getD 0 (Ty.zero (.sl Tspec_l5Bit))).length : Int) - l)) ∧ (IntKind.i64.wrap (((b.getD 0 (Ty.zero (.sl Tspec_l5Bit))).length : Int) - l)) ≤ ((b.getD 0 (Ty.zero (.sl Tspec_l5Bit))).length : Int) ∧ ((b.getD 0 (Ty.zero (.sl Tspec_l5Bit))).length : Int) ≤ ((b.getD 0 (Ty.zero (.sl Tspec_l5Bit))).length : Int) then
 if (((b.getD 0 (Ty.zero (.sl Tspec_l5Bit))).take ((b.getD 0 (Ty.zero (.sl Tspec_l5Bit))).length : Int).toNat).drop (IntKind.i64.wrap (((b.getD 0 (Ty.zero (.sl Tspec_l5Bit))).length : Int) - l)).toNat).length * 16 ≤ 140737488355328 then
 if (0 : Int) ≤ (0 : Int) ∧ (0 : Int) < (b.length : Int) then
 if (0 : Int) ≤ (0 : Int) ∧ (0 : Int) ≤ (IntKind.i64.wrap (((b.getD 0 (Ty.zero (.sl Tspec_l5Bit))).length : Int) - l)) ∧ (IntKind.i64.wrap (((b.getD 0 (Ty.zero (.sl Tspec_l5Bit))).length : Int) - l)) ≤ ((b.getD 0 (Ty.zero (.sl Tspec_l5Bit))).length : Int) then
 if ((((b.getD 0 (Ty.zero (.sl Tspec_l5Bit))).take ((b.getD 0 (Ty.zero (.sl Tspec_l5Bit))).length : Int).toNat).drop (IntKind.i64.wrap (((b.getD 0 (Ty.zero (.sl Tspec_l5Bit))).length : Int) - l)).toNat).length + (((b.getD 0 (Ty.zero (.sl Tspec_l5Bit))).take (IntKind.i64.wrap (((b.getD 0 (Ty.zero (.sl Tspec_l5Bit))).length : Int) - l)).toNat).drop 0).length) * 16 ≤ 140737488355328 then
 some ((((b.getD 0 (Ty.zero (.sl Tspec_l5Bit))).take ((b.getD 0 (Ty.zero (.sl Tspec_l5Bit))).length : Int).toNat).drop (IntKind.i64.wrap (((b.getD 0 (Ty.zero (.sl Tspec_l5Bit))).length : Int) - l)).toNat) ++ (((b.getD 0 (Ty.zero (.sl Tspec_l5Bit))).take (IntKind.i64.wrap (((b.getD 0 (Ty.zero (.sl Tspec_l5Bit))).length : Int) - l)).toNat).drop 0))
 else none
 else none
 else none
 else none
 else none
 else none
 else none
 else
 bif (c.1 == 9) then
 (spec_l5Node_l19 b c 0 ([] : List Tspec_l5Bit.V)).bind fun e =>
 some e
 else
 some ([] : List Tspec_l5Bit.V)))
theorem T37_20 (a : (List Timpl_Decl.V)) (b : (List (List Tspec_l5Bit.V))) (c : Timpl_TNode.V) : JnOk E37 0 43 (code Tryz.f111) [1, 1, 0] (S37_20 a b c) (spec_l5Node_l20 a b c) (O37_20 a b c) := by
  unfold JnOk
  simp only [spec_l5Node_l20, mC, mI, mN, mB, mE, mM]
  simp (disch := refine sI ?_ <;> (repeat' refine sA ?_ ?_) <;> intro _ <;> kernel_rfl) only [spec_l5Node_l10, lp_ok (T37_10 _ _) (K := joinK 0 (E37.jn 43)), spec_l5Node_l11, lp_ok (T37_11 _) (K := joinK 0 (E37.jn 43)), spec_l5Node_l12, lp_ok (T37_12 _) (K := joinK 0 (E37.jn 43)), in_ok (T37_13 _ _) (K := joinK 0 (E37.jn 43)), jn_ok (T37_14 _ _) (K := joinK 0 (E37.jn 43)), spec_l5Node_l15, lp_ok (T37_15 _ _) (K := joinK 0 (E37.jn 43)), spec_l5Node_l16, lp_ok (T37_16 _) (K := joinK 0 (E37.jn 43)), in_ok (T37_17 _ _) (K := joinK 0 (E37.jn 43)), jn_ok (T37_18 _ _ _ _) (K := joinK 0 (E37.jn 43)), spec_l5Node_l19, lp_ok (T37_19 _ _) (K := joinK 0 (E37.jn 43))]
  kernel_rfl
def spec_l5Node (a : (List Timpl_Decl.V)) (c : Timpl_TNode.V) (b : (List (List Tspec_l5Bit.V))) : Option (List Tspec_l5Bit.V) :=
 (spec_l5Node_l20 a b c).bind fun d =>
 some d
theorem U37 (R : Type) (a : (List Timpl_Decl.V)) (c : Timpl_TNode.V) (b : (List (List Tspec_l5Bit.V))) (K : AV → List Blk → Option R) : runF E37 Tryz.f111 R [dD (.sl Timpl_Decl) a, dD Timpl_TNode c, dD (.sl (.sl Tspec_l5Bit)) b] [] K = (spec_l5Node a c b).bind fun r => K (.ref 0) [.row 150 .deep Tspec_l5Bit r] := by
  simp only [spec_l5Node, bC, bI, bN, bE, bA, bS, bO, bM]
  simp (disch := refine sI ?_ <;> (repeat' refine sA ?_ ?_) <;> intro _ <;> kernel_rfl) only [jn_ok (T37_20 _ _ _) (K := finK E37 Tryz.f111 0 R K)]
  kernel_rfl
def c111 : Va.Callee := brC [.d (.sl Timpl_Decl), .d Timpl_TNode, .d (.sl (.sl Tspec_l5Bit))] [⟨[.dat [] (.sl Timpl_Decl), .dat [] Timpl_TNode, .dat [] (.sl (.sl Tspec_l5Bit))], [], (List Tspec_l5Bit.V), fun p => spec_l5Node p.1.1 p.1.2.1 p.1.2.2.1, fun r => (.ref 0, [.row 150 .deep Tspec_l5Bit r])⟩]
theorem c111_snd : SoundC Tryz.prog 111 c111 := br_snd (fn := Tryz.f111) (by kernel_rfl) (by kernel_rfl) (by kernel_rfl) ⟨⟨E37, ⟨⟨tabok, fns_ok ⟨c133_snd, trivial⟩⟩, mixed⟩, fun p R K => U37 R p.1.1 p.1.2.1 p.1.2.2.1 K⟩, trivial⟩
abbrev E38 : Env := ⟨tab, lookH [], { deep := true, heads := [(5, { live := [0, 2, 4, 5] })], outs := [(5, { live := [2, 4] })], joins := [(2, { live := [0, 2, 13] })], ents := [(2, [0, 2])], res := [(0, .row [1] 169 (.int .u64) true)] }⟩
def S38_1 (a : (List Int)) (b : Int) (z_ : (Int × (List Int))) : St := sT 51 [(0, dD (.sl (.int .u8)) a), (2, .ptr 0 0 [] 0), (4, .ptr 1 0 [] 0), (5, dI z_.1)] [.box (.pr (dI 0) (.pr .zs .u)), .box (.pr (dI b) (.pr (.ref 2) .u)), .row 169 .deep (.int .u64) z_.2]
def O38_1 (a : (List Int)) (b : Int) : (List Int) → Ex × St := fun c => ((.exit 0), sT 51 [(2, .ptr 0 0 [] 0), (4, .ptr 1 0 [] 0)] [.box (.pr (dI 0) (.pr .zs .u)), .box (.pr (dI b) (.pr (.ref 2) .u)), .row 169 .deep (.int .u64) c])
def spec_l1From_l1_g (a : (List Int)) (b : Int) (d : Int) (e : (List Int)) : Option ((Int × (List Int)) ⊕ (List Int)) :=
 bif (decide (d < (a.length : Int))) then
 if (0 : Int) ≤ (IntKind.i64.wrap (Int.tdiv d 64)) ∧ (IntKind.i64.wrap (Int.tdiv d 64)) < (e.length : Int) then
 if (0 : Int) ≤ d ∧ d < (a.length : Int) then
 if (IntKind.u64.wrap (Int.tmod d 64)) < (0 : Int) then none else
 if (0 : Int) ≤ (IntKind.i64.wrap (Int.tdiv d 64)) ∧ (IntKind.i64.wrap (Int.tdiv d 64)) < (e.length : Int) then
 some (.inl ((IntKind.i64.wrap (d + 1)), (e.set (IntKind.i64.wrap (Int.tdiv d 64)).toNat (orI .u64 (e.getD (IntKind.i64.wrap (Int.tdiv d 64)).toNat (Ty.zero (.int .u64))) (shlI .u64 (IntKind.u64.wrap (a.getD d.toNat (Ty.zero (.int .u8)))) (IntKind.u64.wrap (Int.tmod d 64)))))))
 else none
 else none
 else none
 else
 some (.inr e)
def spec_l1From_l1_r (a : (List Int)) (b : Int) (z_ : (Int × (List Int))) := spec_l1From_l1_g a b z_.1 z_.2
def spec_l1From_l1 (a : (List Int)) (b : Int) (d : Int) (e : (List Int)) := fix (spec_l1From_l1_r a b) (d, e)
theorem T38_1 (a : (List Int)) (b : Int) : LpOk E38 0 5 (code Tryz.f95) [1, 1, 1, 0, 1, 0] (S38_1 a b) (spec_l1From_l1_r a b) (O38_1 a b) := by
  intro _
  simp only [spec_l1From_l1_r, spec_l1From_l1_g, mC, mI, mN, mB, mE, mM]
  kernel_rfl
def S38_0 (a : (List Int)) : St := sT 51 [(0, dD (.sl (.int .u8)) a), (2, .ptr 0 0 [] 0)] [.box (.pr (dI 0) (.pr .zs .u))]
def O38_0 (a : (List Int)) (m0 : Bool) : Ex × St := (.normal, sT 51 [(0, dD (.sl (.int .u8)) a), (2, .ptr 0 0 [] 0), (13, dB m0)] [.box (.pr (dI 0) (.pr .zs .u))])
theorem T38_0 (a : (List Int)) : jnS E38 0 2 (code Tryz.f95) [1, 0, 0] (S38_0 a) = some (O38_0 a ((decide ((a.length : Int) < 1)) || (decide ((a.length : Int) > 4096)))) := by
  have h0 : jnS E38 0 2 (code Tryz.f95) [1, 0, 0] (S38_0 a) =
 bif (decide ((a.length : Int) < 1)) then
 some (O38_0 a true)
 else
 some (O38_0 a (decide ((a.length : Int) > 4096))) := by kernel_rfl
  rw [h0]
  cases h1 : (decide ((a.length : Int) < 1))
  · first | rfl | kernel_rfl
  · first | rfl | kernel_rfl
def spec_l1From (a : (List Int)) : Option (Int × Bool × (List Int)) :=
 mkr (S38_0 a) (
 bif ((decide ((a.length : Int) < 1)) || (decide ((a.length : Int) > 4096))) then
 some (0, false, ([] : List Int))
 else
 if Ty.row (.int .u64) = true ∧ (0 : Int) ≤ (IntKind.i64.wrap (Int.tdiv (IntKind.i64.wrap ((a.length : Int) + 63)) 64)) ∧ (IntKind.i64.wrap (Int.tdiv (IntKind.i64.wrap ((a.length : Int) + 63)) 64)) ≤ (IntKind.i64.wrap (Int.tdiv (IntKind.i64.wrap ((a.length : Int) + 63)) 64)) ∧ ((8 : Nat) : Int) * (IntKind.i64.wrap (Int.tdiv (IntKind.i64.wrap ((a.length : Int) + 63)) 64)) ≤ (281474976710656 : Int) ∧ (IntKind.i64.wrap (Int.tdiv (IntKind.i64.wrap ((a.length : Int) + 63)) 64)) ≤ (9223372036854775807 : Int) then
 (spec_l1From_l1 a (a.length : Int) 0 (List.replicate (IntKind.i64.wrap (Int.tdiv (IntKind.i64.wrap ((a.length : Int) + 63)) 64)).toNat 0)).bind fun c =>
 some ((a.length : Int), true, c)
 else none)
theorem U38 (R : Type) (a : (List Int)) (K : AV → List Blk → Option R) : runF E38 Tryz.f95 R [dD (.sl (.int .u8)) a] [] K = (spec_l1From a).bind fun r => K (.cons (.pr (dI r.1) (.pr (.ref 0) .u)) (.cons (dB r.2.1) .nil)) [.row 169 .deep (.int .u64) r.2.2] := by
  simp only [spec_l1From, bC, bI, bN, bE, bA, bS, bO, bM]
  simp (disch := refine sI ?_ <;> (repeat' refine sA ?_ ?_) <;> intro _ <;> kernel_rfl) only [in_ok (T38_0 _) (K := finK E38 Tryz.f95 0 R K), spec_l1From_l1, lp_ok (T38_1 _ _) (K := finK E38 Tryz.f95 0 R K)]
  kernel_rfl
def c95 : Va.Callee := brC [.d (.sl (.int .u8))] [⟨[.dat [] (.sl (.int .u8))], [], (Int × Bool × (List Int)), fun p => spec_l1From p.1.1, fun r => (.cons (.pr (dI r.1) (.pr (.ref 0) .u)) (.cons (dB r.2.1) .nil), [.row 169 .deep (.int .u64) r.2.2])⟩]
theorem c95_snd : SoundC Tryz.prog 95 c95 := br_snd (fn := Tryz.f95) (by kernel_rfl) (by kernel_rfl) (by kernel_rfl) ⟨⟨E38, ⟨⟨tabok, fns_ok trivial⟩, mixed⟩, fun p R K => U38 R p.1.1 K⟩, trivial⟩
abbrev E39 : Env := ⟨tab, lookH [(95, c95)], { deep := true, heads := [(3, { live := [0, 4, 5], pre := [(4, false, .row [] 135 Timpl_Seg true)] }), (7, { live := [0, 4, 6, 7] }), (12, { live := [0, 4, 5, 6] })], outs := [(3, { live := [4] }), (7, { live := [0, 4, 6, 7], frz := [(7, false, (.sl (.int .u8)))] }), (12, { live := [0, 4, 5, 6] })], joins := [(8, { live := [0, 4, 6, 7] }), (13, { live := [0, 4, 5, 6] }), (15, { live := [0, 4, 6] })], ents := [(8, [0, 4, 6, 7]), (13, [0, 4, 5, 6]), (15, [0, 4, 5, 6])] }⟩
def S39_10 (a : (List Tspec_l5Bit.V)) (z_ : (Int × (List Timpl_Seg.V))) : St := sT 121 [(0, dD (.sl Tspec_l5Bit) a), (4, .ref 0), (5, dI z_.1)] [.row 135 .deep Timpl_Seg z_.2]
def O39_10 (a : (List Tspec_l5Bit.V)) : (List Timpl_Seg.V) → Ex × St := fun b => ((.exit 0), sT 121 [(4, .ref 0)] [.row 135 .deep Timpl_Seg b])
def S39_9 (a : (List Tspec_l5Bit.V)) (c : Int) (d : (List Timpl_Seg.V)) (e : Int) : St := sT 121 [(0, dD (.sl Tspec_l5Bit) a), (4, .ref 0), (5, dI c), (6, dI e)] [.row 135 .deep Timpl_Seg d]
def O39_9 (a : (List Tspec_l5Bit.V)) (c : Int) (d : (List Timpl_Seg.V)) (e : Int) : (Int × (List Timpl_Seg.V)) → Ex × St := fun g => (.normal, sT 121 [(0, dD (.sl Tspec_l5Bit) a), (4, .ref 0), (6, dI g.1)] [.row 135 .deep Timpl_Seg g.2])
def S39_8 (a : (List Tspec_l5Bit.V)) (c : Int) (d : (List Timpl_Seg.V)) (z_ : Int) : St := sT 121 [(0, dD (.sl Tspec_l5Bit) a), (4, .ref 0), (5, dI c), (6, dI z_)] [.row 135 .deep Timpl_Seg d]
def O39_8 (a : (List Tspec_l5Bit.V)) (c : Int) (d : (List Timpl_Seg.V)) : Int → Ex × St := fun i => ((.exit 4), sT 121 [(0, dD (.sl Tspec_l5Bit) a), (4, .ref 0), (5, dI c), (6, dI i)] [.row 135 .deep Timpl_Seg d])
def S39_7 (a : (List Tspec_l5Bit.V)) (c : Int) (j : Int) (d : (List Timpl_Seg.V)) : St := sT 121 [(0, dD (.sl Tspec_l5Bit) a), (4, .ref 0), (5, dI c), (6, dI j)] [.row 135 .deep Timpl_Seg d]
def O39_7 (a : (List Tspec_l5Bit.V)) (c : Int) (j : Int) (d : (List Timpl_Seg.V)) : (Unit ⊕ Unit) → Ex × St := Sum.elim (fun k => (.normal, sT 121 [(0, dD (.sl Tspec_l5Bit) a), (4, .ref 0), (5, dI c), (6, dI j)] [.row 135 .deep Timpl_Seg d])) (fun l => ((.exit 4), sT 121 [(0, dD (.sl Tspec_l5Bit) a), (4, .ref 0), (5, dI c), (6, dI j)] [.row 135 .deep Timpl_Seg d]))
def spec_l5Form_l7 (a : (List Tspec_l5Bit.V)) (c : Int) (j : Int) (d : (List Timpl_Seg.V)) : Option (Unit ⊕ Unit) :=
 bif (decide (j < (a.length : Int))) then
 if (0 : Int) ≤ j ∧ j < (a.length : Int) then
 if (0 : Int) ≤ c ∧ c < (a.length : Int) then
 bif ((a.getD j.toNat (Ty.zero Tspec_l5Bit)).1 == (a.getD c.toNat (Ty.zero Tspec_l5Bit)).1) then
 if (0 : Int) ≤ j ∧ j < (a.length : Int) then
 if (0 : Int) ≤ (IntKind.i64.wrap (j - 1)) ∧ (IntKind.i64.wrap (j - 1)) < (a.length : Int) then
 bif ((a.getD j.toNat (Ty.zero Tspec_l5Bit)).2.1 == (IntKind.i64.wrap ((a.getD (IntKind.i64.wrap (j - 1)).toNat (Ty.zero Tspec_l5Bit)).2.1 + 1))) then
 some (.inl ())
 else
 some (.inr ())
 else none
 else none
 else
 some (.inr ())
 else none
 else none
 else
 some (.inr ())
theorem T39_7 (a : (List Tspec_l5Bit.V)) (c : Int) (j : Int) (d : (List Timpl_Seg.V)) : JnOk E39 0 13 (sub (sub (sub (code Tryz.f112) [1, 1, 1, 0, 0, 0]) [1, 0, 1, 0]) [1, 1, 0, 0, 0]) [0] (S39_7 a c j d) (spec_l5Form_l7 a c j d) (O39_7 a c j d) := by
  unfold JnOk
  simp only [spec_l5Form_l7, mC, mI, mN, mB, mE, mM]
  kernel_rfl
def spec_l5Form_l8_g (a : (List Tspec_l5Bit.V)) (c : Int) (d : (List Timpl_Seg.V)) (j : Int) : Option (Int ⊕ Int) :=
 (spec_l5Form_l7 a c j d).bind (Sum.elim (fun k =>
 some (.inl (IntKind.i64.wrap (j + 1)))) (fun l =>
 some (.inr j)))
def spec_l5Form_l8_r (a : (List Tspec_l5Bit.V)) (c : Int) (d : (List Timpl_Seg.V)) (z_ : Int) := spec_l5Form_l8_g a c d z_
def spec_l5Form_l8 (a : (List Tspec_l5Bit.V)) (c : Int) (d : (List Timpl_Seg.V)) (j : Int) := fix (spec_l5Form_l8_r a c d) j
theorem T39_8 (a : (List Tspec_l5Bit.V)) (c : Int) (d : (List Timpl_Seg.V)) : LpOk E39 0 12 (sub (sub (code Tryz.f112) [1, 1, 1, 0, 0, 0]) [1, 0, 1, 0]) [1, 1, 0, 0] (S39_8 a c d) (spec_l5Form_l8_r a c d) (O39_8 a c d) := by
  intro _
  simp only [spec_l5Form_l8_r, spec_l5Form_l8_g, mC, mI, mN, mB, mE, mM]
  simp (disch := refine sI ?_ <;> (repeat' refine sA ?_ ?_) <;> intro _ <;> kernel_rfl) only [jn_ok (T39_7 _ _ _ _) (K := stepK 0 (E39.hd 12) (E39.ot 12))]
  kernel_rfl
def S39_6 (a : (List Tspec_l5Bit.V)) (d : (List Timpl_Seg.V)) (z_ : (Int × (List Int))) : St := sT 121 [(0, dD (.sl Tspec_l5Bit) a), (4, .ref 0), (6, dI z_.1), (7, .ref 1)] [.row 135 .deep Timpl_Seg d, .row 5 .deep (.int .u8) z_.2]
def O39_6 (a : (List Tspec_l5Bit.V)) (d : (List Timpl_Seg.V)) : (Int × (List Int)) → Ex × St := fun n => ((.exit 2), sT 121 [(0, dD (.sl Tspec_l5Bit) a), (4, .ref 0), (6, dI n.1), (7, dD (.sl (.int .u8)) n.2)] [.row 135 .deep Timpl_Seg d])
def S39_5 (a : (List Tspec_l5Bit.V)) (o : Int) (d : (List Timpl_Seg.V)) (q : (List Int)) : St := sT 121 [(0, dD (.sl Tspec_l5Bit) a), (4, .ref 0), (6, dI o), (7, .ref 1)] [.row 135 .deep Timpl_Seg d, .row 5 .deep (.int .u8) q]
def O39_5 (a : (List Tspec_l5Bit.V)) (o : Int) (d : (List Timpl_Seg.V)) (q : (List Int)) : (Unit ⊕ Unit) → Ex × St := Sum.elim (fun s => (.normal, sT 121 [(0, dD (.sl Tspec_l5Bit) a), (4, .ref 0), (6, dI o), (7, .ref 1)] [.row 135 .deep Timpl_Seg d, .row 5 .deep (.int .u8) q])) (fun t => ((.exit 2), sT 121 [(0, dD (.sl Tspec_l5Bit) a), (4, .ref 0), (6, dI o), (7, .ref 1)] [.row 135 .deep Timpl_Seg d, .row 5 .deep (.int .u8) q]))
def spec_l5Form_l5 (a : (List Tspec_l5Bit.V)) (o : Int) (d : (List Timpl_Seg.V)) (q : (List Int)) : Option (Unit ⊕ Unit) :=
 bif (decide (o < (a.length : Int))) then
 if (0 : Int) ≤ o ∧ o < (a.length : Int) then
 bif (decide ((a.getD o.toNat (Ty.zero Tspec_l5Bit)).1 < 0)) then
 some (.inl ())
 else
 some (.inr ())
 else none
 else
 some (.inr ())
theorem T39_5 (a : (List Tspec_l5Bit.V)) (o : Int) (d : (List Timpl_Seg.V)) (q : (List Int)) : JnOk E39 0 8 (sub (sub (sub (code Tryz.f112) [1, 1, 1, 0, 0, 0]) [1, 0, 1, 0]) [1, 0, 1, 0, 0, 0]) [0] (S39_5 a o d q) (spec_l5Form_l5 a o d q) (O39_5 a o d q) := by
  unfold JnOk
  simp only [spec_l5Form_l5, mC, mI, mN, mB, mE, mM]
  kernel_rfl
def spec_l5Form_l6_g (a : (List Tspec_l5Bit.V)) (d : (List Timpl_Seg.V)) (o : Int) (q : (List Int)) : Option ((Int × (List Int)) ⊕ (Int × (List Int))) :=
 (spec_l5Form_l5 a o d q).bind (Sum.elim (fun s =>
 if (0 : Int) ≤ o ∧ o < (a.length : Int) then
 if (q.length + ([(IntKind.u8.wrap (a.getD o.toNat (Ty.zero Tspec_l5Bit)).2.1)] : List Int).length) * 1 ≤ 140737488355328 then
 some (.inl ((IntKind.i64.wrap (o + 1)), (q ++ ([(IntKind.u8.wrap (a.getD o.toNat (Ty.zero Tspec_l5Bit)).2.1)] : List Int))))
 else none
 else none) (fun t =>
 some (.inr (o, q))))
def spec_l5Form_l6_r (a : (List Tspec_l5Bit.V)) (d : (List Timpl_Seg.V)) (z_ : (Int × (List Int))) := spec_l5Form_l6_g a d z_.1 z_.2
def spec_l5Form_l6 (a : (List Tspec_l5Bit.V)) (d : (List Timpl_Seg.V)) (o : Int) (q : (List Int)) := fix (spec_l5Form_l6_r a d) (o, q)
theorem T39_6 (a : (List Tspec_l5Bit.V)) (d : (List Timpl_Seg.V)) : LpOk E39 0 7 (sub (sub (code Tryz.f112) [1, 1, 1, 0, 0, 0]) [1, 0, 1, 0]) [1, 0, 1, 0, 0] (S39_6 a d) (spec_l5Form_l6_r a d) (O39_6 a d) := by
  intro _
  simp only [spec_l5Form_l6_r, spec_l5Form_l6_g, mC, mI, mN, mB, mE, mM]
  simp (disch := refine sI ?_ <;> (repeat' refine sA ?_ ?_) <;> intro _ <;> kernel_rfl) only [jn_ok (T39_5 _ _ _ _) (K := stepK 0 (E39.hd 7) (E39.ot 7))]
  kernel_rfl
def spec_l5Form_l9 (a : (List Tspec_l5Bit.V)) (c : Int) (d : (List Timpl_Seg.V)) (e : Int) : Option (Int × (List Timpl_Seg.V)) :=
 if (0 : Int) ≤ c ∧ c < (a.length : Int) then
 bif (decide ((a.getD c.toNat (Ty.zero Tspec_l5Bit)).1 < 0)) then
 if (0 : Int) ≤ c ∧ c < (a.length : Int) then
 (spec_l5Form_l6 a d e ([(IntKind.u8.wrap (a.getD c.toNat (Ty.zero Tspec_l5Bit)).2.1)] : List Int)).bind fun n =>
 (spec_l1From n.2).bind fun u =>
 if (d.length + ([((-1), 0, u.1, (u.1, u.2.2, ()), ())] : List Timpl_Seg.V).length) * 56 ≤ 140737488355328 then
 some (n.1, (d ++ ([((-1), 0, u.1, (u.1, u.2.2, ()), ())] : List Timpl_Seg.V)))
 else none
 else none
 else
 (spec_l5Form_l8 a c d e).bind fun i =>
 if (0 : Int) ≤ c ∧ c < (a.length : Int) then
 if (0 : Int) ≤ c ∧ c < (a.length : Int) then
 if (d.length + ([((a.getD c.toNat (Ty.zero Tspec_l5Bit)).1, (a.getD c.toNat (Ty.zero Tspec_l5Bit)).2.1, (IntKind.i64.wrap (i - c)), (0, ([] : List Int), ()), ())] : List Timpl_Seg.V).length) * 56 ≤ 140737488355328 then
 some (i, (d ++ ([((a.getD c.toNat (Ty.zero Tspec_l5Bit)).1, (a.getD c.toNat (Ty.zero Tspec_l5Bit)).2.1, (IntKind.i64.wrap (i - c)), (0, ([] : List Int), ()), ())] : List Timpl_Seg.V)))
 else none
 else none
 else none
 else none
theorem T39_9 (a : (List Tspec_l5Bit.V)) (c : Int) (d : (List Timpl_Seg.V)) (e : Int) : JnOk E39 0 15 (sub (code Tryz.f112) [1, 1, 1, 0, 0, 0]) [1, 0, 1, 0] (S39_9 a c d e) (spec_l5Form_l9 a c d e) (O39_9 a c d e) := by
  unfold JnOk
  simp only [spec_l5Form_l9, mC, mI, mN, mB, mE, mM]
  simp (disch := refine sI ?_ <;> (repeat' refine sA ?_ ?_) <;> intro _ <;> kernel_rfl) only [spec_l5Form_l6, lp_ok (T39_6 _ _) (K := joinK 0 (E39.jn 15)), spec_l5Form_l8, lp_ok (T39_8 _ _ _) (K := joinK 0 (E39.jn 15))]
  kernel_rfl
def spec_l5Form_l10_g (a : (List Tspec_l5Bit.V)) (c : Int) (d : (List Timpl_Seg.V)) : Option ((Int × (List Timpl_Seg.V)) ⊕ (List Timpl_Seg.V)) :=
 bif (decide (c < (a.length : Int))) then
 (spec_l5Form_l9 a c d (IntKind.i64.wrap (c + 1))).bind fun g =>
 some (.inl (g.1, g.2))
 else
 some (.inr d)
def spec_l5Form_l10_r (a : (List Tspec_l5Bit.V)) (z_ : (Int × (List Timpl_Seg.V))) := spec_l5Form_l10_g a z_.1 z_.2
def spec_l5Form_l10 (a : (List Tspec_l5Bit.V)) (c : Int) (d : (List Timpl_Seg.V)) := fix (spec_l5Form_l10_r a) (c, d)
theorem T39_10 (a : (List Tspec_l5Bit.V)) : LpOk E39 0 3 (code Tryz.f112) [1, 1, 1, 0, 0] (S39_10 a) (spec_l5Form_l10_r a) (O39_10 a) := by
  intro _
  simp only [spec_l5Form_l10_r, spec_l5Form_l10_g, mC, mI, mN, mB, mE, mM]
  simp (disch := refine sI ?_ <;> (repeat' refine sA ?_ ?_) <;> intro _ <;> kernel_rfl) only [jn_ok (T39_9 _ _ _ _) (K := stepK 0 (E39.hd 3) (E39.ot 3))]
  kernel_rfl
def spec_l5Form (a : (List Tspec_l5Bit.V)) : Option (Bool × (List Timpl_Seg.V)) :=
 (spec_l5Form_l10 a 0 ([] : List Timpl_Seg.V)).bind fun b =>
 some ((decide ((b.length : Int) ≤ 2000)), b)
theorem U39 (R : Type) (a : (List Tspec_l5Bit.V)) (K : AV → List Blk → Option R) : runF E39 Tryz.f112 R [dD (.sl Tspec_l5Bit) a] [] K = (spec_l5Form a).bind fun r => K (.cons (.ref 0) (.cons (dB r.1) .nil)) [.row 135 .deep Timpl_Seg r.2] := by
  simp only [spec_l5Form, bC, bI, bN, bE, bA, bS, bO, bM]
  simp (disch := refine sI ?_ <;> (repeat' refine sA ?_ ?_) <;> intro _ <;> kernel_rfl) only [spec_l5Form_l10, lp_ok (T39_10 _) (K := finK E39 Tryz.f112 0 R K)]
  kernel_rfl
def c112 : Va.Callee := brC [.d (.sl Tspec_l5Bit)] [⟨[.dat [] (.sl Tspec_l5Bit)], [], (Bool × (List Timpl_Seg.V)), fun p => spec_l5Form p.1.1, fun r => (.cons (.ref 0) (.cons (dB r.1) .nil), [.row 135 .deep Timpl_Seg r.2])⟩]
theorem c112_snd : SoundC Tryz.prog 112 c112 := br_snd (fn := Tryz.f112) (by kernel_rfl) (by kernel_rfl) (by kernel_rfl) ⟨⟨E39, ⟨⟨tabok, fns_ok ⟨c95_snd, trivial⟩⟩, mixed⟩, fun p R K => U39 R p.1.1 K⟩, trivial⟩
end
end Go.Proofs.X
